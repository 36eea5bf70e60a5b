/-
  The framework, third part: regions in any order, code, loops over maps, functions, arguments as data, laws that say true. Conditions: none.
-/
import Derived.Test.YtdickabkndfjhaaGreatFxB
import Derived.Eval
import Derived.Scope
import Derived.Maps.RangeRun
import Derived.Carry
import Derived.ChangeSlices
import Derived.OpenShut
import Derived.ProofKit
import Derived.WalkKit
import Derived.Lib.SliceRun
namespace Go.Fx
open Go
set_option linter.unusedVariables false
set_option linter.unusedSimpArgs false
def Uf:NS→List Nat→NS
 | ns,[]=>ns
 | ns,p::ps=>Uf (ns.set p none) ps
def WU:Option (Nat×Nat×Nat)→List Nat
 | some (b,_)=>[b]
 | none=>[]
theorem sC(q:Option (Nat×Nat×Nat))(ns:NS):MO (q::ns)=WU q++MO ns:=by
 cases q with
 | none=>rfl
 | some q=>obtain⟨b,c⟩:=q;rfl
theorem BB(q:Option (Nat×Nat×Nat))(l:List Pl):Lh (Nt q::l)=WU q++Lh l:=by
 cases q with
 | none=>rfl
 | some q=>obtain⟨b,c,n⟩:=q;simp[Nt,Lh,WU,MO]
theorem B7{q:Option (Nat×Nat×Nat)}:∀{ns:NS}{p:Nat}{q0:Option (Nat×Nat×Nat)},ns[p]? = some q0→(WU q++MO ns).Perm (WU q0++MO (ns.set p q))
 | [],p,q0,h=>by simp at h
 | y::r,0,q0,h=>by simp only[PW,NJ]at h;subst h;rw[QeW,sC,sC,← P5,← P5];exact List.perm_append_comm.append_right _
 | y::r,p+1,q0,h=>by
  rw[QgP,sC,sC]
  have ih:=B7 (q:=q) (ns:=r) (p:=p) (by simpa using h)
  have h1:(WU q++(WU y++MO r)).Perm (WU y++(WU q++MO r)):=by rw[← P5,← P5];exact List.perm_append_comm.append_right _
  have h2:(WU y++(WU q0++MO (r.set p q))).Perm (WU q0++(WU y++MO (r.set p q))):=by rw[← P5,← P5];exact List.perm_append_comm.append_right _
  exact h1.trans ((ih.append_left _).trans h2)
theorem wZ:∀{ps:List Nat}{ns:NS},(Uf ns ps).length=ns.length
 | [],ns=>rfl
 | p::ps,ns=>by simp only[Uf];rw[wZ,Xx]
theorem Cn:∀{ps:List Nat}{ns:NS}{k:Nat},k∉ps→(Uf ns ps)[k]? = ns[k]?
 | [],ns,k,h=>rfl
 | p::ps,ns,k,h=>by
  simp only[Uf]
  rw[Cn (λhk=>h (by simp[hk])),List.getElem?_set_ne (λe=>h (by simp[e]))]
theorem ze:∀{ps:List Nat}{ns:NS}{k:Nat}{q:Option (Nat×Nat×Nat)},ns[k]? = some none→(Uf ns ps)[k]? = some q→q=none
 | [],ns,k,q,h0,h=>by simp only[Uf]at h;rw[h0]at h;cases h;rfl
 | p::ps,ns,k,q,h0,h=>by
  simp only[Uf]at h;refine ze (ns:=ns.set p none) ?_ h;by_cases hp:p=k
  ·subst hp;rw[List.getElem?_set_self (K_.1 h0).1]
  ·rw[List.getElem?_set_ne hp];exact h0
theorem Ft:∀{ps:List Nat}{ns:NS}{k:Nat}{q:Option (Nat×Nat×Nat)},k∈ps→(Uf ns ps)[k]? = some q→q=none
 | p::ps,ns,k,q,hk,h=>by
  simp only[Uf]at h;by_cases hp:p=k
  ·subst hp;by_cases hlt:p<ns.length
   ·exact ze (ns:=ns.set p none) (by rw[List.getElem?_set_self hlt]) h
   ·have:p<(Uf (ns.set p none) ps).length:=(K_.1 h).1;rw[wZ,Xx]at this;exact absurd this hlt
  ·exact Ft ((Nz.1 hk).resolve_left (λe=>hp e.symm)) h
theorem zc:∀{ps:List Nat}{ns:NS},ps.Nodup→(∀p∈ps,p<ns.length)→(MO ns).Perm (Lh (ps.map λp=>Nt ((ns[p]?).getD none))++MO (Uf ns ps))
 | [],ns,_,_=>by simp[Lh,Uf]
 | p::ps,ns,hn,hl=>by
  obtain⟨h1,h2⟩:=Ug.1 hn
  have hp:=hl p (by simp)
  have hq:ns[p]? = some ns[p]:=K9 hp;have e1:=B7 (q:=none) hq;simp only[WU,PE]at e1
  have ih:=zc (ps:=ps) (ns:=ns.set p none) h2 (λp' h=>by rw[Xx];exact hl p' (by simp[h]))
  have e2:(ps.map λp'=>Nt (((ns.set p none)[p']?).getD none))=ps.map λp'=>Nt ((ns[p']?).getD none):=by
   refine YC λp' hp'=>?_
   rw[List.getElem?_set_ne (λe=>h1 (by rw[e];exact hp'))]
  rw[e2]at ih;simp only[M9,BB,Uf];rw[hq,Ws,P5];refine e1.trans ?_;exact ih.append_left _
section
variable{F:Fam}{P:Program}{T:TypeId→Option (TI F)}{Γ : Ctx F}{o:Oper}{vals:List (Dat F)}{mm:Nat→Option (Mg F)}{c:Nat}{R:Type}{K:SS F→Option R}
variable{own:Ow}{g:G}{w:World}{m:Nat→Option (Mg F)}{u:Nat→Bool}{a:Act}
theorem LQ.Pq(hm:LQ own g w m){id k n:Nat}(h:N9 n (g.ids id) (g.ids k)):LQ own g w (Ml m [(id,some (.Pq k n))]):=by
 have hother:∀x,x≠id→Ml m [(id,some (.Pq k n))] x=m x:=λx hx=>by
  simp only[Ml]
  have:Nat.beq id x=false:=by
   cases hb:Nat.beq id x with
   | false=>rfl
   | true=>exact absurd (Rh hb).symm hx
  rw[this];simp
 have hself:Ml m [(id,some (.Pq k n))] id=some (.Pq k n):=by simp[Ml]
 refine hm.O_ (S:=λx=>x=id) (Le.refl g w) (λx hx B hB=>by rw[hother x hx]at hB;exact hB) (λ_ _=>rfl) (λx B b hx hB ho hb=>⟨rfl,(hm.own x B b hB ho hb).2⟩) ?_ hm.Li hm.io hm.len
 rintro x B rfl hB;rw[hself]at hB;cases hB
 exact⟨h,λb ho=>by cases ho⟩
theorem xe:∀{rs:List (Mg F)} {c:Nat} {p:Nat×Mg F},p∈nmF c rs→∃j,p.1=c+j∧rs[j]? = some p.2
 | B::r,c,p,h=>by
  rcases Nz.1 h with rfl | h
  ·exact⟨0,rfl,rfl⟩
  ·obtain⟨j,h1,h2⟩:=xe h
   exact⟨j+1,by omega,by simpa using h2⟩
theorem xK(hm:LQ own g w m)(hall:∀b,w.heap.size≤b→own.o b){id c i:Nat}{t:Ty}{l:List (ET F t)}{x:ET F t}(hB:m id=some (.Nc t l))(hx:l[i]? = some x){ks:List Nat}(hks:ks.Nodup)
  {rs:List (Mg F)} (hrs:rs.length=ks.length) (hr:∀(j:Nat)(B:Mg F),rs[j]? = some B→∃q t2 l2,ks[j]? = some q∧B = .row t2 l2∧(LZ F t x)[q]? = some (.sl t2 l2)) (hkl:∀q∈ks,q<LY F t)
  (hf:∀j,j<ks.length+1→g.ids (c+j)=none) :
  ∃(g2:G)(b cap:Nat)(n:Nat×NS),Le g w g2 w∧LQ own g2 w (Ml m (Rq id c t l i ks rs))∧g2.Li=g.Li∧g2.len=g.len∧(∀y,¬ (c≤y∧y<c+ks.length+1)→g2.ids y=g.ids y)∧
   g.ids id=some (some (b,cap,n))∧g2.ids c=some (some (b,cap,n.1,Uf n.2 (ks.map (i*LY F t + ·))))∧(∀j q,ks[j]? = some q→g2.ids (c+1+j)=some (Nt ((n.2[i*LY F t+q]?).getD none)))∧
   P8 w g.Li t l (some (b,cap,n))∧(∀y b',g2.blk y b'→(g.blk y b'∧¬ (c≤y∧y<c+ks.length+1))∨g.blk id b'):=by
 obtain⟨pl,hid,hO⟩:=hm.ok id _ hB;have hlt:i<l.length:=(K_.1 hx).1
 cases pl with
 | none=>have:l = []:=hO;subst this;simp at hlt
 | some q=>
 obtain⟨b,cap,n⟩:=q;obtain⟨q1,q2,q3,q4,q5,cur,e,q6,q7,q8⟩:=hO;have hO':P8 w g.Li t l (some (b,cap,n)):=⟨q1,q2,q3,q4,q5,cur,e,q6,q7,q8⟩
 have hpos:∀q∈ks,i*LY F t+q<n.2.length:=by intro q hq;have:=hkl q hq;rw[q4,iq];have h3:(i+1)*LY F t≤l.length*LY F t:=Rp _ hlt;rw[TF]at h3;omega
 obtain⟨ps,hps⟩:∃ps,ps=ks.map (i*LY F t + ·):=⟨_,rfl⟩
 have hpn:ps.Nodup:=by
  subst hps
  exact QfW.2 (hks.imp λh e=>h (by simpa using e))
 have hpl:∀p∈ps,p<n.2.length:=by subst hps;intro p hp;obtain⟨q,h1,rfl⟩:=Ra.1 hp;exact hpos q h1
 have hperm:=zc hpn hpl;obtain⟨Mk,aau⟩:∃Mk:List Pl,Mk=some (b,cap,n.1,Uf n.2 ps)::ps.map λp=>Nt ((n.2[p]?).getD none):=⟨_,rfl⟩
 have Zm:Mk.length=ks.length+1:=by rw[aau,hps];simp
 have ace:Lh Mk=b::(MO (Uf n.2 ps)++Lh (ps.map λp=>Nt ((n.2[p]?).getD none))):=by rw[aau];rfl
 have Vi:(b::MO n.2).Perm (Lh Mk):=by rw[ace];exact(hperm.trans QdD).cons _
 have hmem:∀b',b'∈Lh Mk↔g.blk id b':=by
  intro b';rw[← Vi.mem_iff];constructor
  ·intro h;exact⟨b,(cap,n),hid,h⟩
  ·rintro⟨b0,c0,h1,h2⟩;rw[hid]at h1;cases h1;exact h2
 have hown1:∀b',g.blk id b'→own.o b'∧¬ g.Li b':=λb' h=>hm.own id _ b' hB rfl h;have afD:∀b',g.blk id b'→b'<w.heap.size:=λb' h=>(hm.ok id _ hB).place hm.Li rfl h
 have WG:Lh ([some id].map (Mi g))=b::MO n.2:=by simp[Mi,hid,Lh]
 have hP0:Sw w g.Li (Lh ([some id].map (Mi g))):=by rw[WG];refine⟨q5,λb' h=>(hown1 b' ⟨b,(cap,n),hid,h⟩).2,λb' h=>afD b' ⟨b,(cap,n),hid,h⟩⟩
 have hP1:Sw w g.Li (Lh []++Lh Mk):=by
  refine⟨?_,λb' h=>(hown1 b' ((hmem b').1 (by simpa[Lh]using h))).2,λb' h=>afD b' ((hmem b').1 (by simpa[Lh]using h))⟩
  simp only[Lh,PE];exact Vi.nodup_iff.1 q5
 have hfr:∀k,k<Mk.length→g.ids (c+k)=none:=λk hk=>hf k (by omega)
 have YN:Le g w (g.back c Mk g.Li) w:=by
  refine⟨λy r hy=>?_,λ_ h=>h,λ_ _=>rfl,λ_ h=>h,λ_ _=>rfl⟩
  rw[ef (λhc=>by have:=hfr (y - c) (by omega);rw[QeP hc.1]at this;rw[this]at hy;cases hy)]
  exact hy
 have hnm:Pm (g.back c Mk g.Li) c Mk:=uo
 have hc0:(g.back c Mk g.Li).ids c=some (some (b,cap,n.1,Uf n.2 ps)):=by
  have:=hnm 0 _ (by rw[aau];rfl)
  simpa using this
 have hcj:∀j q,ks[j]? = some q→(g.back c Mk g.Li).ids (c+1+j)=some (Nt ((n.2[i*LY F t+q]?).getD none)):=by
  intro j q hj
  have:=hnm (j+1) (Nt ((n.2[i*LY F t+q]?).getD none)) (by rw[aau,QdK,hps,Yy,Rf,hj];rfl)
  rw[show c+1+j=c+(j+1)by omega]
  exact this
 have hback:SF (g.back c Mk g.Li) w c Mk.length [] ((c,.Sr t l i ks)::nmF (c+1) rs):=by
  intro p hp;rcases Nz.1 hp with rfl | hp
  ·refine⟨rfl,⟨_,hc0,q1,q2,q3,by rw[wZ];exact q4,?_,cur,e,q6,q7,?_⟩,.inl ⟨0,rfl,by omega⟩⟩
   ·have:(b::MO (Uf n.2 ps)).Sublist (b::(MO (Uf n.2 ps)++Lh (ps.map λp=>Nt ((n.2[p]?).getD none)))):=(List.sublist_append_left _ _).cons_cons _;exact(ace▸Vi.nodup_iff.1 q5:(b::(MO (Uf n.2 ps)++Lh (ps.map λp=>Nt ((n.2[p]?).getD none)))).Nodup).sublist this
   ·intro k d y p h1 h2 h3;constructor
    ·rintro⟨q,hq,rfl⟩
     have hin:i*LY F t+q∈ps:=by rw[hps];exact Ra.2 ⟨q,hq,rfl⟩
     have hp0:∃p0,n.2[i*LY F t+q]? = some p0:=⟨_,K9 (hpl _ hin)⟩;obtain⟨p0,hp0⟩:=hp0;refine⟨Ft hin h3,?_⟩;have:=q8 _ d y p0 h1 h2 hp0
     cases d with
     | sl t2 l2=>
      have hv:=this.2
      cases p0 with
      | none=>obtain⟨p,rfl⟩:=hv;rfl
      | some q=>simp only[Nt,Ol]at hv;subst hv;rfl
     | _=>exact this.2.2.oneCell
    ·intro hno
     have hout:k∉ps:=by rw[hps];intro hk;obtain⟨q,hq1,hq2⟩:=Ra.1 hk;exact hno ⟨q,hq1,hq2.symm⟩
     rw[Cn hout]at h3;exact q8 k d y p h1 h2 h3
  ·obtain⟨j,h1,h2⟩:=xe hp;obtain⟨q,t2,l2,hq,hB2,hd⟩:=hr j _ h2;have hjl:j<ks.length:=(K_.1 hq).1;obtain⟨y,B2⟩:=p;simp only at h1 h2 hB2;subst h1;subst hB2
   refine⟨rfl,?_,.inl ⟨j+1,by omega,by omega⟩⟩
   have hin:i*LY F t+q∈ps:=by rw[hps];exact Ra.2 ⟨q,Wu hq,rfl⟩
   have aoO:=hpl _ hin;have hp0:n.2[i*LY F t+q]? = some n.2[i*LY F t+q]:=K9 aoO;have hcell:=a_ hx hd
   have hcl:i*LY F t+q<cur.length:=by
    have:(cells F t l).length≤cur.length:=by rw[q7,iq];exact Rp _ q2
    omega
   have hC:=q8 _ _ _ _ hcell (K9 hcl) hp0;have hname:=hcj j q hq;rw[hp0,Ws]at hname;obtain⟨hC1,hC2⟩:=hC
   cases hpp:n.2[i*LY F t+q]with
   | none=>rw[hpp]at hC1 hname;exact .inl ⟨hname,hC1⟩
   | some z=>obtain⟨b2,cap2,n2⟩:=z;rw[hpp]at hC1 hname;obtain⟨r1,r2,r3,Ya,e2,r4,r5,r6⟩:=hC1;cases r1;exact .inr ⟨b2,cap2,Ya,e2,hname,r4,r2,r3,r5,r6⟩
 have hM:=sn (g1:=g) (m1:=m) (os:=[some id]) (bx:=[]) (Me:=[]) (Mk:=Mk) (Ut:=g.Li) (LX:=g.Li) (I:=g.Li) (w':=w) hm hm rfl rfl hall rfl hfr
  (λid' h=>by simp only[Lb,NJ]at h;subst h;exact⟨_,hB,hB,rfl⟩) (λid' h=>by simp at h) rfl hP0 (λ_ h=>h) (MN _) (λ_ _ _=>rfl) (λ_ h=>h) (λ_ h=>h) (λb h=>.inl h) hm.Li hP1
  (λb' h=>.inl (by rw[WG,Vi.mem_iff];simpa[Lh]using h)) hback
 refine⟨g.back c Mk g.Li,b,cap,n,YN,?_,rfl,rfl,λy hy=>ef (by rw[Zm];omega),hid,hps▸hc0,hcj,hO',?_⟩
 ·have:=hM.Pq (id:=id) (k:=c) (n:=l.length) (.inl ⟨b,cap,n,(n.1,Uf n.2 ps),YN.ids _ _ hid,hc0,rfl,q1⟩)
  have e1:Rq id c t l i ks rs=(nones (Mq [some id])++blks ((c,.Sr t l i ks)::nmF (c+1) rs))++[(id,some (.Pq c l.length))]:=by simp[Rq,nones,Mq,blks]
  rw[e1,gU];exact this
 ·intro y b' hb;by_cases hy:c≤y∧y<c+ks.length+1
  ·right;obtain⟨b0,c0,h1,h2⟩:=hb;simp only[G.back]at h1
   rw[if_pos (by rw[Zm];omega)]at h1
   exact(hmem b').1 (cI.2 ⟨_,b0,c0,h1,h2⟩)
  ·left;obtain⟨b0,c0,h1,h2⟩:=hb
   rw[ef (by rw[Zm];omega)]at h1
   exact⟨⟨b0,c0,h1,h2⟩,hy⟩
theorem F1(hm:LQ own g w m){id c:Nat}{t:Ty}{l:List (ET F t)}(hB:m id=some (.Nc t l))(hf:g.ids c=none) :
  ∃g',LQ own g' w (Ml m [(id,none),(c,some (.Nc t l)),(id,some (.Pq c l.length))])∧Stp m g w g' w∧∀y,y≠c→g'.ids y=g.ids y:=by
 obtain⟨pl,hid,hO⟩:=hm.ok id _ hB;obtain⟨k1,k2⟩:=kZ (rm:=[id]) (id:=c) (pl:=pl) (B:=.Nc t l) (w':=w) hm hf
  (λb0 c' e b hb=>.inr ⟨id,by simp,_,hB,rfl,b0,c',by rw[hid,e],hb⟩) rfl rfl rfl (MN _) (MN _) (λ_ _ _=>rfl) (λg' hle hi=>⟨pl,hi,by exact P8.O_ hle.Li hle.heap (λ_ _ _ _ _=>rfl) hO⟩)
 refine⟨g.name c pl,?_,k2,λy hy=>cj _ _ _ hy⟩
 have h2:=k1.Pq (id:=id) (k:=c) (n:=l.length) (by
  rw[k2.le.ids _ _ hid,bv]
  cases pl with
  | none=>have:l = []:=hO;subst this;exact .inr ⟨rfl,rfl,rfl⟩
  | some q=>obtain⟨b,cap,n⟩:=q;exact .inl ⟨b,cap,n,n,rfl,rfl,rfl,hO.1⟩)
 have e:([(id,none),(c,some (.Nc t l)),(id,some (.Pq c l.length))]:List (Nat×Option (Mg F)))=([id].map (λr=>(r,none))++[(c,some (.Nc t l))])++[(id,some (.Pq c l.length))]:=rfl;rw[e,gU];exact h2
end
set_option linter.unusedVariables false
set_option linter.unusedSimpArgs false
section
variable{F:Fam}{P:Program}{Γ : Ctx F}{T:TypeId→Option (TI F)}{o:Oper}{vals:List (Dat F)}{mm:Nat→Option (Mg F)}{c:Nat}{R:Type}{K:SS F→Option R}
theorem yH{f:FuncId}(h:jo P f)(args:Array Value)(w:World):(callFunc f args).run P w = .ok (.enter f args) w:=by obtain⟨fn0,hf0,hf1,hf2⟩:=h;simp only[OA,PD,OM,callFunc,run_program,hf0,hf1,hf2,RZ,if_false]
theorem rZ{fn:Operand}{args:Array Operand}{ats:Array TypeId}{a:Act}{w:World}{f:FuncId}{fs cs:List Value}(ho:o.op = .call { callee:=.value fn,args,argTypes:=ats })
  (hfn:a.eval fn = .func (.func f) ⟨fs⟩ ⟨cs⟩) (h:jo P f):(execOp a.eval o).run P w = .ok (.enter f ⟨fs++args.toList.map a.eval++cs⟩) w:=by
 have e:((⟨fs⟩:Array Value)++Array.map a.eval args++⟨cs⟩:Array Value)=⟨fs++args.toList.map a.eval++cs⟩:=by apply Array.ext';simp
 simp only[execOp,ho,resolve,Deferred.ofValue,hfn,OA,PD,OM,invoke,e,yH h]
theorem tu{fn:Operand}{args:Array Operand}{ats:Array TypeId}(ho:o.op = .call { callee:=.value fn,args,argTypes:=ats })(a:Act):o.op.operands.toList.map a.eval=a.eval fn::args.toList.map a.eval:=by rw[ho];simp[Op.operands,Call.operands]
theorem tC{g:G}{w:World}{ds es:List (Dat F)}{vs us:List Value}(h:MF P g w ds vs)(k:MF P g w es us):MF P g w (ds++es) (vs++us):=by
 induction ds generalizing vs with
 | nil=>rw[iW h];exact k
 | cons d ds ih=>obtain⟨v,vs',rfl,h1,h2⟩:=jN h;exact aZ.2 ⟨h1,ih h2⟩
theorem Dv(hΓ : ML P Γ){fn:Operand}{args:Array Operand}{ats:Array TypeId}(ho:o.op = .call { callee:=.value fn,args,argTypes:=ats }){f:FuncId}{ds:List (Dat F)}
  (hv:∀(g:G)(w:World)(a:Act),MF P g w vals (o.op.operands.toList.map a.eval)→∃fs cs,a.eval fn = .func (.func f) ⟨fs⟩ ⟨cs⟩∧MF P g w ds (fs++args.toList.map a.eval++cs)) :
  Rule P o vals mm c K (AM Γ mm c K f ds):=by
 unfold AM;split
 ·exact af
 ·rename_i sp hsp;split
  ·exact af
  ·rename_i p hp;refine aA (λhn=>aE λr hr=>?_) (λ_=>af);simp only[Np]at hn;intro r' hr';refine⟨_,hr',?_⟩;intro own g w a m u hle hm hd hall hfr hrep;obtain⟨fs,cs,h1,h2⟩:=hv g w a hrep;exact Dq (m:=m) hΓ hm hle hd hall h2 hsp hp hn.1 hn.2 hr hfr (rZ ho h1 (hΓ f sp hsp).1)
theorem wA(hΓ : ML P Γ){fn:Operand}{args:Array Operand}{ats:Array TypeId}(ho:o.op = .call { callee:=.value fn,args,argTypes:=ats }){f:FuncId}{ds:List (Dat F)}
  (hv:∀(g:G)(w:World)(a:Act),MF P g w vals (o.op.operands.toList.map a.eval)→∃fs cs,a.eval fn = .func (.func f) ⟨fs⟩ ⟨cs⟩∧MF P g w ds (fs++args.toList.map a.eval++cs)) :
  Rule P o vals mm c K (wB Γ mm c K f ds):=by
 unfold wB
 cases fgt Γ with
 | true=>exact Dv hΓ ho hv
 | false=>
 simp only[cond_false];split
 ·exact af
 ·rename_i sp hsp;split
  ·exact af
  ·rename_i p hp;refine aA (λhn=>aE λr hr=>?_) (λ_=>af);simp only[Np]at hn;intro r' hr';refine⟨_,hr',?_⟩;intro own g w a m u hle hm hd hall hfr hrep;obtain⟨fs,cs,h1,h2⟩:=hv g w a hrep;exact DU (m:=m) hΓ hm hle hd hall h2 hsp hp hn.1 hn.2 hr hfr (rZ ho h1 (hΓ f sp hsp).1)
theorem GW{g:G}{w:World}{t:Ty}{x:ET F t}{v:Value}(h:Pt w g.Li (LZ F t x,t.OP) v):Ma P g w (adt t x) v:=by
 have one:∀{d:ND F},Pt w g.Li ([d],false) v→L_ w g.Li d v:=by
  intro d h;generalize hc:([d],false)=p at h
  cases h with
  | one h=>cases hc;exact h
  | agg=>cases hc
 cases t with
 | st n=>
  unfold adt;simp only[Ty.OP]at h;generalize hc:LZ F (.st n) x=cs at h ⊢
  cases h with
  | agg hl h=>
   refine .agg (by rw[Py,hc,hl]) ?_
   intro k c y h1 h2;rw[Rf,Wi]at h1;obtain⟨d,h3,rfl⟩:=h1;exact .im (h k d y (hc▸h3) h2)
 | int k=>exact .c (.im (one h))
 | bool=>exact .c (.im (one h))
 | str=>exact .c (.im (one h))
 | slice t=>exact .c (.im (one h))
theorem yl{Li:Nat→Prop}{w:World}:∀{ks:List Ty}{a:HL F (ks.map λt=>.v t [])} {vs:List Value} {LJ:List Pl} {Me:List Pl},db P w Li (ks.map λt=>.v t []) a vs LJ Me→UZ w Li (SL F ks (ru.VI ks a)) vs
 | [],a,vs,LJ,Me,h=>by
  obtain⟨rfl,_,_⟩:=h
  exact⟨rfl,by simp[SL]⟩
 | t::ks,a,vs,LJ,Me,h=>by
  obtain⟨v,vs',p1,p2,b1,b2,rfl,_,_,⟨h1,_⟩,h2⟩:=h;have hp:=h1.OX;subst hp;obtain⟨h3,h4⟩:=yl h2;have e:SL F (t::ks) (ru.VI (t::ks) a)=(LZ F t a.1,t.OP)::SL F ks (ru.VI ks a.2):=rfl;rw[e]
  refine⟨by simpa using h3,?_⟩
  intro k d x hd hx
  cases k with
  | zero=>simp only[ PW,NJ]at hd hx;subst hd hx;exact rT h1
  | succ k=>exact h4 k d x (by simpa using hd) (by simpa using hx)
theorem DE{fn:Operand}{args:Array Operand}{ats:Array TypeId}(ho:o.op = .call { callee:=.value fn,args,argTypes:=ats }){ks:List Ty}{r:Ty}{φ : M7 F ks→Option (ET F r)}{ds:List (Dat F)}(hv:vals = .fv ks r φ::ds) :
  Rule P o vals mm c K (ru mm K ks r φ ds):=by
 subst hv;unfold ru;split
 ·exact af
 ·rename_i q hq;refine aA (λhfl=>?_) (λ_=>af);dsimp only;refine aE λx hx=>?_;intro r' hr';refine⟨_,hr',?_⟩;intro own g w a m u hle hm hd hall hfr hrep;rw[tu ho]at hrep;obtain⟨h1,h2⟩:=aZ.1 hrep;generalize hfv:a.eval fn=fv at h1
  have h1':Vg P F w g.Li ks r φ fv:=by cases h1 with | fv h=>exact h
  obtain⟨fid,bound,captured,rfl,hbd,hent,hfn⟩:=h1';have hfz:TH g q.fz (g.Rm q.fz).Li:=⟨λ_ h=>.inl h,λid hid b hb=>.inr ⟨id,hid,hb⟩⟩
  obtain⟨k1,k2⟩:=ml (P:=P) (us:=[]) hm hle hq hfz h2 ⟨rfl,by simp⟩
  have k3:=yl (k1 w _ (λb hb=>⟨hb,rfl⟩) () [] ⟨rfl,by simp[SL]⟩)
  simp only[Wq]at k3;intro next Q hn;unfold Oper.wp;rw[rZ ho hfv hent];refine(hfn w (g.Rm q.fz).Li (λb hb=>⟨.inl hb,rfl⟩) (mU hm hle k2).Li _ x _ hx k3).mono ?_;rintro e w' ⟨v,rfl,hb,hrt,hdr⟩;have hst:Stp m g w g w':=⟨⟨λ_ _ h=>h,λ_ h=>h,λb hx=>hb.block b (hm.Li b hx),λ_ h=>h,λb hx=>hb.block b (hm.len b hx).2⟩,hb.os,hb.tape,hb.output,hb.size,λb hlt _=>hb.block b hlt,hdr⟩;refine hn v w' g (GW (hrt.flat (qh hfl x))) ?_ hst (λid hu _=>hd id hu);exact⟨λid B hB=>(hm.ok id B hB).le hst.le (λho b hi=>hb.block b ((hm.ok id B hB).place hm.Li (Mg.PU ho) hi)),hm.SX,hm.own,λb hx=>UG (hm.Li b hx) hb.size,hm.io,λb hx=>⟨(hm.len b hx).1,UG (hm.len b hx).2 hb.size⟩⟩
theorem EJ(hT:Mc P T)(hΓ : ML P Γ){cl:Call}(ho:o.op = .call cl):Rule P o vals mm c K (Y4 T Γ vals mm c K cl):=by
 obtain⟨callee,args,ats⟩:=cl;unfold Y4
 cases callee with
 | invoke x n=>exact af
 | builtin b=>
  cases b with
  | len=>
   dsimp only;split
   ·exact Gi hT ho
   ·exact af
  | append=>
   dsimp only;split
   ·exact BF hT ho
   ·exact af
  | copy=>
   dsimp only;split
   ·exact Fp hT ho
   ·exact af
  | clear=>
   dsimp only;split
   ·exact Dy hT ho
   ·exact af
  | min=>exact x_ (mx:=false) ho
  | max=>exact x_ (mx:=true) ho
  | _=>exact af
 | value fn=>
  dsimp only;split
  ·refine wA hΓ ho ?_;intro g w a hr;rw[tu ho]at hr;obtain⟨h1,h2⟩:=aZ.1 hr
   exact⟨[],[],IQ h1,by simpa using h2⟩
  ·refine wA hΓ ho ?_;intro g w a hr;rw[tu ho]at hr;obtain⟨h1,h2⟩:=aZ.1 hr;generalize a.eval fn=fv at h1 ⊢
   cases h1 with
   | RY k1 k2 k3 k4=>exact⟨_,_,rfl,tC (tC ⟨k1,k3⟩ h2) ⟨k2,k4⟩⟩
  ·exact DE ho rfl
  ·exact af
theorem oQ(hT:Mc P T)(hΓ : ML P Γ):Rule P o vals mm c K (tOp T Γ vals mm c K o.op):=by
 unfold tOp
 cases ho:o.op with
 | move x=>
  dsimp only;split
  ·exact xQ (.inl ho) rfl
  ·exact af
 | assign x=>
  dsimp only;split
  ·exact xQ (.inr ho) rfl
  ·exact af
 | pick x y z=>exact F3 ho
 | alloc e=>exact DF hT ho
 | box e x=>exact HK hT ho
 | build t p=>exact Dj hT ho
 | buildSlice t l p=>exact aA (λ_=>vm hT ho) (λ_=>wG hT ho)
 | load t x=>exact Fh hT ho
 | store t x y=>exact DA hT ho
 | nilCheck x=>exact yR ho
 | binOp op t x y u=>exact Gc hT ho
 | unOp op t x=>exact JQ ho
 | convert s d x=>exact E9 hT ho
 | makeFunc fn f cs=>exact Eh ho
 | makeSlice t x y=>
  refine aA (λ_=>?_) (λ_=>xD hT ho)
  cases hl:rK T t x y with
  | some n=>exact C5 hT ho hl
  | none=>exact xD hT ho
 | slice t x lo hi mx=>
  cases mx with
  | none=>exact aA (λhc=>EL hT ho hc) (λ_=>Ds hT ho)
  | some _=>exact af
 | fieldAddr s x f=>exact DJ hT ho
 | field s x f=>exact D9 hT ho
 | indexAddr t x y=>exact wQ hT ho
 | index t x y=>exact DP hT ho
 | extract x i=>exact yW ho
 | call cl=>exact EJ hT hΓ ho
 | makeMap t r=>
  cases r with
  | none=>exact Ao hT ho
  | some _=>exact af
 | lookup t x y ok=>exact Bm hT ho
 | mapUpdate t x y z=>exact xg hT ho
 | _=>exact af
theorem HP{x:Option R}(h:Rule P o (vals.map (aag mm)) mm c K x):Rule P o vals mm c K x:=by intro r hr;obtain⟨res,h1,h2⟩:=h r hr;exact⟨res,h1,λown g w a m u hle hm hd hall hfr hrep=>h2 own g w a m u hle hm hd hall hfr (FZ hm hle hrep)⟩
end
set_option linter.unusedVariables false
set_option linter.unusedSimpArgs false
section
variable{F:Fam}{P:Program}{T:TypeId→Option (TI F)}{Γ : Ctx F}{o:Oper}{vals:List (Dat F)}{mm:Nat→Option (Mg F)}{c:Nat}{R:Type}{K:SS F→Option R}
variable{own:Ow}{g:G}{w:World}{m:Nat→Option (Mg F)}{u:Nat→Bool}{a:Act}
theorem P6.upd:∀{l:List (Nat×Option (Mg F))} {mm m:Nat→Option (Mg F)},P6 mm m→P6 (Ml mm l) (Ml m l)
 | [],_,_,h=>h
 | (id,B)::r,mm,m,h=>by
  simp only[Ml];refine P6.upd (l:=r) λx B' hx=>?_;by_cases hb:Nat.beq id x=true
  ·rw[if_pos hb]at hx ⊢;exact hx
  ·rw[if_neg hb]at hx ⊢;exact h x B' hx
theorem Iv{pre:List (Nat×Option (Mg F))}{k:Nat}{g2:G}{u2:Nat→Bool}{res:SS F}(hl:Le g w g2 w)
  (hown:∀id B,Ml m pre id=some B→B.owned=true→∀b,g2.blk id b→∃id' B',m id'=some B'∧B'.owned=true∧g.blk id' b)
  (hu:∀id,u id=false→(id<c∨c+k≤id)→u2 id=false) (h:PY P own (Ml m pre) u2 g2 w o a (c+k) res):PY P own m u g w o a c ⟨res.val,pre++res.mw,k+res.nu⟩:=by
 intro next Q hn
 refine h next Q λv w' g' h1 h2 h3 h4=>hn v w' g' h1 (by rw[gU];exact h2) ⟨hl.trans h3.le,h3.os,h3.tape,h3.output,h3.size,?_,h3.drawn⟩ ?_
 ·intro b hb hno;refine h3.frame b hb λid B hB ho hbk=>?_;obtain⟨id',B',k1,k2,k3⟩:=hown id B hB ho b hbk;exact hno id' B' k1 k2 k3
 ·intro id hi hr;have hr:id<c∨c+(k+res.nu)≤id:=hr
  exact h4 id (hu id hi (by omega)) (by omega)
theorem GB(hm:LQ own g w m){id i:Nat}{t:Ty}{l:List (ET F t)}{ks:List Nat}{rs:List (Mg F)}{g2:G}{B0:Mg F}(hB:m id=some B0)(ho:B0.owned=true)(hf:∀j,j<ks.length+1→g.ids (c+j)=none)(hrs:rs.length=ks.length)
  (hblk:∀y b',g2.blk y b'→(g.blk y b'∧¬ (c≤y∧y<c+ks.length+1))∨g.blk id b') :
  ∀y B,Ml m (Rq id c t l i ks rs) y=some B→B.owned=true→∀b,g2.blk y b→∃id' B',m id'=some B'∧B'.owned=true∧g.blk id' b:=by
 intro y B hy hoB b hb;rcases hblk y b hb with⟨h1,h2⟩ | h1
 ·refine⟨y,B,?_,hoB,h1⟩
  have hid:y≠id:=by rintro rfl;have e1:Rq y c t l i ks rs=((y,none)::(c,some (.Sr t l i ks))::blks (nmF (c+1) rs))++[(y,some (.Pq c l.length))]:=rfl;rw[e1,gU]at hy;simp only[Ml]at hy;rw[if_pos (Yz y)]at hy;cases hy;cases hoB
  rw[dT]at hy
  ·exact hy
  ·intro hk;simp only[Rq,UF,M9,UD,Nz,OB,Oi,QeT,or_false]at hk;rcases hk with rfl | rfl | hk | rfl
   ·exact hid rfl
   ·exact h2 ⟨MN _,by omega⟩
   ·obtain⟨p,hp,hp2⟩:=Ra.1 hk;obtain⟨q,hq,hq2⟩:=Ra.1 hp;obtain⟨j,hj1,hj2⟩:=xe hq;have hjl:=(K_.1 hj2).1;subst hq2;simp only at hp2
    exact h2 ⟨by omega,by omega⟩
   ·exact hid rfl
 ·exact⟨id,B0,hB,ho,h1⟩
theorem H7{id sz i off:Nat}{v:Value}(h:Ma (F:=F) P g w (.c (.Tv id sz i off)) v):∃b c' n pl,g.ids id=some (some (b,c',n))∧n.2[i*sz+off]? = some pl∧Ol (Nt pl) v:=by
 cases h with | c h=>cases h with | Tv h hk hv=>exact⟨_,_,_,_,h,hk,hv⟩
theorem Df(hT:Mc P T)(hΓ : ML P Γ){id sz i off:Nat}{rest:List (Dat F)}(hv:vals = .c (.Tv id sz i off)::rest):Rule P o vals mm c K (Y5 T Γ vals mm c K o.op id sz i off):=by
 unfold Y5;split
 ·rename_i t l hrow;refine aA (λhsz=>?_) (λ_=>af);subst hsz;refine aE λx hx=>?_;split
  ·rename_i t2 l2 hd;intro r hr;obtain⟨res,h1,h2⟩:=oQ hT hΓ r hr;refine⟨_,h1,?_⟩;intro own g w a m u hle hm U1 hall hfr hrep;subst hv;obtain⟨v0,vs,e,hv0,hvs⟩:=jN hrep
   have hfree:∀j,j < [off].length+1→g.ids (c+j)=none:=λj hj=>U1 _ (hfr j (by simp only[QeF]at hj;simp only;omega))
   have aoR:off<LY F t:=by rw[← bo F t x];exact(K_.1 hd).1
   obtain⟨g2,b,cap,n,k1,k2,k3,k4,k5,k6,k7,k8,k9,k10⟩:=xK (c:=c) (ks:=[off]) (rs:=[.row t2 l2]) hm hall (hle _ _ hrow) hx (by simp) rfl (λj B hj=>by
    cases j with
    | zero=>simp only[PW,NJ]at hj;subst hj;exact⟨off,t2,l2,rfl,rfl,hd⟩
    | succ j=>simp at hj) (by intro q hq;rw[Lb]at hq;subst hq;exact aoR) hfree
   obtain⟨b',c',n',pl,p1,p2,p3⟩:=H7 hv0;rw[k6]at p1;cases p1;have hn1:=k8 0 off rfl;rw[p2,Ws]at hn1
   have hx2:Ma (F:=F) P g2 w (.c (.Nn (c+1))) v0:=by
    refine .c ?_
    cases pl with
    | none=>obtain⟨p,rfl⟩:=p3;exact .PG p hn1
    | some q=>obtain⟨b2,cap2,n2⟩:=q;simp only[Nt,Ol]at p3;subst p3;obtain⟨t',l',hc,r1,r2,r3,_⟩:=P8.sub k9 p2;cases r1;exact .Nn hn1 r2 r3
   have hu2:∀y,(u y||(decide (c≤y)&&decide (y<c+2)))=false→g2.ids y=none:=by
    intro y hy;simp only[YD,QeY,decide_eq_false_iff_not]at hy
    rw[k5 y (by simp only[QeF];omega)]
    exact U1 y hy.1
   have hfr2:∀k,k<res.nu→(u (c+2+k)||(decide (c≤c+2+k)&&decide (c+2+k<c+2)))=false:=by
    intro k hk
    have:=hfr (2+k) (by simp only;omega)
    rw[show c+2+k=c+(2+k)by omega,this]
    simp
   have:=h2 own g2 w a (Ml m (Rq id c t l i [off] [.row t2 l2])) (λy=>u y||(decide (c≤y)&&decide (y<c+2))) hle.upd k2 hu2 hall hfr2 (by
    rw[e]
    exact aZ.2 ⟨hx2,by show MF P g2 w rest vs;exact⟨hvs.1,λk d x a b=>(hvs.2 k d x a b).le k1⟩⟩)
   exact Iv (k:=2) k1 (GB hm (hle _ _ hrow) rfl hfree rfl k10) (λy hy hr=>by simp only[hy,QhA,QeY,decide_eq_false_iff_not];omega) this
  ·exact af
 ·exact af
theorem vr{α : Type}{l v:List α}{p:Nat}(h:p+v.length≤l.length)(k:Nat) :
  (l.take p++v++l.drop (p+v.length))[k]? = if p≤k∧k<p+v.length then v[k - p]? else l[k]?:=by
 have h1:(l.take p).length=p:=by rw[Oy];omega
 by_cases hk:k<p
 ·rw[if_neg (by omega),P5,Rv (by omega),RG,if_pos hk]
 ·rw[P5,RF (by omega),h1]
  by_cases hk2:k - p<v.length
  ·rw[if_pos (by omega),Rv hk2]
  ·rw[if_neg (by omega),RF (by omega),SY]
   congr 1
   omega
theorem Gd{t:Ty}{l:List (ET F t)}{i off:Nat}{x y:ET F t}{ds:List (ND F)}(hx:l[i]? = some x)(h3:off+ds.length≤LY F t)(hy:O4 F t ((LZ F t x).take off++ds++(LZ F t x).drop (off+ds.length))=some y)
  {k:Nat} {d:ND F} (hk:(cells F t (l.set i y))[k]? = some d) :
  (∃j d0,j<ds.length∧k=i*LY F t+off+j∧ds[j]? = some d0∧U5 d0 d)∨((k<i*LY F t+off∨i*LY F t+off+ds.length≤k)∧∃d0,(cells F t l)[k]? = some d0∧U5 d0 d):=by
 rcases pP hx hk with⟨j,rfl,hj⟩ | ⟨h,h'⟩
 ·have hl:=cA F hy;have hels:(LZ F t x).length=LY F t:=bo F t x
  have hjl:j<LY F t:=by rw[← bo F t y];exact(K_.1 hj).1
  have hov:=vr (l:=LZ F t x) (v:=ds) (p:=off) (by omega) j
  by_cases hin:off≤j∧j<off+ds.length
  ·rw[if_pos hin]at hov
   have hd0:ds[j - off]? = some ds[j - off]:=K9 (by omega)
   exact .inl ⟨j - off,_,by omega,by omega,hd0,hl.2 j _ d (hov.trans hd0) hj⟩
  ·rw[if_neg hin]at hov
   have hd0:(LZ F t x)[j]? = some (LZ F t x)[j]:=K9 (by omega)
   exact .inr ⟨by omega,_,a_ hx hd0,hl.2 j _ d (hov.trans hd0) hj⟩
 ·exact .inr ⟨by omega,d,h',.refl _⟩
def Yr(g:G):Option Nat→Option (Nat×Nat×Nat)
 | none=>none
 | some nm=>match g.ids nm with
  | some (some (b,cap,n))=>some (b,cap,n.1)
  | _=>none
theorem oh{y:MJ F}{r:List (MJ F)}{ds:List (ND F)}{os:List (Option Nat)}(h:gc mm (y::r)=some (ds,os)):∃d o ds' os',pH mm y=some (d,o)∧gc mm r=some (ds',os')∧ds=d::ds'∧os=o::os':=by
 simp only[gc]at h;split at h
 ·cases h
 ·rename_i d o h1;split at h
  ·cases h
  ·rename_i ds' os' h2;cases h;exact⟨d,o,ds',os',h1,h2,rfl,rfl⟩
theorem o_:∀{cs:List (MJ F)} {ds:List (ND F)} {os:List (Option Nat)},gc mm cs=some (ds,os)→ds.length=cs.length∧os.length=cs.length
 | [],ds,os,h=>by simp only[gc,NJ]at h;cases h;exact⟨rfl,rfl⟩
 | y::r,ds,os,h=>by obtain⟨d,o,ds',os',h1,h2,rfl,rfl⟩:=oh h;obtain⟨k1,k2⟩:=o_ h2;simp[k1,k2]
theorem uI:∀{cs:List (MJ F)} {ds:List (ND F)} {os:List (Option Nat)},gc mm cs=some (ds,os)→∀{j:Nat}{d:ND F}{o:Option Nat},ds[j]? = some d→os[j]? = some o→∃y,cs[j]? = some y∧pH mm y=some (d,o)
 | [],ds,os,h,j,d,o,hd,ho=>by simp only[gc,NJ]at h;cases h;simp at hd
 | y::r,ds,os,h,j,d,o,hd,ho=>by
  obtain⟨d',o',ds',os',h1,h2,rfl,rfl⟩:=oh h
  cases j with
  | zero=>simp only[PW,NJ]at hd ho;subst hd;subst ho;exact⟨y,rfl,h1⟩
  | succ j=>exact uI h2 (by simpa using hd) (by simpa using ho)
theorem vV{y:MJ F}{d:ND F}{nm:Nat}(h:pH mm y=some (d,some nm)):∃t l,y = .Nn nm∧d = .sl t l∧mm nm=some (.row t l):=by
 unfold pH at h;split at h
 ·rename_i id;split at h
  ·rename_i t l hrow;cases h;exact⟨t,l,rfl,rfl,hrow⟩
  ·cases h
 ·split at h
  ·cases h
  ·split at h<;>cases h
 ·cases h
theorem pQ:∀{cs:List (MJ F)} {ds:List (ND F)} {os:List (Option Nat)},gc mm cs=some (ds,os)→cs.all MJ.RO=true
 | [],_,_,_=>rfl
 | y::r,ds,os,h=>by
  obtain⟨d,o,ds',os',h1,h2,rfl,rfl⟩:=oh h;simp only[Z4,Np];refine⟨?_,pQ h2⟩
  cases y<;>first | rfl | simp[pH]at h1
theorem tD:∀{cs:List (MJ F)} {ds:List (ND F)} {os:List (Option Nat)},gc mm cs=some (ds,os)→∀id,some id∈os→∃t l,mm id=some (.row t l)
 | [],ds,os,h,id,hid=>by simp only[gc,NJ]at h;cases h;simp at hid
 | y::r,ds,os,h,id,hid=>by
  obtain⟨d,o,ds',os',h1,h2,rfl,rfl⟩:=oh h;rcases Nz.1 hid with rfl | hid
  ·obtain⟨t,l,_,_,h3⟩:=vV h1;exact⟨t,l,h3⟩
  ·exact tD h2 id hid
theorem DN(hm:LQ own g w m)(hle:P6 mm m){y:MJ F}{d0 d:ND F}{o:Option Nat}(h:pH mm y=some (d0,o))(hd:U5 d0 d){x:Value}(hr:Mh g w y x)(hnn:d≠.nl):Ov w g.Li d x (Yr g o):=by
 cases o with
 | some nm=>
  obtain⟨t,l,rfl,rfl,hrow⟩:=vV h;cases hd;rcases hm.ok nm _ (hle _ _ hrow)with⟨k1,k2⟩ | ⟨b,cap,cur,e,k1,k2,k3,k4,k5,k6⟩
  ·subst k2;rcases bu hr with⟨hi,p,rfl⟩ | ⟨b,c,n,hi,h1,h2,rfl⟩
   ·simp only[Yr,k1];exact⟨rfl,p,rfl⟩
   ·rw[k1]at hi;cases hi
  ·rcases bu hr with⟨hi,p,rfl⟩ | ⟨b',c',n,hi,h1,h2,rfl⟩
   ·rw[k1]at hi;cases hi
   ·rw[k1]at hi;cases hi;simp only[Yr,k1];exact⟨⟨rfl,k3,k4,cur,e,k2,k5,k6⟩,rfl⟩
 | none=>
  unfold pH at h;split at h
  ·split at h<;>cases h
  ·rename_i d1;split at h
   ·cases h
    cases hd with
    | refl=>exact absurd rfl hnn
    | nl t ht=>obtain⟨p,rfl⟩:=pw (P:=default) (.c hr);exact⟨rfl,p,rfl⟩
   ·split at h
    ·rename_i hf;cases h
     cases hd with
     | refl=>
      cases d0 with
      | sl t l=>simp[TA.flat]at hf
      | nl=>exact absurd rfl hnn
      | _=>exact⟨rfl,rfl,c9 hr⟩
     | nl=>simp[TA.flat]at hf
    ·cases h
  ·cases h
theorem uq(hm:LQ own g w m)(hle:P6 mm m):∀{os:List (Option Nat)},(∀id,some id∈os→∃t l,mm id=some (.row t l))→MO (os.map (Yr g))=Lh (os.map (Mi g))
 | [],_=>rfl
 | none::os,h=>by
  simp only[M9,Yr,Mi,MO,Lh]
  exact uq hm hle (λid hid=>h id (by simp[hid]))
 | some nm::os,h=>by
  have ih:=uq hm hle (os:=os) (λid hid=>h id (by simp[hid]))
  obtain⟨t,l,hrow⟩:=h nm (by simp)
  rcases hm.ok nm _ (hle _ _ hrow)with⟨k1,k2⟩ | ⟨b,cap,cur,e,k1,k2,k3,k4,k5,k6⟩
  ·simp only[M9,Yr,Mi,k1,Ws,MO,Lh];exact ih
  ·simp only[M9,Yr,Mi,k1,Ws,MO,Lh,PE];rw[ih]
theorem Cg(hm:LQ own g w m)(hle:P6 mm m)(hall:∀b,w.heap.size≤b→own.o b){t:Ty}{id i off p:Nat}(hp:p=i*LY F t+off){l:List (ET F t)}{x y:ET F t}{C:Nat→ND F→Value→Option (Nat×Nat×Nat)→Prop}{C':World→Nat→ND F→Value→Option (Nat×Nat×Nat)→Prop}{B0 B':Mg F}{b cap:Nat}{n:Nat×NS}
  (hB:m id=some B0) (hB0:B0.owned=true) (hid:g.ids id=some (some (b,cap,n))) (hO:Ri w t l C (some (b,cap,n))) (hx:l[i]? = some x) {cs:List (MJ F)} {ds:List (ND F)} {os:List (Option Nat)} (hst:gc mm cs=some (ds,os))
  (hnd:d9 (id::Mq os)=true) (h3:off+ds.length≤LY F t) (hy:O4 F t ((LZ F t x).take off++ds++(LZ F t x).drop (off+ds.length))=some y) (hnn:∀d∈LZ F t y,d≠.nl)
  {vs:List Value} (hvl:vs.length=cs.length) (hv:∀(k:Nat)(c:MJ F)(z:Value),cs[k]? = some c→vs[k]? = some z→Mh g w c z) {cur:List Value} {e:TypeId} (hb:w.heap[b]? = some (.cells ⟨cur⟩ e (0,0))) (hf:g.ids c=none)
  (hB1:∀g' w',g'.ids c=some (some (b,cap,n.1,n.2.take (p)++os.map (Yr g)++n.2.drop (p+ds.length)))→g'.Li=g.Li→Ri w' t (l.set i y) (C' w') (some (b,cap,n.1,n.2.take (p)++os.map (Yr g)++n.2.drop (p+ds.length)))→Na g' w' c B') (hB2:B'.owned=true)
  (hC1:∀(w':World) k d z pl,(∀b',g.Li b'→w'.heap[b']? = w.heap[b']?)→(∀b' c',pl=some (b',c')→w'.heap[b']? = w.heap[b']?)→p≤k→k<p+ds.length→Ov w g.Li d z pl→C' w' k d z pl)
  (hC2:∀(w':World) k d0 d z pl,(∀b',g.Li b'→w'.heap[b']? = w.heap[b']?)→(∀b' c',pl=some (b',c')→w'.heap[b']? = w.heap[b']?)→(k<p∨p+ds.length≤k)→(cells F t l)[k]? = some d0→U5 d0 d→C k d0 z pl→C' w' k d z pl) :
  ∃g',LQ own g' (w.setRow b ⟨cur.take (p)++vs++cur.drop (p+ds.length)⟩) (Ml m (YI id c l.length os B'))∧Stp m g w g' (w.setRow b ⟨cur.take (p)++vs++cur.drop (p+ds.length)⟩)∧∀y,y≠c→g'.ids y=g.ids y:=by
 obtain⟨w',hw'⟩:∃w',w'=w.setRow b ⟨cur.take p++vs++cur.drop (p+ds.length)⟩:=⟨_,rfl⟩;obtain⟨ns,hns⟩:∃ns,ns=n.2.take p++os.map (Yr g)++n.2.drop (p+ds.length):=⟨_,rfl⟩;rw[← hw'];rw[← hns]at hB1;obtain⟨q1,q2,q3,q4,q5,cur',e',q6,q7,q8⟩:=hO;rw[hb]at q6;cases q6;obtain⟨hdl,hol⟩:=o_ hst
 have aoQ:os.length=ds.length:=by omega
 have aoJ:vs.length=ds.length:=by omega
 have hile:i<l.length:=(K_.1 hx).1
 have hbig:p+ds.length≤(cells F t l).length:=by rw[iq];have:(i+1)*LY F t≤l.length*LY F t:=Rp _ hile;rw[TF]at this;omega
 have hcur:(cells F t l).length≤cur.length:=by rw[q7,iq];exact Rp _ q2
 have hsame:∀b',b'≠b→w'.heap[b']? = w.heap[b']?:=λb' h=>by rw[hw'];exact setRow_other w b b' _ h
 have hnew:w'.heap[b]? = some (.cells ⟨cur.take p++vs++cur.drop (p+ds.length)⟩ e (0,0)):=by rw[hw'];exact setRow_heap w b _ _ _ _ hb
 have hsz:w'.heap.size=w.heap.size:=by rw[hw'];simp[World.setRow]
 have hrows:=tD hst;have akK:g.blk id b:=G.MH hid
 have ada:∀id',some id'∈some id::os→∃B,m id'=some B∧B.owned=true:=by
  intro id' h;rcases Nz.1 h with h | h
  ·cases h;exact⟨_,hB,hB0⟩
  ·obtain⟨t',l',h'⟩:=hrows id' h;exact⟨_,hle _ _ h',rfl⟩
 have WG:Lh ((some id::os).map (Mi g))=b::(MO n.2++Lh (os.map (Mi g))):=by simp[Mi,hid,Lh]
 have hN0:=kh (os:=some id::os) hm (jm hnd) ada
 have UR:∀b',b'∈Lh ((some id::os).map (Mi g))→own.o b'∧¬ g.Li b'∧b'<w.heap.size∧¬ g.len b':=by intro b' h;obtain⟨id',h1,h2⟩:=cg.1 h;obtain⟨B,h4,h5⟩:=ada id' h1;have:=hm.own id' B b' h4 h5 h2;exact⟨this.1,this.2,(hm.ok id' B h4).place hm.Li (Mg.PU h5) h2,λhl=>(hm.len b' hl).1 this.1⟩
 have adq:b∈Lh ((some id::os).map (Mi g)):=by rw[WG];simp
 have MQ:∀b',g.Li b'→w'.heap[b']? = w.heap[b']?:=λb' h=>hsame b' (λe=>(UR b adq).2.1 (e▸h))
 have hlns:p+ds.length≤n.2.length:=by rw[q4];exact hbig
 have hsplit:MO n.2=MO (n.2.take p)++(MO ((n.2.drop p).take ds.length)++MO (n.2.drop (p+ds.length))):=by rw[← iJ,← iJ,← Qg_,X0,X0]
 have aoX:MO ns=MO (n.2.take p)++(Lh (os.map (Mi g))++MO (n.2.drop (p+ds.length))):=by rw[hns,iJ,iJ,uq hm hle hrows,P5]
 have hperm:(b::(MO n.2++Lh (os.map (Mi g)))).Perm ((b::MO ns)++MO ((n.2.drop p).take ds.length)):=by rw[hsplit,aoX];simp only[UF,P5];refine List.Perm.cons _ (QeG _ ?_);refine(List.perm_append_comm_assoc _ _ _).trans ?_;refine((QdD (l₁:=MO ((n.2.drop p).take ds.length))).append_left _).trans ?_;rw[← P5,← P5];exact List.perm_append_comm.append_right _
 have ZH:(b::MO ns).Nodup:=by have:=hperm.nodup_iff.1 (WG▸hN0);exact(Yo.1 this).1
 have hsub:∀b',b'∈b::MO ns→b'∈Lh ((some id::os).map (Mi g)):=by intro b' h;rw[WG];exact hperm.mem_iff.2 (ZP _ h)
 have akz:ns.length=(cells F t (l.set i y)).length:=by rw[hns,iq,Xx,← iq];simp only[La,Oy,Ro,Py];omega
 have hOw:Ri w' t (l.set i y) (C' w') (some (b,cap,n.1,ns)):=by
  refine⟨by rw[Xx];exact q1,by rw[Xx];exact q2,q3,akz,ZH,_,e,hnew,by simp only[La,Oy,Ro];omega,?_⟩
  intro k d z pl p1 p2 p3
  have ab9:=vr (l:=cur) (v:=vs) (p:=p) (by omega) k
  have afB:=vr (l:=n.2) (v:=os.map (Yr g)) (p:=p) (by rw[Py];omega) k
  rw[Py,aoQ]at afB;rw[aoJ]at ab9;rw[ab9]at p2;dsimp only at p3;rw[hns,afB]at p3;rcases Gd hx h3 hy p1 with⟨j,d0,j1,j2,j3,j4⟩ | ⟨j1,d0,j2,j3⟩
  ·rw[← hp]at j2
   rw[if_pos (by omega)]at p2 p3
   have ej:k - p=j:=by omega
   rw[ej]at p2 p3;rw[Rf]at p3;obtain⟨o',ho',rfl⟩:=Wi.1 p3;obtain⟨cc,hcc,hce⟩:=uI hst j3 ho'
   have apd:d≠.nl:=by
    rcases pP hx p1 with⟨jj,hjj,hd⟩ | ⟨hout,_⟩
    ·exact hnn d (Wu hd)
    ·omega
   have hC:=DN hm hle hce j4 (hv j cc z hcc p2) apd
   refine hC1 w' k d z _ MQ ?_ (by omega) (by omega) hC
   rintro b' c' hpl;refine hsame b' ?_;rintro rfl
   have hin:b'∈Lh (os.map (Mi g)):=by
    rw[← uq hm hle hrows]
    exact jI (k:=j) (by rw[Rf,ho'];exact congrArg some hpl)
   rw[WG]at hN0;exact(Ug.1 hN0).1 (ZU _ hin)
  ·rw[← hp]at j1
   rw[if_neg (by omega)]at p2 p3
   refine hC2 w' k d0 d z pl MQ ?_ j1 j2 j3 (q8 k d0 z pl j2 p2 p3);rintro b' c' rfl;refine hsame b' ?_;rintro rfl;exact(Ug.1 q5).1 (jI p3)
 have YN:Le g w (g.back c [some (b,cap,n.1,ns)] g.Li) w':=by
  refine⟨λy r hy=>?_,λ_ h=>h,MQ,λ_ h=>h,λb' hl=>hsame b' (λe=>(UR b adq).2.2.2 (e▸hl))⟩
  have hyc:¬ (c≤y∧y<c + [(some (b,cap,n.1,ns):Pl)].length):=by
   intro hc
   have:y=c:=by simp only[QeF]at hc;omega
   subst this;rw[hf]at hy;cases hy
  rw[ef hyc];exact hy
 have hc0:(g.back c [some (b,cap,n.1,ns)] g.Li).ids c=some (some (b,cap,n.1,ns)):=by have:=uo (g:=g) (c:=c) (LJ:=[some (b,cap,n.1,ns)]) (I:=g.Li) 0 _ rfl;simpa using this
 have aax:Lh ([]:List Pl)++Lh [some (b,cap,n.1,ns)]=b::MO ns:=by simp[Lh]
 have hfk:∀k,k < [(some (b,cap,n.1,ns):Pl)].length→g.ids (c+k)=none:=by
  intro k hk
  have:k=0:=by simp only[QeF]at hk;omega
  subst this;exact hf
 have hM:=sn (g1:=g) (m1:=m) (os:=some id::os) (bx:=[]) (Me:=[]) (Mk:=[some (b,cap,n.1,ns)]) (bs:=[(c,B')]) (Ut:=g.Li) (LX:=g.Li) (I:=g.Li) (w':=w') hm hm rfl rfl hall rfl
  hfk
  (λid' h=>by obtain⟨B,h1,h2⟩:=ada id' h;exact⟨B,h1,h1,h2⟩) (λid' h=>by simp at h) rfl ⟨hN0,λb' h=>(UR b' h).2.1,λb' h=>(UR b' h).2.2.1⟩ (λ_ h=>h) (by rw[hsz];exact MN _) (λb' _ hno=>hsame b' (λe=>hno (e▸adq))) (λ_ h=>h) (λ_ h=>h) (λb h=>.inl h) (λb' h=>by rw[hsz];exact hm.Li b' h)
  ⟨by rw[aax];exact ZH,λb' h=>(UR b' (hsub b' (aax▸h))).2.1,λb' h=>by rw[hsz];exact(UR b' (hsub b' (aax▸h))).2.2.1⟩
  (λb' h=>.inl (hsub b' (aax▸h))) (λp hp=>by rw[Lb]at hp;subst hp;exact⟨hB2,hB1 _ _ hc0 rfl hOw,.inl ⟨0,rfl,by simp⟩⟩)
 refine⟨g.back c [some (b,cap,n.1,ns)] g.Li,?_,⟨YN,by rw[hw'];rfl,by rw[hw'];rfl,by rw[hw'];rfl,by rw[hsz];exact MN _,λb' _ hno=>hsame b' (λe=>hno id B0 hB hB0 (e▸akK)),by rw[hw'];exact MN _⟩,λy hy=>ef (by simp only[QeF];omega)⟩
 have:=hM.Pq (id:=id) (k:=c) (n:=l.length) (.inl ⟨b,cap,n,(n.1,ns),YN.ids _ _ hid,hc0,rfl,q1⟩)
 have e1:YI id c l.length os B'=(nones (Mq (some id::os))++blks [(c,B')])++[(id,some (.Pq c l.length))]:=by simp[YI,Mq,blks]
 rw[e1,gU];exact this
theorem Ub(hT:Mc P T){ty:TypeId}{X Y:Operand}(ho:o.op = .store ty X Y){id sz i off:Nat}{v:Dat F}(hv:vals = [.c (.OV id sz i off),v]){t:Ty}{l:List (ET F t)}{i0:Nat}{ks:List Nat}
  (hk:(mm id=some (.Nc t l)∧ks = [])∨mm id=some (.Sr t l i0 ks)):Rule P o vals mm c K (WW T mm c K ty id sz i off v t l i0 ks):=by
 subst hv;unfold WW;split
 ·exact af
 ·rename_i ti hti
  have key:∀{w:World}{a:Act}{b q:Nat}{cur:List Value} {e:TypeId} {vs:List Value},a.eval X = .pointer (some ⟨b,q,none⟩)→w.heap[b]? = some (.cells ⟨cur⟩ e (0,0))→(a.eval Y).cells.toList=vs→vs.length=ti.size→
    (∀v∈vs,v.oneCell'=true)→q+vs.length≤cur.length→(execOp a.eval o).run P w = .ok .skip (w.setRow b ⟨cur.take q++vs++cur.drop (q+vs.length)⟩):=by
   intro w a b q cur e vs e1 hb e2 hl h1 hle;have hsz:=b_ hT hti w
   have hs:=run_storeCells_at (P:=P) b q e vs 0 ⟨cur⟩ w hb (by simpa using hle) h1
   simp only[Vm]at hs
   have hsize:(a.eval Y).cells.size=ti.size:=by rw[← Wt,e2,hl]
   simp only[execOp,ho,e1,Instr.storeAt,Instr.sureAddr,OA,PD,OM,storeVar,hsz,hsize,ne_eq,not_true_eq_false,if_false,e2,hs]
  split
  ·exact af
  ·rename_i ds os hst;refine aA (λhc=>?_) (λ_=>af);simp only[Np,decide_eq_true_eq,beq_iff_eq,R7]at hc;obtain⟨⟨⟨⟨⟨h1,h2⟩,h3⟩,h4⟩,h5⟩,h6⟩:=hc;have h3:=U4 h3;subst h2
   cases hcb:(ks.isEmpty||Nat.beq i i0)with
   | false=>exact af
   | true=>
   simp only[cond_true];refine aE λx hx=>?_;split
   ·rename_i y hy;intro r hr;refine⟨_,hr,?_⟩;intro own g w a m u hle hm U1 hall hfr hrep;rw[ho]at hrep;simp only[Op.operands,M9,Oi]at hrep;obtain⟨hxr,hyr⟩:=M5 hrep;obtain⟨b,cn,hi,e1⟩:=ja hxr;obtain⟨cap,n⟩:=cn;obtain⟨hdl,hol⟩:=o_ hst;have hlt:i<l.length:=(K_.1 hx).1
    obtain⟨r1,r2,r3⟩:=mz hyr (pQ hst) (by omega)
    have hf:g.ids c=none:=U1 c (hfr 0 (by simp))
    have hrow:∃(B0:Mg F)(C:Nat→ND F→Value→Option (Nat×Nat×Nat)→Prop),m id=some B0∧B0.owned=true∧Ri w t l C (some (b,cap,n))∧
      ∀k d z pl,(k<i*LY F t+off∨i*LY F t+off+ds.length≤k)→C k d z pl→Ov w g.Li d z pl:=by
     rcases hk with⟨hk,rfl⟩ | hk
     ·obtain⟨pl,k1,k2⟩:=hm.ok id _ (hle _ _ hk);rw[hi]at k1;cases k1;exact⟨_,λ_=>Ov w g.Li,hle _ _ hk,rfl,k2,λ_ _ _ _ _ h=>h⟩
     ·obtain⟨pl,k1,k2⟩:=hm.ok id _ (hle _ _ hk);rw[hi]at k1;cases k1;refine⟨_,_,hle _ _ hk,rfl,k2,λk d z pl hout hC=>hC.2 ?_⟩;rintro⟨q,hq,hkq⟩
      have hii:i=i0:=by
       rw[UC]at hcb;rcases hcb with hcb | hcb
       ·rw[QgE]at hcb;subst hcb;simp at hq
       ·exact Rh hcb
      subst hii;have:=Td.1 h6 q hq;simp only[Np,R7]at this;have h7:=U4 this.1;omega
    obtain⟨B0,C,hB,hBo,hO,hC⟩:=hrow;have hO':=hO;obtain⟨q1,q2,q3,q4,q5,cur,e,q6,q7,q8⟩:=hO'
    have hbig:i*LY F t+off+ds.length≤cur.length:=by
     have h8:(i+1)*LY F t≤cap*LY F t:=Rp _ (by omega)
     rw[TF]at h8;omega
    have hrun:=key (vs:=(a.eval Y).cells.toList) e1 q6 rfl (by rw[r1,← hdl,h1]) r3 (by rw[r1,← hdl];exact hbig)
    rw[r1,← hdl]at hrun;obtain⟨g',s1,s2,s3⟩:=Cg (c:=c) (C:=C) (C':=λw' _=>Ov w' g.Li) (B':=.Nc t (l.set i y)) hm hle hall (p:=i*LY F t+off) rfl hB hBo hi hO hx hst h5 h3 hy (rt hy) r1 r2 q6 hf
     (λg'' w' k1 k2 k3=>⟨_,k1,by rw[k2];exact k3⟩) rfl (λw' k d z pl k1 k2 _ _ k3=>k3.O_ (λ_ h=>h) k1 k2) (λw' k d0 d z pl k1 k2 k3 k4 k5 k6=>by have h9:=hC k d0 z pl k3 k6;rw[vl k5 h9];exact h9.O_ (λ_ h=>h) k1 k2)
    intro next Q hn;unfold Oper.wp;rw[hrun]
    exact hn undef _ g' (.c .any) s1 s2 (λid' hu hr=>by
     have hr:id'<c∨c+1≤id':=hr
     rw[s3 id' (by omega)]
     exact U1 id' hu)
   ·exact af
theorem WS(hT:Mc P T){ty:TypeId}{X Y:Operand}(ho:o.op = .store ty X Y){id sz i off:Nat}{v:Dat F}(hv:vals = [.c (.OV id sz i off),v]){t:Ty}{l:List (ET F t)}{j:Nat}
  (hk:mm id=some (.NU t l j)):Rule P o vals mm c K (YV T mm c K ty id sz i off v t l j):=by
 subst hv;unfold YV;split
 ·exact af
 ·rename_i ti hti
  have key:∀{w:World}{a:Act}{b q:Nat}{cur:List Value} {e:TypeId} {vs:List Value},a.eval X = .pointer (some ⟨b,q,none⟩)→w.heap[b]? = some (.cells ⟨cur⟩ e (0,0))→(a.eval Y).cells.toList=vs→vs.length=ti.size→
    (∀v∈vs,v.oneCell'=true)→q+vs.length≤cur.length→(execOp a.eval o).run P w = .ok .skip (w.setRow b ⟨cur.take q++vs++cur.drop (q+vs.length)⟩):=by
   intro w a b q cur e vs e1 hb e2 hl h1 hle;have hsz:=b_ hT hti w
   have hs:=run_storeCells_at (P:=P) b q e vs 0 ⟨cur⟩ w hb (by simpa using hle) h1
   simp only[Vm]at hs
   have hsize:(a.eval Y).cells.size=ti.size:=by rw[← Wt,e2,hl]
   simp only[execOp,ho,e1,Instr.storeAt,Instr.sureAddr,OA,PD,OM,storeVar,hsz,hsize,ne_eq,not_true_eq_false,if_false,e2,hs]
  split
  ·exact af
  ·rename_i ds os hst;refine aA (λhc=>?_) (λ_=>af);simp only[Np,decide_eq_true_eq,beq_iff_eq,R7]at hc;obtain⟨⟨⟨⟨h1,h2⟩,h3⟩,h4⟩,h5⟩:=hc;have h3:=U4 h3;subst h2
   cases hcb:Nat.beq i j with
   | false=>exact af
   | true=>
   simp only[cond_true];have hij:=Rh hcb;subst hij;refine aE λx hx=>?_;refine aA (λhfl=>?_) (λ_=>af);split
   ·rename_i y hy;intro r hr;refine⟨_,hr,?_⟩;intro own g w a m u hle hm U1 hall hfr hrep;rw[ho]at hrep;simp only[Op.operands,M9,Oi]at hrep;obtain⟨hxr,hyr⟩:=M5 hrep;obtain⟨b,cn,hi,e1⟩:=ja hxr;obtain⟨cap,n⟩:=cn;obtain⟨hdl,hol⟩:=o_ hst;have hlt:i<l.length:=(K_.1 hx).1
    obtain⟨r1,r2,r3⟩:=mz hyr (pQ hst) (by omega)
    have hf:g.ids c=none:=U1 c (hfr 0 (by simp))
    obtain⟨pl,k1,hO⟩:=hm.ok id _ (hle _ _ hk);rw[hi]at k1;cases k1;have hB:=hle _ _ hk;have hO':=hO;obtain⟨q1,q2,q3,q4,q5,cur,e,q6,q7,q8⟩:=hO'
    have hbig:i*LY F t+off+ds.length≤cur.length:=by
     have h8:(i+1)*LY F t≤cap*LY F t:=Rp _ (by omega)
     rw[TF]at h8;omega
    have hrun:=key (vs:=(a.eval Y).cells.toList) e1 q6 rfl (by rw[r1,← hdl,h1]) r3 (by rw[r1,← hdl];exact hbig)
    rw[r1,← hdl]at hrun
    have akE:∀q d0,(LZ F t x)[q]? = some d0→(q<off∨off+ds.length≤q)→d0.flat=true:=by
     intro q d0 hq hout;refine Td.1 hfl d0 ?_;rcases hout with hout | hout
     ·exact ZP _ (Wu (i:=q) (by rw[RG,if_pos hout];exact hq))
     ·exact ZU _ (Wu (i:=q - (off+ds.length)) (by rw[SY];rw[← hq];congr 1;omega))
    have hsz1:(i+1)*LY F t=i*LY F t+LY F t:=TF _ _;obtain⟨g',s1,s2,s3⟩:=Cg (c:=c) (C:=Vh w g.Li (LY F t) i) (C':=λw'=>Vh w' g.Li (LY F t) (i+1)) (B':=.NU t (l.set i y) (i+1)) hm hle hall (p:=i*LY F t+off) rfl hB rfl hi hO hx hst h5 h3 hy (rt hy) r1 r2 q6 hf
     (λg'' w' k1 k2 k3=>⟨_,k1,by rw[k2];exact k3⟩) rfl (λw' k d z pl k1 k2 p1 p2 k3=>⟨λ_=>k3.O_ (λ_ h=>h) k1 k2,λhno=>absurd (by omega) hno⟩) (λw' k d0 d z pl k1 k2 k3 k4 k5 k6=>by
      by_cases hk1:k<i*LY F t
      ·have h9:=k6.1 hk1
       refine⟨λ_=>?_,λhno=>absurd (by omega) hno⟩
       rw[vl k5 h9];exact h9.O_ (λ_ h=>h) k1 k2
      ·have h9:=k6.2 hk1;refine⟨λhlt2=>?_,λ_=>⟨h9.1,(h9.2.mono (λ_ h=>h) k1).Xu k5⟩⟩
       obtain⟨d1,hq⟩:∃d1,(LZ F t x)[k - i*LY F t]? = some d1:=⟨_,K9 (by rw[bo];omega)⟩
       have hcg:=a_ hx hq
       rw[show i*LY F t+(k - i*LY F t)=k by omega,k4]at hcg
       have hfd:=akE _ _ hq (by omega)
       rw[← Option.some.inj hcg]at hfd
       have hd:d=d0:=by
        cases k5 with
        | refl=>rfl
        | nl=>simp[TA.flat]at hfd
       subst hd;obtain⟨rfl,hrI⟩:=h9
       cases d with
       | sl=>simp[TA.flat]at hfd
       | nl=>simp[TA.flat]at hfd
       | _=>exact⟨rfl,rfl,hrI.mono (λ_ h=>h) k1⟩)
    intro next Q hn;unfold Oper.wp;rw[hrun]
    exact hn undef _ g' (.c .any) s1 s2 (λid' hu hr=>by
     have hr:id'<c∨c+1≤id':=hr
     rw[s3 id' (by omega)]
     exact U1 id' hu)
   ·exact af
theorem qB:∀{cs:List (ND F)} {k0:Nat} {j:Nat} {q:Nat} {B:Mg F},(b9 F k0 cs)[j]? = some (q,B)→∃k t l,q=k0+k∧cs[k]? = some (.sl t l)∧B = .row t l
 | [],k0,j,q,B,h=>by simp[b9]at h
 | d::r,k0,j,q,B,h=>by
  have rest:∀{j:Nat},(b9 F (k0+1) r)[j]? = some (q,B)→∃k t l,q=k0+k∧(d::r)[k]? = some (.sl t l)∧B = .row t l:=by
   intro j h;obtain⟨k,t,l,h1,h2,h3⟩:=qB h
   exact⟨k+1,t,l,by omega,by simpa using h2,h3⟩
  cases d with
  | sl t l=>
   simp only[b9]at h
   cases j with
   | zero=>
    simp only[PW,NJ,Prod.mk.injEq]at h
    exact⟨0,t,l,by omega,rfl,h.2.symm⟩
   | succ j=>exact rest (by simpa using h)
  | _=>exact rest h
theorem wN:∀{cs:List (ND F)} {k0:Nat},∀q∈(b9 F k0 cs).map (·.1),k0≤q∧q<k0+cs.length:=by intro cs k0 q hq;obtain⟨p,hp,rfl⟩:=Ra.1 hq;obtain⟨j,hj⟩:=XT hp;obtain⟨k,t,l,h1,h2,_⟩:=qB (q:=p.1) (B:=p.2) hj;have:=(K_.1 h2).1;omega
theorem pO:∀{cs:List (ND F)} {k0:Nat},((b9 F k0 cs).map (·.1)).Nodup
 | [],k0=>by simp[b9]
 | d::r,k0=>by
  cases d with
  | sl t l=>
   simp only[b9,M9,Ug]
   exact⟨λh=>by have:=wN _ h;omega,pO (cs:=r)⟩
  | _=>exact pO (cs:=r) (k0:=k0+1)
theorem r7:∀{cs:List (ND F)} {k0 c k:Nat} {y:MJ F},(takeC F c cs)[k]? = some y→
  (∃t l j,cs[k]? = some (.sl t l)∧y = .Nn (c+j)∧(b9 F k0 cs)[j]? = some (k0+k,.row t l))∨(∃d,cs[k]? = some d∧(∀t l,d≠.sl t l)∧y = .im d)
 | [],k0,c,k,y,h=>by simp[takeC]at h
 | d::r,k0,c,k,y,h=>by
  cases d with
  | sl t l=>
   simp only[takeC]at h
   cases k with
   | zero=>
    simp only[PW,NJ]at h
    exact .inl ⟨t,l,0,rfl,h.symm,by simp[b9]⟩
   | succ k=>
    rcases r7 (k0:=k0+1) (cs:=r) (by simpa using h)with⟨t',l',j,h1,h2,h3⟩ | ⟨d,h1,h2,h3⟩
    ·exact .inl ⟨t',l',j+1,by simpa using h1,by rw[h2];congr 1;omega,by simp only[b9,QdK];rw[h3];congr 2;omega⟩
    ·exact .inr ⟨d,by simpa using h1,h2,h3⟩
  | _=>
   simp only[takeC]at h
   cases k with
   | zero=>
    simp only[PW,NJ]at h
    exact .inr ⟨_,rfl,by simp,h.symm⟩
   | succ k=>
    rcases r7 (k0:=k0+1) (cs:=r) (by simpa using h)with⟨t',l',j,h1,h2,h3⟩ | ⟨d,h1,h2,h3⟩
    ·exact .inl ⟨t',l',j,by simpa using h1,h2,by simp only[b9];rw[h3];congr 2;omega⟩
    ·exact .inr ⟨d,by simpa using h1,h2,h3⟩
theorem Hv{w:World}{Li:Nat→Prop}{g2:G}{id:Nat}{t:Ty}{l:List (ET F t)}{pl:Option (Nat×Nat×Nat)}{v:Value}(hi:g2.ids id=some (Nt pl))(hO:da w Li t l (Nt pl))(hv:Ol (Nt pl) v):Mh (F:=F) g2 w (.Nn id) v:=by
 cases pl with
 | none=>obtain⟨p,rfl⟩:=hv;exact .PG p hi
 | some q=>obtain⟨b2,cap2,n2⟩:=q;simp only[Nt,Ol]at hv;subst hv;obtain⟨r1,r2,r3,_⟩:=hO;cases r1;exact .Nn hi r2 r3
theorem Bw(hT:Mc P T){ty:TypeId}{X:Operand}(ho:o.op = .load ty X){id sz i off:Nat}(hv:vals = [.c (.OV id sz i off)]){t:Ty}{l:List (ET F t)}(hrow:mm id=some (.Nc t l)):Rule P o vals mm c K (AE T c K ty id sz i off t l):=by
 subst hv;unfold AE
 have key:∀{w:World}{a:Act}{b q:Nat}{v:Value},a.eval X = .pointer (some ⟨b,q,none⟩)→(loadVar ty ⟨b,q,none⟩).run P w = .ok v w→(execOp a.eval o).run P w = .ok (.value v) w:=by intro w a b q v e hr;simp[execOp,ho,e,Instr.loadAt,Instr.sureAddr,hr]
 split
 ·exact af
 ·rename_i ti hti;refine aA (λhc=>?_) (λ_=>af);simp only[Np,beq_iff_eq]at hc;obtain⟨rfl,hag⟩:=hc;refine aE λx hx=>?_;refine aA (λhfl=>?_) (λ_=>?_)
  ·refine nC λd hd=>?_;intro own g w a m hle hm hr;rw[ho]at hr;obtain⟨b,cn,hi,e⟩:=ja (Nw hr);obtain⟨_,_,_,hcell⟩:=kg hm (hle _ _ hrow) (c:=cn.1) (n:=cn.2) hi
   obtain⟨v,hrun,hrep⟩:=eo (P:=P) (g:=g) (w:=w) hT hti hd (b:=b) (q:=i*LY F t) (by
    intro k c hk;rw[Rf]at hk;obtain⟨d',hd',rfl⟩:=Wi.1 hk;obtain⟨y,pl,k1,k2,k3⟩:=hcell _ _ (a_ hx hd');refine⟨y,k1,?_⟩
    cases hf:d'.flat with
    | true=>
     cases d' with
     | sl=>simp[TA.flat]at hf
     | _=>exact .im k3.2.2
    | false=>
     refine .one ?_
     cases d' with
     | sl t2 l2=>
      have hv:=k3.2
      cases pl with
      | none=>obtain⟨p,rfl⟩:=hv;rfl
      | some q=>simp only[Nt,Ol]at hv;subst hv;rfl
     | _=>exact k3.2.2.oneCell)
   exact⟨v,key e hrun,hrep⟩
  ·refine aA (λhok=>?_) (λ_=>af);split
   ·rename_i d hd;intro r hr;refine⟨_,hr,?_⟩;intro own g w a m u hle hm U1 hall hfr hrep;rw[ho]at hrep;obtain⟨b,cn,hi,e⟩:=ja (Nw hrep);obtain⟨cap,n⟩:=cn;obtain⟨sl,hsl⟩:∃sl,sl=b9 F 0 (LZ F t x):=⟨_,rfl⟩
    have ab3:(sl.map (·.1)).length=sl.length:=by simp
    have hfree:∀j,j<(sl.map (·.1)).length+1→g.ids (c+j)=none:=λj hj=>U1 _ (hfr j (by simp only[← hsl];rw[ab3]at hj;omega))
    obtain⟨g2,b',cap',n',k1,k2,k3,k4,k5,k6,k7,k8,k9,k10⟩:=xK (c:=c) (ks:=sl.map (·.1)) (rs:=sl.map (·.2)) hm hall (hle _ _ hrow) hx (by rw[hsl];exact pO) (by simp) (λj B hj=>by
     rw[Rf]at hj;obtain⟨p,hp,rfl⟩:=Wi.1 hj;rw[hsl]at hp;obtain⟨k,t2,l2,h1,h2,h3⟩:=qB (q:=p.1) (B:=p.2) hp;rw[OW]at h1;subst h1
     exact⟨p.1,t2,l2,by rw[Rf,hsl,hp];rfl,h3,h2⟩) (λq hq=>by
      have:=wN (cs:=LZ F t x) (k0:=0) q (by rw[← hsl];exact hq)
      rw[bo]at this;omega) hfree
    rw[hi]at k6;cases k6;obtain⟨_,_,_,hcell⟩:=kg hm (hle _ _ hrow) (c:=cap) (n:=n) hi
    obtain⟨v,hrun,hrv⟩:=eo (P:=P) (g:=g2) (w:=w) hT hti hd (b:=b) (q:=i*LY F t) (by
     intro k cc hk;rcases r7 (k0:=0) hk with⟨t2,l2,j,h1,h2,h3⟩ | ⟨d',h1,h2,h3⟩
     ·obtain⟨y,pl,q1,q2,q3⟩:=hcell _ _ (a_ hx h1);refine⟨y,q1,?_⟩;subst h2
      have hname:=k8 j k (by rw[Rf,hsl,h3];simp)
      have q2:n.2[i*LY F t+k]? = some pl:=q2;rw[q2,Ws]at hname;exact Hv hname q3.1 q3.2
     ·obtain⟨y,pl,q1,q2,q3⟩:=hcell _ _ (a_ hx h1);refine⟨y,q1,?_⟩;subst h3;refine .im ?_
      cases d' with
      | sl t2 l2=>exact absurd rfl (h2 t2 l2)
      | _=>exact(q3.2.2:L_ w g.Li _ y).mono (λb h=>by rw[k3];exact h) (λ_ _=>rfl))
    intro next Q hn;unfold Oper.wp;rw[key e hrun]
    have hmw:Ml m (Rq id c t l i (sl.map (·.1)) (sl.map (·.2)))=Ml m (Rq id c t l i ((b9 F 0 (LZ F t x)).map (·.1)) ((b9 F 0 (LZ F t x)).map (·.2))):=by rw[hsl]
    refine hn v w g2 hrv (hmw▸k2) ⟨k1,rfl,rfl,rfl,MN _,λ_ _ _=>rfl,MN _⟩ ?_;intro y hu hy;have hy:y<c∨c+(1+(b9 F 0 (LZ F t x)).length)≤y:=hy;rw[← hsl]at hy
    rw[k5 y (by rw[ab3];omega)]
    exact U1 y hu
   ·exact af
theorem V7(hT:Mc P T){ty:TypeId}{X:Operand}(ho:o.op = .load ty X){id sz i off:Nat}(hv:vals = [.c (.OV id sz i off)]){t:Ty}{l:List (ET F t)}{j:Nat}(hrow:mm id=some (.NU t l j)):Rule P o vals mm c K (zE T K ty sz i off t l j):=by
 subst hv;unfold zE
 have key:∀{w:World}{a:Act}{b q:Nat}{v:Value},a.eval X = .pointer (some ⟨b,q,none⟩)→(loadVar ty ⟨b,q,none⟩).run P w = .ok v w→(execOp a.eval o).run P w = .ok (.value v) w:=by intro w a b q v e hr;simp[execOp,ho,e,Instr.loadAt,Instr.sureAddr,hr]
 split
 ·exact af
 ·rename_i ti hti;refine aA (λhc=>?_) (λ_=>af);simp only[beq_iff_eq]at hc;subst hc
  cases hji:Nat.ble j i with
  | false=>exact af
  | true=>
  simp only[cond_true];have hji:=U4 hji;refine aE λx hx=>nC λd hd=>?_;intro own g w a m hle hm hr;rw[ho]at hr;obtain⟨b,cn,hi,e⟩:=ja (Nw hr);obtain⟨pl,k1,k2⟩:=hm.ok id _ (hle _ _ hrow);rw[hi]at k1;cases k1;obtain⟨cap,n⟩:=cn;obtain⟨q1,q2,q3,q4,q5,cur,e0,q6,q7,q8⟩:=k2;have hlt:i<l.length:=(K_.1 hx).1
  obtain⟨v,hrun,hrep⟩:=eo (P:=P) (g:=g) (w:=w) hT hti hd (b:=b) (q:=i*LY F t) (by
   intro k c hk;obtain⟨d',hd',rfl⟩:=j6 hk;have hc:=a_ hx hd'
   have hks:k<LY F t:=by rw[← bo F t x];exact(K_.1 hd').1
   have h1:i*LY F t+k<(cells F t l).length:=(K_.1 hc).1
   have h2:(cells F t l).length≤cur.length:=by rw[q7,iq];exact Rp _ q2
   have hC:=q8 _ _ _ _ hc (K9 (by omega:i*LY F t+k<cur.length)) (K9 (by omega:i*LY F t+k<n.2.length))
   refine⟨cur[i*LY F t+k],?_,.im (hC.2 ?_).2⟩
   ·simp[World.cell?,q6]
   ·have:j*LY F t≤i*LY F t:=Rp _ hji;omega)
  exact⟨v,key e hrun,hrep⟩
theorem yj(hT:Mc P T)(hΓ : ML P Γ):Rule P o vals mm c K (aae T Γ vals mm c K o.op):=by
 unfold aae;split
 ·exact Df hT hΓ rfl
 ·rename_i ho;split
  ·rename_i hrow;exact Ub hT ho rfl (.inl ⟨hrow,rfl⟩)
  ·rename_i hrow;exact Ub hT ho rfl (.inr hrow)
  ·rename_i hrow;exact WS hT ho rfl hrow
  ·exact oQ hT hΓ
 ·rename_i ho;split
  ·rename_i hrow;split
   ·rename_i ti hti;exact aA (λ_=>Bw hT ho rfl hrow) (λ_=>oQ hT hΓ)
   ·exact af
  ·rename_i hrow;exact V7 hT ho rfl hrow
  ·exact oQ hT hΓ
 ·rename_i id kk n ho;split
  ·rename_i ads;split
   ·rename_i e _ _ _ _ _ ht;split
    ·rename_i te hte;refine aE λi hi=>av ?_;intro own g w a m hle hm hr;rw[ho]at hr;simp only[Op.operands,M9,Oi]at hr;obtain⟨h1,h2⟩:=M5 hr;obtain⟨h3,h4,rfl⟩:=ot hi;have hS:=hm.ok _ _ (hle _ _ ads);rcases bu (bh h1)with⟨hid,p,ev⟩ | ⟨b,c',len,hid,h5,h6,ev⟩
     ·rcases hS with⟨_,_,_,_,k1,_⟩ | ⟨_,_,k3⟩
      ·rw[hid]at k1;cases k1
      ·omega
     ·rcases hS with⟨_,_,_,_,k1,_,_,k4⟩ | ⟨k1,_⟩
      ·rw[hid]at k1;cases k1
       refine⟨.pointer (some ⟨b,0+n.toNat*te.size,none⟩),?_,by rw[OW];exact .c (.OV (off:=0) hid)⟩
       have hu:=run_underlying (hT.und _ _ ht) w;have hs:=b_ hT hte w;have e2:=cv h2
       have h7:0≤n∧n<len.1:=⟨h3,by omega⟩
       simp only[execOp,ho,ev,e2,OA,Instr.indexAt,asIntOf,hu,OM,PD,h7,and_self,if_true,hs,Addr.add_lit]
      ·rw[hid]at k1;cases k1
    ·exact af
   ·exact af
  ·exact oQ hT hΓ
 ·exact oQ hT hΓ
theorem EB(hT:Mc P T)(hΓ : ML P Γ):Rule P o vals mm c K (acO T Γ vals mm c K o.op):=by
 unfold acO;split
 ·exact yj hT hΓ
 ·exact HP (yj hT hΓ)
end
set_option linter.unusedVariables false
set_option linter.unusedSimpArgs false
section
variable{F:Fam}
def TS.st(s:TS F):St F:=⟨look s.E,look s.M,λid=>Nat.blt id s.c⟩
structure TR(F:Fam) where
 o:Oper
 s:St F
 c:Nat
 val:Dat F
 mw:List (Nat×Option (Mg F))
 nu:Nat
 run:Bool
 Xw:Nat
def St.upd(s:St F)(t:TR F):St F:=⟨λx=>if t.o.dst=some x then some t.val else s.e x,Ml s.m t.mw,λid=>(decide (t.c≤id)&&decide (id<t.c+t.nu))||s.u id⟩
def TR.next(t:TR F):St F:=t.s.upd t
section
variable(P:Program)(n:Nat)(ops:List Oper)
def Grd(o:Oper)(s:St F):Prop:=
 ∃j want d,o.guard=some (j,want)∧RS ops j=some d∧s.e d=some (.c (.im (.b want)))
def Skp(o:Oper)(s:St F):Prop:=
 ∃j want d,o.guard=some (j,want)∧RS ops j=some d∧(s.e d=some (.c (.im (.b (!want))))∨s.e d=some (.Pp []))
def TR.gs(t:TR F):List Nat:=match t.o.guard with | some (j,_)=>(RS ops j).toList | none=>[]
def TR.vals(t:TR F):List (Dat F):=t.o.op.operands.toList.map (opd t.s.e)
def TR.rs(t:TR F):List Nat:=if t.run then t.gs ops++qD t.o.op.operands.toList else t.gs ops
def TR.tm(t:TR F):List Nat:=if t.run then CP t.s.m t.o.op t.vals else[]
def TR.rc(t:TR F):Rec:=⟨t.rs ops,t.o.dst,t.tm,t.mw.map (·.1),t.Xw⟩
structure TR.ok(t:TR F):Prop where
 dst:∀d,t.o.dst=some d→d<n
 fresh:∀k,k<t.nu→t.s.u (t.c+k)=false
 ran:t.run=true→Does P t.o t.vals (W9 t.s.m t.tm) t.c { val:=t.val,mw:=t.mw,nu:=t.nu }∧(t.o.guard=none∨Grd ops t.o t.s)
 skipped:t.run=false→t.val = .Pp []∧t.mw = []∧t.nu=0∧Skp ops t.o t.s
def Chain:St F→List (TR F)→St F→Prop
 | s,[],s'=>s'=s
 | s,t::l,s'=>t.s=s∧Chain t.next l s'
def wc:List Rec→List (TR F)→Prop
 | _,[]=>True
 | rs,t::l=>t.Xw=P_ rs (MX t.o.after.toList)∧wc (rs++[t.rc ops]) l
end
theorem az{α : Type}(x y:Nat)(a:α)(l:List (Nat×α)):look ((y,a)::l) x=if Nat.beq y x then some a else look l x:=rfl
theorem qN(E:List (Nat×Dat F))(dst:Option Nat)(d:Dat F)(x:Nat):look (U8 E dst d) x=if dst=some x then some d else look E x:=by
 cases dst with
 | none=>simp[U8]
 | some y=>
  simp only[U8,az];by_cases h:y=x
  ·subst h;simp
  ·rw[ao h];simp[h]
theorem aK{α : Type}(q:Nat→Bool)(x:Nat):∀(l:List (Nat×α)),look (l.filter λp=>q p.1) x=if q x then look l x else none
 | []=>by simp[look]
 | (y,a)::l=>by
  by_cases hq:q y=true
  ·rw[QdW (by simpa using hq),az,az,aK q x l]
   by_cases h:y=x
   ·subst h;simp[hq]
   ·rw[ao h];simp
  ·rw[Z9 (by simpa using hq),aK q x l,az]
   by_cases h:y=x
   ·subst h;simp[hq]
   ·rw[ao h];simp
theorem bj{α : Type}(x:Nat):∀(l r:List (Nat×α)),look (l++r) x=(look l x).or (look r x)
 | [],r=>by simp[look]
 | (y,a)::l,r=>by
  simp only[UF,az,bj x l r]
  split<;>simp
theorem sr:∀(mw:List (Nat×Option (Mg F))) {m m':Nat→Option (Mg F)},(∀x,m x=m' x)→∀x,Ml m mw x=Ml m' mw x
 | [],_,_,h,x=>h x
 | (id,B)::r,m,m',h,x=>by
  simp only[Ml]
  exact sr r (λy=>by rw[h y]) x
theorem iV:∀(mw:List (Nat×Option (Mg F))) (M:List (Nat×Mg F)) (x:Nat),look (R9 M mw) x=Ml (look M) mw x
 | [],M,x=>rfl
 | (id,none)::r,M,x=>by
  simp only[R9,Ml];rw[iV r];refine sr r (λy=>?_) x;rw[aK (λp=>!(Nat.beq id p))]
  cases Nat.beq id y<;>simp
 | (id,some B)::r,M,x=>by
  simp only[R9,Ml];rw[iV r];refine sr r (λy=>?_) x;rw[az,aK (λp=>!(Nat.beq id p))]
  cases Nat.beq id y<;>simp
structure Fr(nv:Nat)(s s':TS F):Prop where
 e:∀x,x<nv→x∉s'.dE→look s'.E x=look s.E x
 m:∀id,id<s.c→id∉s'.dM→look s'.M id=look s.M id
 c:s.c≤s'.c
 dE:∀x∈s.dE,x∈s'.dE
 dM:∀x∈s.dM,x∈s'.dM
theorem Fr.refl(nv:Nat)(s:TS F):Fr nv s s:=⟨λ_ _ _=>rfl,λ_ _ _=>rfl,MN _,λ_ h=>h,λ_ h=>h⟩
theorem Fr.trans{nv:Nat}{s s' s'':TS F}(h:Fr nv s s')(k:Fr nv s' s''):Fr nv s s'':=
 ⟨λx hx hn=>(k.e x hx hn).trans (h.e x hx (λhd=>hn (k.dE x hd))),λid hi hn=>(k.m id (UG hi h.c) hn).trans (h.m id hi (λhd=>hn (k.dM id hd))),
  Rb h.c k.c,λx hx=>k.dE x (h.dE x hx),λx hx=>k.dM x (h.dM x hx)⟩
section
variable{P:Program}{T:TypeId→Option (TI F)}{Γ : Ctx F}{nv n:Nat}{ops:List Oper}{R:Type}
def th(P:Program)(nv n:Nat)(ops:List Oper)(o:Oper)(s:TS F)(recs:List Rec)(K:TS F→List Rec→Option R)(r:R):Prop:=
 ∃s' t,K s' (recs++[t.rc ops])=some r∧t.o=o∧t.s=s.st∧t.next=s'.st∧TR.ok P n ops t∧t.Xw=P_ recs (MX o.after.toList)∧Fr nv s s'
theorem Cz{o:Oper}(h:(match o.dst with | some d=>Nat.blt d n | none=>true)=true):∀d,o.dst=some d→d<n:=by intro d hd;rw[hd]at h;exact R7.mp h
theorem yo{dE:List Nat}{dst:Option Nat}{x:Nat}(hx:x<nv)(h:x∉dirty nv dE dst):dst≠some x∧x∉dE:=by
 cases dst with
 | none=>exact⟨by simp,h⟩
 | some y=>
  simp only[dirty]at h;split at h
  ·simp only[Nz,not_or]at h
   exact⟨λe=>by cases e;exact h.1 rfl,h.2⟩
  ·rename_i hb;refine⟨λe=>?_,h⟩;cases e;exact hb (R7.mpr hx)
theorem yk{dE:List Nat}{dst:Option Nat}{x:Nat}(h:x∈dE):x∈dirty nv dE dst:=by
 cases dst with
 | none=>exact h
 | some y=>
  simp only[dirty];split
  ·simp[h]
  ·exact h
theorem DD{s s':St F}(h1:∀x,s.e x=s'.e x)(h2:∀x,s.m x=s'.m x)(h3:∀x,s.u x=s'.u x):s=s':=by
 cases s;cases s'
 simp only[St.mk.injEq];exact⟨funext h1,funext h2,funext h3⟩
theorem bX(a b:Nat):Nat.blt a b=decide (a<b):=by rw[YA];simp[R7]
theorem aQ{p:Prop}[Decidable p]{x:Option R}{r:R}(h:(if p then x else none)=some r):p∧x=some r:=by
 split at h
 ·exact⟨by assumption,h⟩
 ·cases h
theorem vc{o:Oper}{gs:List Nat}{s:TS F}{recs:List Rec}{K:TS F→List Rec→Option R}{r:R}(h:VK nv n o gs s recs K=some r)
  (hgs:gs=(match o.guard with | some (j,_)=>(RS ops j).toList | none=>[])) (hsk:Skp ops o s.st):th P nv n ops o s recs K r:=by
 unfold VK at h;obtain⟨hd,h⟩:=aQ h
 ·refine⟨⟨U8 s.E o.dst (.Pp []),s.M,s.c,dirty nv s.dE o.dst,s.dM⟩,⟨o,s.st,s.c,.Pp [],[],0,false,P_ recs (MX o.after.toList)⟩,?_,rfl,rfl,?_,⟨Cz (n:=n) (o:=o) hd,λk hk=>absurd hk (Nat.not_lt_zero k),λhr=>(by cases hr),λ_=>⟨rfl,rfl,rfl,hsk⟩⟩,rfl,?_⟩
  ·rw[hgs]at h;exact h
  ·refine DD (λx=>?_) (λx=>rfl) (λx=>?_)
   ·simp only[TR.next,St.upd,TS.st];rw[qN]
   ·simp only[TR.next,St.upd,TS.st,Vm];by_cases hx:s.c≤x
    ·have:¬ x<s.c:=by omega
     simp[this,bX]
    ·simp[hx]
  ·refine⟨λx hx hn=>?_,λ_ _ _=>rfl,MN _,λx hx=>yk hx,λ_ hx=>hx⟩;show look (U8 s.E o.dst (.Pp [])) x=_;rw[qN,if_neg (yo hx hn).1]
theorem A0(hT:Mc P T)(hΓ : ML P Γ){o:Oper}{gs:List Nat}{s:TS F}{recs:List Rec}{K:TS F→List Rec→Option R}{r:R}(h:tGo T Γ nv n o gs s recs K=some r)
  (hgs:gs=(match o.guard with | some (j,_)=>(RS ops j).toList | none=>[])) (hgr:o.guard=none∨Grd ops o s.st):th P nv n ops o s recs K r:=by
 unfold tGo at h;obtain⟨res,h1,h2⟩:=EB hT hΓ r h;obtain⟨hd,h1⟩:=aQ h1
 ·refine⟨⟨U8 s.E o.dst res.val,R9 s.M res.mw,s.c+res.nu,dirty nv s.dE o.dst,res.mw.map (·.1)++s.dM⟩,⟨o,s.st,s.c,res.val,res.mw,res.nu,true,P_ recs (MX o.after.toList)⟩,?_,rfl,rfl,?_,⟨Cz (n:=n) (o:=o) hd,λk hk=>?_,λ_=>⟨h2,hgr⟩,λhr=>(by cases hr)⟩,rfl,?_⟩
  ·rw[hgs]at h1;exact h1
  ·refine DD (λx=>?_) (λx=>?_) (λx=>?_)
   ·simp only[TR.next,St.upd,TS.st];rw[qN]
   ·simp only[TR.next,St.upd,TS.st];rw[iV]
   ·simp only[TR.next,St.upd,TS.st,bX];rw[YA];simp only[UC,Np,decide_eq_true_eq];omega
  ·simp only[TS.st,bX];simp
  ·refine⟨λx hx hn=>?_,λid hi hn=>?_,Nat.le_add_right _ _,λx hx=>yk hx,λ_ hx=>ZU _ hx⟩
   ·show look (U8 s.E o.dst res.val) x=_;rw[qN,if_neg (yo hx hn).1]
   ·show look (R9 s.M res.mw) id=_;rw[iV,dT];intro hm;exact hn (ZP _ hm)
theorem K6{s:TS F}{d:Nat}{v:Dat F}(h:look s.E d=some v):(⟨(d,v)::s.E,s.M,s.c,s.dE,s.dM⟩:TS F).st=s.st:=by
 refine DD (λx=>?_) (λx=>rfl) (λx=>rfl);simp only[TS.st,az];by_cases hx:d=x
 ·subst hx;simp[h]
 ·rw[ao hx];simp
theorem FF{s:TS F}{d:Nat}{v:Dat F}(hv:look s.E d=some v){o:Oper}{recs:List Rec}{K:TS F→List Rec→Option R}{r:R}(h:th P nv n ops o ⟨(d,v)::s.E,s.M,s.c,s.dE,s.dM⟩ recs K r):th P nv n ops o s recs K r:=by
 obtain⟨s',t,h1,h2,h3,h4,h5,h6,h7⟩:=h;rw[K6 hv]at h3;refine⟨s',t,h1,h2,h3,h4,h5,h6,⟨λx hx hn=>?_,h7.m,h7.c,h7.dE,h7.dM⟩⟩;rw[h7.e x hx hn,az];by_cases hdx:d=x
 ·subst hdx;simp[hv]
 ·rw[ao hdx];simp
theorem H1(hT:Mc P T)(hΓ : ML P Γ){o:Oper}{s:TS F}{recs:List Rec}{K:TS F→List Rec→Option R}{r:R}(h:YW T Γ nv n ops o s recs K=some r):th P nv n ops o s recs K r:=by
 unfold YW at h;split at h
 ·rename_i hg
  exact A0 hT hΓ h (by rw[hg]) (.inl hg)
 ·rename_i j want hg;split at h
  ·cases h
  ·rename_i d hd
   have hgs:[d]=(match o.guard with | some (j,_)=>(RS ops j).toList | none=>[]):=by rw[hg];simp[hd]
   split at h
   ·rename_i x hx
    have hx':∀b,x=b→look s.E d=some (.c (.im (.b b))):=λb e=>by rw[hx,e]
    have self:∀b,(⟨(d,.c (.im (.b b)))::s.E,s.M,s.c,s.dE,s.dM⟩:TS F).st.e d=some (.c (.im (.b b))):=λb=>by simp[TS.st,az]
    cases x with
    | true=>
     refine FF (hx' true rfl) ?_;simp only[cond_true]at h;split at h
     ·rename_i hw
      exact A0 hT hΓ h hgs (.inr ⟨j,want,d,hg,hd,by rw[hw];exact self true⟩)
     ·rename_i hw
      exact vc h hgs ⟨j,want,d,hg,hd,.inl (by rw[Bool.not_eq_true]at hw;rw[hw];exact self true)⟩
    | false=>
     refine FF (hx' false rfl) ?_;simp only[cond_false]at h;split at h
     ·rename_i hw
      exact vc h hgs ⟨j,want,d,hg,hd,.inl (by rw[hw];exact self false)⟩
     ·rename_i hw
      exact A0 hT hΓ h hgs (.inr ⟨j,want,d,hg,hd,by rw[Bool.not_eq_true]at hw;rw[hw];exact self false⟩)
   ·rename_i hx;exact vc h hgs ⟨j,want,d,hg,hd,.inr hx⟩
   ·cases h
theorem qf(hT:Mc P T)(hΓ : ML P Γ):∀{l:List Oper}{s:TS F}{recs:List Rec}{K:TS F→List Rec→Option R} {r:R},WA T Γ nv n ops l s recs K=some r→
  ∃s' tr,K s' (recs++tr.map (·.rc ops))=some r∧tr.map (·.o)=l∧Chain s.st tr s'.st∧(∀t∈tr,TR.ok P n ops t)∧wc ops recs tr∧Fr nv s s'
 | [],s,recs,K,r,h=>⟨s,[],by simpa[WA]using h,rfl,rfl,by simp,trivial,.refl _ _⟩
 | o::l,s,recs,K,r,h=>by
  simp only[WA]at h;obtain⟨s1,t,h1,h2,h3,h4,h5,h6,h7⟩:=H1 hT hΓ h;obtain⟨s',tr,k1,k2,k3,k4,k5,k6⟩:=qf hT hΓ h1
  refine⟨s',t::tr,by simpa using k1,by simp[h2,k2],⟨h3,by rw[h4];exact k3⟩,?_,⟨by rw[h2];exact h6,k5⟩,h7.trans k6⟩
  intro x hx;rcases Nz.1 hx with rfl | hx
  ·exact h5
  ·exact k4 x hx
end
section
variable{P:Program}{n:Nat}{ops:List Oper}{own:Ow}{W0:World}
theorem wv{x:Nat}:∀{l:List Operand},Operand.tmp x∈l→x∈qD l
 | [],h=>by simp at h
 | y::l,h=>by
  rcases Nz.1 h with rfl | h
  ·simp[qD]
  ·have:=wv h
   cases y<;>simp[qD,this]
theorem Bg{s:St F}{g g':G}{a:Act}{w w':World}{t:TR F}{v:Value}(h:Good P own W0 n s g a w)(hd:∀d,t.o.dst=some d→d<n)(hv:Ma P g' w' t.val v)
  (hm:LQ own g' w' (Ml s.m t.mw)) (hst:Stp s.m g w g' w') (hu:∀id,s.u id=false→(id<t.c∨t.c+t.nu≤id)→g'.ids id=none):Good P own W0 n (s.upd t) g' (a.put t.o.dst v) w':=by
 have htm:(a.put t.o.dst v).tmps.size=n:=by
  rw[← h.Tj]
  cases t.o.dst<;>simp[Act.put]
 have hdf:(a.put t.o.dst v).defers = []:=by
  rw[← h.Ue]
  cases t.o.dst<;>rfl
 refine⟨hdf,htm,?_,hm,?_,λb hb=>hst.le.Li b (h.Tw b hb),h.NW.stp h.mem hst,λid p hp=>hst.le.ids id p (h.Sn id p hp)⟩
 ·intro x d hx;simp only[St.upd]at hx;split at hx
  ·rename_i hdst;cases hx;have hlt:=hd x hdst;rw[hdst];simp only[Act.put];rw[UH,QcQ]
   rw[if_pos rfl,if_pos (by rw[h.Tj];exact hlt)]
   exact hv
  ·rename_i hdst;have:=(h.env x d hx).le hst.le
   cases hdd:t.o.dst with
   | none=>exact this
   | some y=>
    have hne:y≠x:=λe=>hdst (by rw[hdd,e])
    simp only[Act.put];rw[UH,QcQ,if_neg hne,← UH];exact this
 ·intro id hid;simp only[St.upd,YD,QeY,decide_eq_false_iff_not]at hid
  exact hu id hid.2 (by omega)
theorem D_{MK:Array Oper}(hops:MK.toList=ops){s:St F}{g:G}{a:Act}{w:World}(h:Good P own W0 n s g a w){j d:Nat}{b:Bool}(hd:RS ops j=some d)(he:s.e d=some (.c (.im (.b b)))) :
  yielded MK a.tmps j=some b:=by
 have hv:=pX (h.env d _ he)
 have hj:(MK[j]?).bind (·.dst)=some d:=by rw[← hd];simp only[RS,← hops];simp
 have ht:a.tmps[d]? = some (.bool b):=by
  rw[UH]at hv
  cases hx:a.tmps[d]? with
  | none=>rw[hx]at hv;simp[undef]at hv
  | some x=>rw[hx]at hv;simp only[Ws]at hv;rw[hv]
 simp only[yielded,hj,K8,ht]
theorem Ku{MK:Array Oper}(hops:MK.toList=ops){s:St F}{g:G}{a:Act}{w:World}(h:Good P own W0 n s g a w){j d:Nat}(hd:RS ops j=some d)(he:s.e d=some (.Pp [])) :
  yielded MK a.tmps j=none:=by
 obtain⟨vs,hv,hl,_⟩:=B5 (h.env d _ he)
 have hj:(MK[j]?).bind (·.dst)=some d:=by rw[← hd];simp only[RS,← hops];simp
 simp only[yielded,hj,K8];rw[UH]at hv
 cases hx:a.tmps[d]? with
 | none=>rfl
 | some x=>rw[hx]at hv;simp only[Ws]at hv;rw[hv]
theorem wT{t:TR F}(ok:TR.ok P n ops t){s:St F}(hge:∀x∈t.rs ops,s.e x=t.s.e x)(hgm:∀id,id∈t.tm→s.m id=t.s.m id)
  (hfr:∀k,k<t.nu→s.u (t.c+k)=false) {g:G} {a:Act} {w:World} (hgood:Good P own W0 n s g a w) {MK:Array Oper} (hops:MK.toList=ops) {i:Nat} (hi:MK[i]? = some t.o)
  {K:Act→World→Prop} {Q:Exit→Act→World→Prop} (hK:∀g' a' w',Good P own W0 n (s.upd t) g' a' w'→K a' w'):wpOp P MK Q i K a w:=by
 unfold wpOp;rw[hi];dsimp only
 cases hrun:t.run with
 | false=>
  obtain⟨h1,h2,h3,j,want,d,hgd,hdd,hlk⟩:=ok.skipped hrun
  have hmem:d∈t.rs ops:=by simp[TR.rs,hrun,TR.gs,hgd,hdd]
  have hw:Region.wanted t.o (yielded MK a.tmps)=false:=by
   rcases hlk with hlk | hlk
   ·have he:s.e d=some (.c (.im (.b (!want)))):=by rw[hge d hmem,hlk]
    have hy:=D_ hops hgood hdd he;simp only[Region.wanted,hgd,hy]
    cases want<;>rfl
   ·have he:s.e d=some (.Pp []):=by rw[hge d hmem,hlk]
    have hy:=Ku hops hgood hdd he;simp only[Region.wanted,hgd,hy];rfl
  rw[hw];simp only[RZ,if_false]
  refine hK g _ w (Bg hgood ok.dst (by rw[h1];exact .Pp rfl (by simp)) (by rw[h2];exact hgood.mem) (.refl _ _ _) ?_)
  intro id hu _;exact hgood.dom id hu
 | true=>
  obtain⟨h1,h6⟩:=ok.ran hrun
  have hw:Region.wanted t.o (yielded MK a.tmps)=true:=by
   rcases h6 with h6 | ⟨j,want,d,hgd,hdd,hlk⟩
   ·simp[Region.wanted,h6]
   ·have hmem:d∈t.rs ops:=by simp[TR.rs,hrun,TR.gs,hgd,hdd]
    have he:s.e d=some (.c (.im (.b want))):=by rw[hge d hmem,hlk]
    have hy:=D_ hops hgood hdd he;simp[Region.wanted,hgd,hy]
  rw[hw,if_pos rfl];left
  have hv:t.vals=t.o.op.operands.toList.map (opd s.e):=by
   unfold TR.vals;apply YC;intro x hx
   cases x with
   | tmp y=>simp only[opd];rw[hge y (by simp[TR.rs,hrun,wv hx])]
   | _=>rfl
  have hle:P6 (W9 t.s.m t.tm) s.m:=by
   intro id B hB;unfold W9 at hB;split at hB
   ·rename_i hm;rw[hgm id (aN.1 hm)];exact hB
   ·cases hB
  refine h1 own g w a s.m s.u hle hgood.mem hgood.dom (λb hb=>hgood.NW.fresh b (Rb hgood.NW.size hb)) hfr (by rw[hv];exact HE hgood.env _) K Q ?_
  intro v w' g' k1 k2 k3 k4;exact hK g' _ w' (Bg hgood ok.dst k1 k2 k3 k4)
theorem pC{MK:Array Oper}(hops:MK.toList=ops){Q:Exit→Act→World→Prop}:∀(tr:List (TR F)) (k:Nat) (s s':St F),(∀j,tr[j]?.map (·.o)=MK[k+j]?)→Chain s tr s'→(∀t∈tr,TR.ok P n ops t)→
  ∀{g:G}{a:Act}{w:World},Good P own W0 n s g a w→(∀g' a' w',Good P own W0 n s' g' a' w'→Q .normal a' w')→wpOps P MK Q (List.range' k tr.length) a w
 | [],k,s,s',_,hc,_,g,a,w,hgood,hQ=>by have hc':s'=s:=hc;subst hc';exact hQ g a w hgood
 | t::tr,k,s,s',ho,hc,hok,g,a,w,hgood,hQ=>by
  obtain⟨hts,hc⟩:=hc;simp only[PN,List.range'_succ];rw[wpOps_cons]
  have hi:MK[k]? = some t.o:=by have:=ho 0;simpa using this.symm
  refine wT (hok t (by simp)) (s:=s) ?_ ?_ ?_ hgood hops hi ?_
  ·intro x _;rw[hts]
  ·intro id _;rw[hts]
  ·intro j hj
   have:=(hok t (by simp)).fresh j hj
   rw[hts]at this;exact this
  ·intro g' a' w' hg'
   refine pC hops tr (k+1) t.next s' ?_ hc (λx hx=>hok x (by simp[hx])) (by unfold TR.next;rw[hts];exact hg') hQ
   intro j;have:=ho (j+1);simpa[UA,QfH 1 j]using this
end
end
set_option linter.unusedVariables false
set_option linter.unusedSimpArgs false
section
variable{F:Fam}
def TR.nm(t:TR F)(x:Nat):Bool:=decide (t.c≤x)&&decide (x<t.c+t.nu)
theorem zx{t:TR F}(h:∀k,k<t.nu→t.s.u (t.c+k)=false){x:Nat}(hx:t.nm x=true):t.s.u x=false:=by
 simp only[TR.nm,Np,decide_eq_true_eq]at hx
 have:=h (x - t.c) (by omega)
 rwa [QeP hx.1]at this
def MU(on:Nat→Bool):Nat→List (TR F)→(St F)→(St F)
 | _,[],s=>s
 | k,t::l,s=>MU on (k+1) l (if on k then s.upd t else s)
theorem uw:∀(mw:List (Nat×Option (Mg F))) (m m':Nat→Option (Mg F)) (x:Nat),x∈mw.map (·.1)→Ml m mw x=Ml m' mw x
 | [],m,m',x,h=>by simp at h
 | (id,B)::r,m,m',x,h=>by
  simp only[Ml];by_cases hr:x∈r.map (·.1)
  ·exact uw r _ _ x hr
  ·rw[dT r _ x hr,dT r _ x hr];simp only[M9,Nz]at h;rcases h with rfl | h
   ·simp
   ·exact absurd h hr
theorem ug(on on':Nat→Bool)(x:Nat):∀(l:List (TR F)) (k:Nat) (s s':(St F)),s.e x=s'.e x→(∀j t,l[j]? = some t→t.o.dst=some x→on (k+j)=on' (k+j))→(MU on k l s).e x=(MU on' k l s').e x
 | [],k,s,s',h,_=>h
 | t::l,k,s,s',h,hw=>by
  simp only[MU]
  refine ug on on' x l (k+1) _ _ ?_ (λj t' hj hd=>by have:=hw (j+1) t' (by simpa using hj) hd;simpa[UA,QfH 1 j]using this)
  by_cases hd:t.o.dst=some x
  ·have:=hw 0 t rfl hd;simp only[Vm]at this;rw[this];split
   ·simp[St.upd,hd]
   ·exact h
  ·have e1:∀s:(St F),(s.upd t).e x=s.e x:=λs=>by simp[St.upd,hd]
   split<;>split<;>simp only[e1,h]
theorem ui(on on':Nat→Bool)(x:Nat):∀(l:List (TR F)) (k:Nat) (s s':(St F)),s.m x=s'.m x→(∀j t,l[j]? = some t→x∈t.mw.map (·.1)→on (k+j)=on' (k+j))→(MU on k l s).m x=(MU on' k l s').m x
 | [],k,s,s',h,_=>h
 | t::l,k,s,s',h,hw=>by
  simp only[MU]
  refine ui on on' x l (k+1) _ _ ?_ (λj t' hj hd=>by have:=hw (j+1) t' (by simpa using hj) hd;simpa[UA,QfH 1 j]using this)
  by_cases hd:x∈t.mw.map (·.1)
  ·have:=hw 0 t rfl hd;simp only[Vm]at this;rw[this];split
   ·exact uw _ _ _ x hd
   ·exact h
  ·have e1:∀s:(St F),(s.upd t).m x=s.m x:=λs=>dT _ _ x hd
   split<;>split<;>simp only[e1,h]
theorem z3(on:Nat→Bool)(x:Nat)(l:List (TR F))(k:Nat)(s:(St F))(h:∀j t,l[j]? = some t→t.o.dst=some x→on (k+j)=false):(MU on k l s).e x=s.e x:=by
 have:∀(l:List (TR F)) (k:Nat) (s:(St F)),(MU (λ_=>false) k l s)=s:=by
  intro l
  induction l with
  | nil=>intro k s;rfl
  | cons t l ih=>intro k s;simp only[MU];exact ih (k+1) s
 rw[ug on (λ_=>false) x l k s s rfl h,this]
theorem zL(on:Nat→Bool)(x:Nat)(l:List (TR F))(k:Nat)(s:(St F))(h:∀j t,l[j]? = some t→x∈t.mw.map (·.1)→on (k+j)=false):(MU on k l s).m x=s.m x:=by
 have:∀(l:List (TR F)) (k:Nat) (s:(St F)),(MU (λ_=>false) k l s)=s:=by
  intro l
  induction l with
  | nil=>intro k s;rfl
  | cons t l ih=>intro k s;simp only[MU];exact ih (k+1) s
 rw[ui on (λ_=>false) x l k s s rfl h,this]
theorem oK(on:Nat→Bool)(x:Nat):∀(l:List (TR F)) (k:Nat) (s:(St F)),(MU on k l s).u x=true↔s.u x=true∨∃j t,l[j]? = some t∧on (k+j)=true∧t.nm x=true
 | [],k,s=>by simp[MU]
 | t::l,k,s=>by
  simp only[MU];rw[oK on x l (k+1)];constructor
  ·rintro(h | ⟨j,t',h1,h2,h3⟩)
   ·split at h
    ·rename_i hk;simp only[St.upd,UC]at h;rcases h with h | h
     ·exact .inr ⟨0,t,rfl,by simpa using hk,h⟩
     ·exact .inl h
    ·exact .inl h
   ·exact .inr ⟨j+1,t',by simpa using h1,by rw[← h2];congr 1;omega,h3⟩
  ·rintro(h | ⟨j,t',h1,h2,h3⟩)
   ·left;split
    ·simp[St.upd,h]
    ·exact h
   ·cases j with
    | zero=>
     left;simp only[PW,NJ]at h1;subst h1
     rw[if_pos (by simpa using h2)]
     simp[St.upd,TR.nm]at h3 ⊢;simp[h3]
    | succ j=>exact .inr ⟨j,t',by simpa using h1,by rw[← h2];congr 1;omega,h3⟩
theorem C_(on:Nat→Bool)(i:Nat):∀(l:List (TR F)) (k:Nat) (s:(St F)) (t:TR F),l[i]? = some t→on (k+i)=false→
  (∀j t',l[j]? = some t'→i<j→on (k+j)=true→(∀x,t.o.dst=some x→t'.o.dst≠some x)∧(∀x,x∈t.mw.map (·.1)→x∉t'.mw.map (·.1)))→
  MU (λj=>on j||j == k+i) k l s=(MU on k l s).upd t:=by
 intro l k s t hi hoff Xg
 have hon:∀j,j≠i→(λj=>on j||j == k+i) (k+j)=on (k+j):=by
  intro j hj
  have:(k+j == k+i)=false:=by simp;exact hj
  simp[this]
 have e1:∀x,(MU (λj=>on j||j == k+i) k l s).e x=((MU on k l s).upd t).e x:=by
  intro x;by_cases hd:t.o.dst=some x
  ·
   have key:∀(l:List (TR F)) (k i:Nat) (s:(St F)) (on:Nat→Bool),l[i]? = some t→on (k+i)=true→(∀j t',l[j]? = some t'→i<j→on (k+j)=true→t'.o.dst≠some x)→(MU on k l s).e x=some t.val:=by
    intro l
    induction l with
    | nil=>intro k i s on h;simp at h
    | cons t0 l ih=>
     intro k i s on h1 h2 h3
     cases i with
     | zero=>
      simp only[PW,NJ]at h1;subst h1;simp only[MU]
      rw[if_pos (by simpa using h2),z3]
      ·simp[St.upd,hd]
      ·intro j t' hj hdd
       cases hon:on (k+1+j)with
       | false=>rfl
       | true=>exact absurd hdd (h3 (j+1) t' (by simpa using hj) (by omega) (by rw[← hon];congr 1;omega))
     | succ i=>
      simp only[MU]
      exact ih (k+1) i _ on (by simpa using h1) (by rw[← h2];congr 1;omega) (λj t' hj hij ho=>h3 (j+1) t' (by simpa using hj) (by omega) (by rw[← ho];congr 1;omega))
   rw[key l k i s _ hi (by simp) (λj t' hj hij ho=>(Xg j t' hj hij (by rw[← hon j (by omega)];exact ho)).1 x hd)]
   simp[St.upd,hd]
  ·rw[ug _ on x l k s s rfl]
   ·simp[St.upd,hd]
   ·intro j t' hj hdd;refine hon j (λe=>hd ?_);subst e;rw[hi]at hj;cases hj;exact hdd
 have e2:∀x,(MU (λj=>on j||j == k+i) k l s).m x=((MU on k l s).upd t).m x:=by
  intro x;by_cases hd:x∈t.mw.map (·.1)
  ·have key:∀(l:List (TR F)) (k i:Nat) (s:(St F)) (on:Nat→Bool),l[i]? = some t→on (k+i)=true→(∀j t',l[j]? = some t'→i<j→on (k+j)=true→x∉t'.mw.map (·.1))→(MU on k l s).m x=Ml (λ_=>none) t.mw x:=by
    intro l
    induction l with
    | nil=>intro k i s on h;simp at h
    | cons t0 l ih=>
     intro k i s on h1 h2 h3
     cases i with
     | zero=>
      simp only[PW,NJ]at h1;subst h1;simp only[MU]
      rw[if_pos (by simpa using h2),zL]
      ·exact uw _ _ _ x hd
      ·intro j t' hj hdd
       cases hon:on (k+1+j)with
       | false=>rfl
       | true=>exact absurd hdd (h3 (j+1) t' (by simpa using hj) (by omega) (by rw[← hon];congr 1;omega))
     | succ i=>
      simp only[MU]
      exact ih (k+1) i _ on (by simpa using h1) (by rw[← h2];congr 1;omega) (λj t' hj hij ho=>h3 (j+1) t' (by simpa using hj) (by omega) (by rw[← ho];congr 1;omega))
   rw[key l k i s _ hi (by simp) (λj t' hj hij ho=>(Xg j t' hj hij (by rw[← hon j (by omega)];exact ho)).2 x hd)]
   exact uw _ _ _ x hd
  ·rw[ui _ on x l k s s rfl]
   ·exact(dT _ _ x hd).symm
   ·intro j t' hj hdd;refine hon j (λe=>hd ?_);subst e;rw[hi]at hj;cases hj;exact hdd
 have e3:∀x,(MU (λj=>on j||j == k+i) k l s).u x=((MU on k l s).upd t).u x:=by
  intro x;rw[YA,oK];simp only[St.upd,UC];rw[oK];constructor
  ·rintro(h | ⟨j,t',h1,h2,h3⟩)
   ·exact .inr (.inl h)
   ·by_cases hj:j=i
    ·subst hj;rw[hi]at h1;cases h1;exact .inl h3
    ·have h2':on (k+j)=true:=by
      rw[← hon j hj];simpa using h2
     exact .inr (.inr ⟨j,t',h1,h2',h3⟩)
  ·rintro(h | h | ⟨j,t',h1,h2,h3⟩)
   ·exact .inr ⟨i,t,hi,by simp,h⟩
   ·exact .inl h
   ·exact .inr ⟨j,t',h1,by simp[h2],h3⟩
 cases hA:MU (λj=>on j||j == k+i) k l s
 cases hB:(MU on k l s).upd t
 rw[hA,hB]at e1 e2 e3;simp only[St.mk.injEq];exact⟨funext e1,funext e2,funext e3⟩
theorem qZ:∀(l:List (TR F)) (k:Nat) (s s':St F) (on:Nat→Bool),Chain s l s'→(∀j,j<l.length→on (k+j)=true)→MU on k l s=s'
 | [],k,s,s',on,h,_=>by have h':s'=s:=h;subst h';rfl
 | t::l,k,s,s',on,h,ho=>by
  obtain⟨h1,h2⟩:=h;simp only[MU]
  rw[if_pos (by simpa using ho 0 (by simp)),← h1]
  exact qZ l (k+1) t.next s' on h2 (λj hj=>by have:=ho (j+1) (by simp;omega);rw[← this];congr 1;omega)
theorem vh:∀(l:List (TR F)) (k:Nat) (s s':St F) (i:Nat) (t:TR F),Chain s l s'→l[i]? = some t→t.s=MU (λj=>decide (j<k+i)) k l s
 | [],k,s,s',i,t,_,hi=>by simp at hi
 | t0::l,k,s,s',i,t,h,hi=>by
  obtain⟨h1,h2⟩:=h
  cases i with
  | zero=>
   simp only[PW,NJ]at hi;subst hi
   have:∀(l:List (TR F)) (k':Nat) (s:(St F)),k≤k'→(MU (λj=>decide (j<k+0)) k' l s)=s:=by
    intro l
    induction l with
    | nil=>intro k' s _;rfl
    | cons t l ih=>intro k' s hk;simp only[MU];rw[if_neg (by simp;omega)];exact ih (k'+1) s (by omega)
   rw[this _ k _ (MN _),h1]
  | succ i=>
   simp only[MU]
   rw[if_pos (by simp),← h1]
   have:=vh l (k+1) t0.next s' i t h2 (by simpa using hi)
   rw[this]
   congr 1
   funext j
   congr 1
   apply propext
   constructor<;>intro h<;>omega
variable{P:Program}{n:Nat}{ops:List Oper}{own:Ow}{W0:World}
def NT(listed:Array Bool):Nat→Bool:=λk=>listed.getD k false
theorem Bv{l:List Edge}{e:Edge}(h:e∈l)(hb:Region.binds .any e=true):e.on∈MX l:=by
 induction l with
 | nil=>simp at h
 | cons x l ih=>
  simp only[MX];rcases Nz.1 h with rfl | h
  ·rw[if_pos hb];simp
  ·split
   ·exact Uh _ (ih h)
   ·exact ih h
theorem BE{l:List Edge}{k:Nat}(h:k∈MX l):∃e∈l,Region.binds .any e=true∧e.on=k:=by
 induction l with
 | nil=>simp[MX]at h
 | cons x l ih=>
  simp only[MX]at h;split at h
  ·rename_i hb;rcases Nz.1 h with rfl | h
   ·exact⟨x,by simp,hb,rfl⟩
   ·obtain⟨e,h1,h2⟩:=ih h
    exact⟨e,by simp[h1],h2⟩
  ·obtain⟨e,h1,h2⟩:=ih h
   exact⟨e,by simp[h1],h2⟩
theorem FH(on:Nat→Bool)(tr:List (TR F))(hrec:∀i t,tr[i]? = some t→t.Xw=P_ ((tr.map (·.rc ops)).take i) (MX t.o.after.toList))
  (akH:∀i t,tr[i]? = some t→∀k∈MX t.o.after.toList,k<i) (hclosed:∀i t,tr[i]? = some t→on i=true→∀k∈MX t.o.after.toList,on k=true) :
  ∀(i:Nat)(t:TR F),tr[i]? = some t→(∀k∈MX t.o.after.toList,on k=true)→∀k,Nat.testBit t.Xw k=true→on k=true:=by
 intro i
 induction i using Nat.strongRecOn with
 | _ i ih=>
  intro t hi hon k hk;rw[hrec i t hi]at hk;have apb:=akH i t hi
  have key:∀(es:List Nat),(∀k∈es,k<i∧on k=true)→∀k,Nat.testBit (P_ ((tr.map (·.rc ops)).take i) es) k=true→on k=true:=by
   intro es
   induction es with
   | nil=>intro _ k hk;simp[P_]at hk
   | cons d es ihe=>
    intro hes k hk
    rw[P_,show∀a b:Nat,Nat.lor a b=a ||| b fromλ_ _=>rfl,show∀a b:Nat,Nat.lor a b=a ||| b fromλ_ _=>rfl,Nat.testBit_or,Nat.testBit_or,Nat.testBit_two_pow]at hk
    simp only[UC,decide_eq_true_eq,or_assoc]at hk
    obtain⟨hd1,hd2⟩:=hes d (by simp)
    rcases hk with rfl | hk | hk
    ·exact hd2
    ·rw[RG,if_pos hd1,Rf]at hk
     cases ht:tr[d]? with
     | none=>rw[ht]at hk;simp at hk
     | some td=>rw[ht]at hk;simp only[Xy,Option.elim_some]at hk;exact ih d hd1 td ht (hclosed d td ht hd2) k hk
    ·exact ihe (λk hk=>hes k (by simp[hk])) k hk
  exact key _ (λk hk=>⟨apb k hk,hon k hk⟩) k hk
theorem tx{b:Rec}:∀{l:List Rec}{i:Nat},rA b i l=true→∀j a,l[j]? = some a→Nat.testBit b.Xw (i+j)=true∨a.conflict b=false
 | [],_,_,j,a,h=>by simp at h
 | x::l,i,ho,j,a,h=>by
  simp only[rA,Np,UC,U3]at ho
  cases j with
  | zero=>simp only[PW,NJ]at h;subst h;exact ho.1
  | succ j=>
   have:=tx ho.2 j a (by simpa using h)
   rw[show i+(j+1)=i+1+j by omega]
   exact this
theorem uP(all:List Rec):∀{l:List Rec}{k:Nat},all.drop k=l→k≤all.length→tj all l=true→∀j b,l[j]? = some b→rA b 0 (all.take (k+j))=true
 | [],_,_,_,_,j,b,h=>by simp at h
 | x::l,k,hd,hk,ho,j,b,h=>by
  simp only[tj,Np]at ho
  have hlen:all.length=k+(x::l).length:=by have:=congrArg List.length hd;rw[Ro]at this;omega
  cases j with
  | zero=>
   simp only[PW,NJ]at h;subst h;have h1:=ho.1
   rw[show all.length - (x::l).length=k+0 by omega]at h1
   exact h1
  | succ j=>
   have hd':all.drop (k+1)=l:=by rw[← Qg_,hd];rfl
   have:=uP all hd' (by simp at hlen;omega) ho.2 j b (by simpa using h)
   rw[show k+(j+1)=k+1+j by omega]
   exact this
theorem sQ:∀{l:List Oper}{i:Nat},rD i l=true→∀j o,l[j]? = some o→∀k∈MX o.after.toList,k<i+j
 | [],_,_,j,o,h=>by simp at h
 | x::l,i,he,j,o,h=>by
  simp only[rD,Np]at he
  cases j with
  | zero=>simp only[PW,NJ]at h;subst h;intro k hk;have:=Td.1 he.1 k hk;simpa using this
  | succ j=>
   have:=sQ he.2 j o (by simpa using h)
   intro k hk;have:=this k hk;omega
theorem xS:∀{tr:List (TR F)} {rs:List Rec},wc ops rs tr→∀i t,tr[i]? = some t→t.Xw=P_ (rs++(tr.map (·.rc ops)).take i) (MX t.o.after.toList)
 | [],_,_,i,t,h=>by simp at h
 | x::tr,rs,hr,i,t,h=>by
  obtain⟨h1,h2⟩:=hr
  cases i with
  | zero=>simp only[PW,NJ]at h;subst h;simpa using h1
  | succ i=>
   have:=xS h2 i t (by simpa using h)
   rw[this]
   congr 1
   simp
theorem sX{a b:List Nat}(h:meets a b=false){x:Nat}(ha:x∈a):x∉b:=by
 induction a with
 | nil=>simp at ha
 | cons y a ih=>
  simp only[meets,YD]at h;rcases Nz.1 ha with rfl | ha
  ·intro hb;rw[aN.2 hb]at h;cases h.1
  ·exact ih h.2 ha
theorem ni{a b:Rec}(h:a.conflict b=false):(∀x,a.d=some x→x∉b.rs∧b.d≠some x)∧(∀x,b.d=some x→x∉a.rs)∧(∀x,x∈a.wm→x∉b.tm∧x∉b.wm)∧(∀x,x∈b.wm→x∉a.tm):=by
 simp only[Rec.conflict,YD]at h;obtain⟨⟨⟨⟨h1,h2⟩,h3⟩,h4⟩,h5⟩:=h;refine⟨?_,?_,λx hx=>⟨sX h3 hx,sX h4 hx⟩,λx hx=>sX h5 hx⟩
 ·intro x hx;rw[hx]at h1;simp only[YD]at h1;refine⟨λhb=>?_,λhb=>?_⟩
  ·rw[aN.2 hb]at h1;cases h1.1
  ·rw[hb]at h1;simp at h1
 ·intro x hx ha;rw[hx]at h2;simp only at h2;rw[aN.2 ha]at h2;cases h2
theorem vO{MK:Array Oper}(hops:MK.toList=ops){Q:Exit→Act→World→Prop}{tr:List (TR F)}{s s':St F}(htr:tr.map (·.o)=ops)(hc:Chain s tr s')(hok:∀t∈tr,TR.ok P n ops t)
  (hrec:wc ops [] tr) (adC:rD 0 ops=true) (Uu:tj (tr.map (·.rc ops)) (tr.map (·.rc ops))=true) {g:G} {a:Act} {w:World} (hgood:Good P own W0 n s g a w)
  (hQ:∀g' a' w',Good P own W0 n s' g' a' w'→Q .normal a' w'):wpAny P .any MK Q MK.size (Array.replicate MK.size false) a w:=by
 have hsize:MK.size=tr.length:=by rw[← Wt,hops,← htr,Py]
 have hat:∀(i:Nat)(t:TR F),tr[i]? = some t→MK[i]? = some t.o:=by
  intro i t hi
  have:ops[i]? = some t.o:=by rw[← htr,Rf,hi];rfl
  rw[← hops]at this;simpa using this
 have ab4:∀(i:Nat)(t:TR F),tr[i]? = some t→t.Xw=P_ ((tr.map (·.rc ops)).take i) (MX t.o.after.toList):=by intro i t hi;simpa using xS hrec i t hi
 have WM:∀(i:Nat)(t:TR F),tr[i]? = some t→∀k∈MX t.o.after.toList,k<i:=by
  intro i t hi k hk
  have:ops[i]? = some t.o:=by rw[← htr,Rf,hi];rfl
  have:=sQ adC i t.o this k hk;omega
 have ab_:∀(i j:Nat)(t u:TR F),tr[i]? = some t→tr[j]? = some u→j<i→Nat.testBit t.Xw j=true∨(u.rc ops).conflict (t.rc ops)=false:=by
  intro i j t u hi hj hji
  have h1:=uP (tr.map (·.rc ops)) (l:=tr.map (·.rc ops)) (k:=0) rfl (Yx _) Uu i (t.rc ops) (by rw[Rf,hi];rfl)
  have:=tx h1 j (u.rc ops) (by rw[OW,RG,if_pos hji,Rf,hj];rfl)
  rwa [OW]at this
 have main:∀(fuel:Nat)(listed:Array Bool),listed.size=tr.length→(List.range tr.length).countP (λk=>!NT listed k)≤fuel→
   (∀(i:Nat)(t:TR F),tr[i]? = some t→NT listed i=true→∀k∈MX t.o.after.toList,NT listed k=true)→
   ∀{g:G}{a:Act}{w:World},Good P own W0 n (MU (NT listed) 0 tr s) g a w→wpAny P .any MK Q fuel listed a w:=by
  intro fuel
  induction fuel with
  | zero=>
   intro listed hls hcnt hcl g a w hg
   have hall:∀k,k<tr.length→NT listed k=true:=by
    intro k hk
    cases hon:NT listed k with
    | true=>rfl
    | false=>
     have:0<(List.range tr.length).countP (λk=>!NT listed k):=List.countP_pos_iff.2 ⟨k,by simpa using hk,by simp[hon]⟩
     omega
   refine⟨?_,?_⟩
   ·cases hr:Region.ready .any MK listed with
    | nil=>rfl
    | cons i l=>
     have hi:i∈Region.ready .any MK listed:=by rw[hr];simp
     obtain⟨h1,o,ho,_⟩:=mem_ready.1 hi
     have hlt:i<tr.length:=by rw[← hsize];exact(Wj.1 ho).1
     have h2:=hall i hlt;simp only[NT,UH]at h1 h2
     rw[QeI (by rw[hls];exact hlt)]at h1 h2
     simp only[Ws]at h1 h2;rw[h1]at h2;cases h2
   ·rw[qZ tr 0 s s' (NT listed) hc (λj hj=>by rw[OW];exact hall j hj)]at hg
    exact hQ g a w hg
  | succ fuel ih=>
   intro listed hls hcnt hcl g a w hg;refine⟨?_,?_⟩
   ·intro hr
    have hall:∀k,k<tr.length→NT listed k=true:=by
     intro k
     induction k using Nat.strongRecOn with
     | _ k ihk=>
      intro hk
      cases hon:NT listed k with
      | true=>rfl
      | false=>
       exfalso;have hk':=K9 hk
       have:k∈Region.ready .any MK listed:=by
        refine mem_ready.2 ⟨?_,tr[k].o,hat k _ hk',?_⟩
        ·simp only[NT,UH]at hon ⊢
         rw[QeI (by rw[hls];exact hk)]at hon ⊢
         exact hon
        ·intro e he hb
         have hmem:e.on∈MX tr[k].o.after.toList:=Bv (by simpa using he) hb
         have hlt:=WM k _ hk' e.on hmem
         exact ihk e.on hlt (by omega)
       rw[hr]at this;simp at this
    rw[qZ tr 0 s s' (NT listed) hc (λj hj=>by rw[OW];exact hall j hj)]at hg
    exact hQ g a w hg
   ·intro i hi;obtain⟨h1,o,ho,akI⟩:=mem_ready.1 hi
    have hlt:i<tr.length:=by rw[← hsize];exact(Wj.1 ho).1
    have hti:=K9 hlt;generalize htdef:tr[i]=t at hti;have ZL:MK[i]? = some t.o:=hat i t hti;rw[ho]at ZL;cases ZL
    have hoff:NT listed i=false:=by
     simp only[NT,UH]at h1 ⊢
     rw[QeI (by rw[hls];exact hlt)]at h1 ⊢
     exact h1
    have afH:∀k∈MX t.o.after.toList,NT listed k=true:=by
     intro k hk;obtain⟨e,he,hb,rfl⟩:=BE hk
     exact akI e (by simpa using he) hb
    have apj:=FH (ops:=ops) (NT listed) tr ab4 WM hcl i t hti afH;have adE:∀(j:Nat)(u:TR F),tr[j]? = some u→NT listed j=true→∀k,Nat.testBit u.Xw k=true→NT listed k=true:=λj u hj hon=>FH (ops:=ops) (NT listed) tr ab4 WM hcl j u hj (hcl j u hj hon)
    have ahead:∀(j:Nat)(u:TR F),tr[j]? = some u→j<i→(u.rc ops).conflict (t.rc ops)=true→NT listed j=true:=by
     intro j u hj hji hcf;rcases ab_ i j t u hti hj hji with h | h
     ·exact apj j h
     ·rw[hcf]at h;cases h
    have behind:∀(j:Nat)(u:TR F),tr[j]? = some u→i<j→(t.rc ops).conflict (u.rc ops)=true→NT listed j=false:=by
     intro j u hj hij hcf
     cases hon:NT listed j with
     | false=>rfl
     | true=>
      rcases ab_ j i u t hj hti hij with h | h
      ·have:=adE j u hj hon i h;rw[hoff]at this;cases this
      ·rw[hcf]at h;cases h
    have okt:=hok t (Wu hti);have hst:=vh tr 0 s s' i t hc hti;simp only[OW]at hst
    have agree:∀(j:Nat)(u:TR F),tr[j]? = some u→((u.rc ops).conflict (t.rc ops)=true∨(t.rc ops).conflict (u.rc ops)=true)→j≠i→NT listed j=decide (j<i):=by
     intro j u hj hcf hne
     have symm:∀a b:Rec,a.conflict b=true→b.conflict a=true:=by
      intro a b h
      cases hba:b.conflict a with
      | true=>rfl
      | false=>
       obtain⟨k1,k2,k3,k4⟩:=ni hba;exfalso
       have:a.conflict b=false:=by
        simp only[Rec.conflict,YD]
        have mt:∀l r:List Nat,(∀x∈l,x∉r)→meets l r=false:=by
         intro l
         induction l with
         | nil=>intro r _;rfl
         | cons y l ihl=>
          intro r hr;simp only[meets,YD]
          refine⟨?_,ihl r (λx hx=>hr x (by simp[hx]))⟩
          cases hm:Mf y r with
          | false=>rfl
          | true=>exact absurd (aN.1 hm) (hr y (by simp))
        have nm:∀x (l:List Nat),x∉l→Mf x l=false:=by
         intro x l hx
         cases hm:Mf x l with
         | false=>rfl
         | true=>exact absurd (aN.1 hm) hx
        refine⟨⟨⟨⟨?_,?_⟩,mt _ _ (λx hx=>?_)⟩,mt _ _ (λx hx=>?_)⟩,mt _ _ (λx hx=>?_)⟩
        ·cases hd:a.d with
         | none=>rfl
         | some x=>
          simp only[YD];refine⟨nm x _ (k2 x hd),?_⟩
          cases hd2:b.d with
          | none=>rfl
          | some y=>
           have:=(k1 y hd2).2;rw[hd]at this
           exact ao (λe=>this (by rw[e]))
        ·cases hd:b.d with
         | none=>rfl
         | some x=>exact nm x _ (k1 x hd).1
        ·exact k4 x hx
        ·intro hb;exact(k3 x hb).2 hx
        ·exact(k3 x hx).1
       rw[this]at h;cases h
     rcases Nat.lt_trichotomy j i with hji | hji | hji
     ·rw[decide_eq_true hji];exact ahead j u hj hji (hcf.elim id (symm _ _))
     ·exact absurd hji hne
     ·rw[decide_eq_false (by omega)]
      exact behind j u hj hji (hcf.elim (symm _ _) id)
    refine wT okt (s:=MU (NT listed) 0 tr s) ?_ ?_ ?_ hg hops (hat i t hti) ?_
    ·
     intro x hx;show _=t.s.e x;rw[hst];refine ug _ _ x tr 0 _ _ rfl ?_;intro j u hj hdst;rw[OW];by_cases hne:j=i
     ·subst hne
      rw[hoff,decide_eq_false (by omega)]
     ·refine agree j u hj (.inl ?_) hne
      cases hcf:(u.rc ops).conflict (t.rc ops)with
      | true=>rfl
      | false=>exact absurd hx ((ni hcf).1 x hdst).1
    ·intro id hid;show _=t.s.m id;rw[hst];refine ui _ _ id tr 0 _ _ rfl ?_;intro j u hj hmem;rw[OW];by_cases hne:j=i
     ·subst hne
      rw[hoff,decide_eq_false (by omega)]
     ·refine agree j u hj (.inl ?_) hne
      cases hcf:(u.rc ops).conflict (t.rc ops)with
      | true=>rfl
      | false=>exact absurd hid ((ni hcf).2.2.1 id hmem).1
    ·
     intro kk hkk
     have hid:t.nm (t.c+kk)=true:=by simp only[TR.nm,Np,decide_eq_true_eq];omega
     generalize t.c+kk=id at hid ⊢
     cases hu:(MU (NT listed) 0 tr s).u id with
     | false=>rfl
     | true=>
      exfalso;rw[oK]at hu;have hfr:=zx okt.fresh hid;have WI:t.s.u id=false:=hfr
      have hnot:¬ (t.s.u id=true):=by rw[WI];simp
      rcases hu with h | ⟨j,u,h1,h2,h3⟩
      ·refine hnot ?_;rw[hst,oK];exact .inl h
      ·rw[OW]at h2;rcases Nat.lt_trichotomy j i with hji | hji | hji
       ·refine hnot ?_;rw[hst,oK]
        exact .inr ⟨j,u,h1,by simpa using hji,h3⟩
       ·subst hji;rw[hoff]at h2;cases h2
       ·have oku:=hok u (Wu h1);have hfu:u.s.u id=false:=zx oku.fresh h3
        have:u.s.u id=true:=by
         have hsu:=vh tr 0 s s' j u hc h1;simp only[OW]at hsu;rw[hsu,oK]
         exact .inr ⟨i,t,hti,by simpa using hji,hid⟩
        rw[hfu]at this;cases this
    ·intro g' a' w' hg'
     have hmore:=C_ (NT listed) i tr 0 s t hti (by rw[OW];exact hoff) (by
      intro j u hj hij hon;rw[OW]at hon
      cases hcf:(t.rc ops).conflict (u.rc ops)with
      | true=>rw[behind j u hj hij hcf]at hon;cases hon
      | false=>obtain⟨k1,_,k3,_⟩:=ni hcf;exact⟨λx hx=>(k1 x hx).2,λx hx=>(k3 x hx).2⟩)
     rw[OW]at hmore;rw[← hmore]at hg'
     have adb:NT (listed.setIfInBounds i true) = λj=>NT listed j||j == i:=by
      funext j
      simp only[NT];by_cases hj:i=j
      ·subst hj
       have:(listed.setIfInBounds i true).getD i false=true:=by
        rw[UH,QcQ,if_pos rfl,if_pos (by rw[hls];exact hlt)]
        rfl
       rw[this];simp
      ·rw[getD_set_ne false hj]
       have:(j == i)=false:=by simp;exactλe=>hj e.symm
       rw[this,Bool.or_false]
     refine ih (listed.setIfInBounds i true) (by simp[hls]) ?_ ?_ (by rw[adb];exact hg')
     ·rw[adb]
      have hcount:(List.range tr.length).countP (λk=>!(NT listed k||k == i))+1=(List.range tr.length).countP (λk=>!NT listed k):=by
       have gen:∀(l:List Nat),l.Nodup→i∈l→l.countP (λk=>!(NT listed k||k == i))+1=l.countP (λk=>!NT listed k):=by
        intro l
        induction l with
        | nil=>intro _ h;simp at h
        | cons y l ihl=>
         intro hnd hmem;rw[Ug]at hnd;by_cases hy:y=i
         ·subst hy
          have heq:l.countP (λk=>!(NT listed k||k == y))=l.countP (λk=>!NT listed k):=by
           apply List.countP_congr;intro x hx
           have:(x == y)=false:=by simp;rintro rfl;exact hnd.1 hx
           simp[this]
          rw[QhC,QhC,heq,hoff];simp
         ·have hmem':i∈l:=by
           rcases Nz.1 hmem with h | h
           ·exact absurd h.symm hy
           ·exact h
          have:=ihl hnd.2 hmem';rw[QhC,QhC,← this]
          have hyi:(y == i)=false:=by simp;exact hy
          rw[hyi,Bool.or_false];omega
       exact gen _ QhD (by simpa using hlt)
      show(List.range tr.length).countP (λk=>!(NT listed k||k == i))≤fuel;omega
     ·rw[adb];intro j u hj hon k hk;simp only[UC,beq_iff_eq]at hon ⊢;rcases hon with hon | rfl
      ·exact .inl (hcl j u hj hon k hk)
      ·rw[hti]at hj;cases hj;exact .inl (afH k hk)
 refine main MK.size (Array.replicate MK.size false) (by simp[hsize]) ?_ ?_ (g:=g) ?_
 ·rw[hsize]
  exact Rb List.countP_le_length (by simp)
 ·intro i t hi hon;simp only[NT]at hon;simp[UH,Array.getElem?_replicate]at hon
  split at hon<;>simp at hon
 ·have:MU (NT (Array.replicate MK.size false)) 0 tr s=s:=by
   have gen:∀(l:List (TR F)) (k:Nat) (s:(St F)),MU (NT (Array.replicate MK.size false)) k l s=s:=by
    intro l
    induction l with
    | nil=>intro k s;rfl
    | cons t l ihl=>
     intro k s;simp only[MU];rw[if_neg]
     ·exact ihl (k+1) s
     ·simp only[NT,UH,Array.getElem?_replicate]
      split<;>simp
   exact gen tr 0 s
  rw[this];exact hgood
end
set_option linter.unusedVariables false
set_option linter.unusedSimpArgs false
section
variable{F:Fam}{P:Program}{T:TypeId→Option (TI F)}{Γ : Ctx F}{nv n:Nat}{R:Type}{own:Ow}{W0:World}{a:Act}{w:World}{g:G}
theorem sT{s:St F}(hg:Good P own W0 n s g a w):Good P own W0 n s g a w.drew:=by have hle:Le g w g w.drew:=⟨λ_ _ h=>h,λ_ h=>h,λ_ _=>rfl,λ_ h=>h,λ_ _=>rfl⟩;exact⟨hg.Ue,hg.Tj,λx d h=>(hg.env x d h).le hle,⟨λid B h=>(hg.mem.ok id B h).le hle (λ_ _ _=>rfl),hg.mem.SX,hg.mem.own,hg.mem.Li,hg.mem.io,hg.mem.len⟩,hg.dom,hg.Tw,⟨hg.NW.os,hg.NW.tape,hg.NW.output,hg.NW.size,hg.NW.fresh,hg.NW.block,XA hg.NW.drawn⟩,hg.Sn⟩
theorem Good.sub{s s':St F}(h:Good P own W0 n s g a w)(he:∀x d,s'.e x=some d→s.e x=some d)(hm:∀id B,s'.m id=some B→s.m id=some B)(hu:∀id,s'.u id=false→s.u id=false):Good P own W0 n s' g a w:=
 ⟨h.Ue,h.Tj,λx d hx=>h.env x d (he x d hx),h.mem.sub hm,λid hi=>h.dom id (hu id hi),h.Tw,h.NW,h.Sn⟩
theorem nD{kp:List Nat}:∀{E:List (Nat×Dat F)} {seen:List Nat} {K:List (Nat×Dat F)→Option R} {r:R},rB nv kp E seen K=some r→
  ∃E',K E'=some r∧∀y,look E' y=if(Nat.blt y nv||Mf y kp)&&!(Mf y seen)then look E y else none
 | [],seen,K,r,h=>⟨[],h,λy=>by simp[look]⟩
 | (x,d)::E,seen,K,r,h=>by
  simp only[rB]at h;split at h
  ·rename_i hc;obtain⟨E',h1,h2⟩:=nD h;refine⟨_,h1,λy=>?_⟩;rw[az,az,h2];by_cases hxy:x=y
   ·subst hxy;rw[bC,if_pos rfl,if_pos rfl,if_pos hc]
   ·rw[ao hxy];simp[Mf,ao hxy]
  ·rename_i hc;obtain⟨E',h1,h2⟩:=nD h;refine⟨E',h1,λy=>?_⟩;rw[h2,az];by_cases hxy:x=y
   ·subst hxy;rw[if_neg hc,if_neg hc]
   ·rw[ao hxy];simp
theorem KU(hT:Mc P T)(hΓ : ML P Γ)(NM:P.follows .mixedOrders=true){id:Nat}{MK:Array Oper}{draw:Bool}{kp:List Nat}{s:TS F}{K:TS F→Option R}{r:R}
  (h:Tn T Γ nv n kp MK.toList draw s K=some r) {Q:Exit→Act→World→Prop} (hg:Good P own W0 n s.st g a w)
  (hQ:∀s' g' a' w',K s'=some r→Fr nv s s'→Good P own W0 n s'.st g' a' w'→Q .normal a' w'):(Code.region id MK draw).wp P Q a w:=by
 unfold Tn at h;obtain⟨z,tr,h1,t1,t2,t3,t4,t5⟩:=qf hT hΓ h;obtain⟨Uu,h1⟩:=aQ h1;obtain⟨E',h2,h3⟩:=nD h1
 have hQ':∀g' a' w',Good P own W0 n z.st g' a' w'→Q .normal a' w':=by
  intro g' a' w' hg';refine hQ _ g' a' w' h2 ⟨λx hx hn=>?_,t5.m,t5.c,t5.dE,t5.dM⟩ (hg'.sub ?_ (λ_ _ h=>h) (λ_ h=>h))
  ·show look E' x=_
   rw[h3,if_pos (by simp[Mf,R7.mpr hx])]
   exact t5.e x hx hn
  ·intro x d hx;simp only[TS.st]at hx ⊢;rw[h3]at hx;split at hx
   ·exact hx
   ·cases hx
 cases draw with
 | false=>
  have hlen:MK.size=tr.length:=by rw[← Wt,← t1,Py]
  refine wp_region ?_
  have:=pC (MK:=MK) rfl (Q:=Q) tr 0 s.st z.st (by
   intro j
   have:MK.toList[j]? = (tr.map (·.o))[j]?:=by rw[t1]
   rw[Rf]at this;rw[← this];simp) t2 t3 hg hQ'
  rw[← hlen]at this;rw[QfC];exact this
 | true=>simp only[if_true,Np,PE]at Uu;refine wp_region_any NM ?_;exact vO (MK:=MK) rfl t1 t2 t3 t4 Uu.1 Uu.2 (sT hg) hQ'
inductive Ot(p:Nat→Prop):MJ F→Prop where
 | im (d:ND F):Ot p (.im d)
 | pt (cs:List (ND F)) (off:Nat):Ot p (.pt cs off)
 | ptr {id:Nat} (off:Nat) (h:p id):Ot p (.ptr id off)
 | OV {id:Nat} (sz i off:Nat) (h:p id):Ot p (.OV id sz i off)
 | Nn {id:Nat} (h:p id):Ot p (.Nn id)
 | RD {id:Nat} (sz off n:Nat) (h:p id):Ot p (.RD id sz off n)
 | Tv {id:Nat} (sz i off:Nat) (h:p id):Ot p (.Tv id sz i off)
 | Ud {id:Nat} (sz i off sz' j off':Nat) (h:p id):Ot p (.Ud id sz i off sz' j off')
 | Tx {id:Nat} (n:Nat) (h:p id):Ot p (.Tx id n)
 | Sy {id:Nat} (h:p id):Ot p (.Sy id)
 | Uz (cs:List (ND F)):Ot p (.Uz cs)
 | ln (d:ND F):Ot p (.ln d)
 | Yj (cs:List (ND F)) (off:Nat):Ot p (.Yj cs off)
 | any:Ot p .any
 | one:Ot p .one
inductive RV(p:Nat→Prop):Dat F→Prop where
 | c {x:MJ F} (h:Ot p x):RV p (.c x)
 | agg {cs:List (MJ F)} (h:∀(k:Nat)(c:MJ F),cs[k]? = some c→Ot p c):RV p (.agg cs)
 | Pp {ds:List (Dat F)} (h:∀(k:Nat)(d:Dat F),ds[k]? = some d→RV p d):RV p (.Pp ds)
 | RY {fn:Fn} {fs cs:List (Dat F)} (h:∀(k:Nat)(d:Dat F),fs[k]? = some d→RV p d) (h':∀(k:Nat)(d:Dat F),cs[k]? = some d→RV p d):RV p (.RY fn fs cs)
 | fv {ks:List Ty} {r:Ty} (φ : M7 F ks→Option (ET F r)):RV p (.fv ks r φ)
 | gh {id:Nat} (h:p id):RV p (.gh id)
theorem Mh.inn{c:MJ F}{x:Value}(h:Mh g w c x):Ot (λid=>g.ids id≠none) c:=by
 cases h with
 | im=>exact .im _
 | pt=>exact .pt _ _
 | ptr h=>exact .ptr _ (by rw[h];simp)
 | OV h=>exact .OV _ _ _ (by rw[h];simp)
 | PG p h=>exact .Nn (by rw[h];simp)
 | Nn h=>exact .Nn (by rw[h];simp)
 | Tq p h=>exact .RD _ _ _ (by rw[h];simp)
 | RD h=>exact .RD _ _ _ (by rw[h];simp)
 | Tv h=>exact .Tv _ _ _ (by rw[h];simp)
 | Ud h=>exact .Ud _ _ _ _ _ _ (by rw[h];simp)
 | Tx h=>exact .Tx _ (by rw[h];simp)
 | Sy h=>exact .Sy (by rw[h];simp)
 | Uz=>exact .Uz _
 | ln=>exact .ln _
 | Yj=>exact .Yj _ _
 | any=>exact .any
 | one=>exact .one
theorem Ma.inn{d:Dat F}{x:Value}(h:Ma P g w d x):RV (λid=>g.ids id≠none) d:=by
 induction h with
 | c h=>exact .c h.inn
 | agg hl h=>
  refine .agg λk c hk=>?_;have hlt:=(K_.1 hk).1
  exact(h k c _ hk (K9 (by rw[hl];exact hlt))).inn
 | Pp hl h ih=>
  refine .Pp λk c hk=>?_;have hlt:=(K_.1 hk).1
  exact ih k c _ hk (K9 (by rw[hl];exact hlt))
 | RY h1 h2 hf hc i1 i2=>
  refine .RY (λk c hk=>?_) (λk c hk=>?_)
  ·have hlt:=(K_.1 hk).1
   exact i1 k c _ hk (K9 (by rw[h1];exact hlt))
  ·have hlt:=(K_.1 hk).1
   exact i2 k c _ hk (K9 (by rw[h2];exact hlt))
 | fv=>exact .fv _
 | gh h=>exact .gh (by rw[h];simp)
theorem Mh.ren{p:Nat→Prop}{g':G}(Oc:∀id,p id→g'.ids id=g.ids id)(MQ:∀b,g.Li b→g'.Li b)(hlen:∀b,g.len b→g'.len b){c:MJ F}(hc:Ot p c){x:Value}(h:Mh g w c x):Mh g' w c x:=by
 have hle:∀{d:ND F}{x:Value},L_ w g.Li d x→L_ w g'.Li d x:=λh=>h.mono MQ (λ_ _=>rfl)
 cases h with
 | im h=>exact .im (hle h)
 | pt cs off b o f hb hcc hr=>exact .pt cs off b o f (MQ b hb) hcc (λk d hk=>hle (hr k d hk))
 | ptr h=>cases hc with | ptr _ hp=>exact .ptr (by rw[Oc _ hp];exact h)
 | OV h=>cases hc with | OV _ _ _ hp=>exact .OV (by rw[Oc _ hp];exact h)
 | PG p h=>cases hc with | Nn hp=>exact .PG p (by rw[Oc _ hp];exact h)
 | Nn h h1 h2=>cases hc with | Nn hp=>exact .Nn (by rw[Oc _ hp];exact h) h1 h2
 | Tq p h=>cases hc with | RD _ _ _ hp=>exact .Tq p (by rw[Oc _ hp];exact h)
 | RD h h1 h2 h3 h4=>cases hc with | RD _ _ _ hp=>exact .RD (by rw[Oc _ hp];exact h) h1 h2 h3 h4
 | Tv h h1 h2=>cases hc with | Tv _ _ _ hp=>exact .Tv (by rw[Oc _ hp];exact h) h1 h2
 | Ud h h1=>cases hc with | Ud _ _ _ _ _ _ hp=>exact .Ud (by rw[Oc _ hp];exact h) h1
 | Tx h hm=>cases hc with | Tx _ hp=>exact .Tx (by rw[Oc _ hp];exact h) hm
 | Sy h=>cases hc with | Sy hp=>exact .Sy (by rw[Oc _ hp];exact h)
 | Uz cs b o b2 o2 f hb hv hb2 hcc hr=>exact .Uz cs b o b2 o2 f (MQ b hb) hv (MQ b2 hb2) hcc (λk d hk=>hle (hr k d hk))
 | ln h=>exact .ln (h.mono (λb hb=>hb.imp (MQ b) (hlen b)) (λ_ _=>rfl))
 | Yj cs off b o f hb hcc hr=>exact .Yj cs off b o f (hb.imp (MQ b) (hlen b)) hcc (λk d hk=>(hr k d hk).mono (λb hb=>hb.imp (MQ b) (hlen b)) (λ_ _=>rfl))
 | any=>exact .any
 | one h=>exact .one h
theorem Ma.ren{p:Nat→Prop}{g':G}(Oc:∀id,p id→g'.ids id=g.ids id)(MQ:∀b,g.Li b→g'.Li b)(hlen:∀b,g.len b→g'.len b){d:Dat F}{x:Value}(h:Ma P g w d x):RV p d→Ma P g' w d x:=by
 induction h with
 | c h=>intro hd;cases hd with | c hc=>exact .c (h.ren Oc MQ hlen hc)
 | agg hl h=>intro hd;cases hd with | agg hc=>exact .agg hl (λk c x a b=>(h k c x a b).ren Oc MQ hlen (hc k c a))
 | Pp hl h ih=>intro hd;cases hd with | Pp hc=>exact .Pp hl (λk c x a b=>ih k c x a b (hc k c a))
 | RY h1 h2 hf hc i1 i2=>intro hd;cases hd with | RY k1 k2=>exact .RY h1 h2 (λk c x a b=>i1 k c x a b (k1 k c a)) (λk c x a b=>i2 k c x a b (k2 k c a))
 | fv h=>intro _;obtain⟨fid,bound,captured,h1,h0,h2,h3⟩:=h;exact .fv ⟨fid,bound,captured,h1,h0,h2,λw2 ac2 k1 k2=>h3 w2 ac2 (λb hb=>k1 b (MQ b hb)) k2⟩
 | gh h=>intro hd;cases hd with | gh hp=>exact .gh (by rw[Oc _ hp];exact h)
theorem Na.ren{p:Nat→Prop}{g':G}(Oc:∀id,p id→g'.ids id=g.ids id)(MQ:∀b,g.Li b→g'.Li b)(hlen:∀b,g.len b→g'.len b){id:Nat}(hp:p id){B:Mg F}(hB:∀(cs:List (MJ F)),B = .box cs→∀(k:Nat)(c:MJ F),cs[k]? = some c→Ot p c)(hA:∀k n,B = .Pq k n→p k)(h:Na g w id B):Na g' w id B:=by
 have hle:∀{d:ND F}{x:Value},L_ w g.Li d x→L_ w g'.Li d x:=λh=>h.mono MQ (λ_ _=>rfl);have hi:=Oc id hp
 cases B with
 | box cs=>
  obtain⟨b,c,arr,t,h1,h2,h3,h4⟩:=h
  exact⟨b,c,arr,t,by rw[hi];exact h1,h2,h3,λk c x a b=>(h4 k c x a b).ren Oc MQ hlen (hB cs rfl k c a)⟩
 | row t l=>
  rcases h with⟨h1,h2⟩ | ⟨b,cap,cur,e,h1,h2,h3,h4,h5,h6⟩
  ·exact .inl ⟨by rw[hi];exact h1,h2⟩
  ·exact .inr ⟨b,cap,cur,e,by rw[hi];exact h1,h2,h3,h4,h5,λk d x a b=>hle (h6 k d x a b)⟩
 | Nc t l=>
  obtain⟨pl,h1,h2⟩:=h
  exact⟨pl,by rw[hi];exact h1,h2.O_ MQ (λ_ _=>rfl) (λ_ _ _ _ _=>rfl)⟩
 | Tc t l=>
  rcases h with⟨h1,h2⟩ | ⟨b,cap,ns,h1,hn,h2,h3,h4,h5⟩
  ·exact .inl ⟨by rw[hi];exact h1,h2⟩
  ·exact .inr ⟨b,cap,ns,by rw[hi];exact h1,λb' hb'=>MQ b' (hn b' hb'),MQ b h2,h3,h4,λk d hk=>by obtain⟨x,k1,k2⟩:=h5 k d hk;exact⟨x,k1,hle k2⟩⟩
 | ZM cs=>
  obtain⟨b,c,h1,h2,h5⟩:=h
  exact⟨b,c,by rw[hi];exact h1,MQ b h2,λk d hk=>by obtain⟨x,k1,k2⟩:=h5 k d hk;exact⟨x,k1,hle k2⟩⟩
 | mp t l=>
  obtain⟨b,h1,h2⟩:=h
  exact⟨b,by rw[hi];exact h1,h2.O_ MQ (λ_ _=>rfl) rfl⟩
 | it ob=>
  obtain⟨b,h1,h2⟩:=h
  exact⟨b,by rw[hi];exact h1,h2⟩
 | Pq k n=>exact N9.mono (λr hr=>by rw[hi];exact hr) (λr hr=>by rw[Oc k (hA k n rfl)];exact hr) h
 | Sr t l i ks=>
  obtain⟨pl,h1,h2⟩:=h
  exact⟨pl,by rw[hi];exact h1,h2.O_ (λ_ _ _ _ _=>rfl) λk d x p hp hc=>hc.O_ MQ (λ_ _=>rfl) hp⟩
 | NU t l j=>
  obtain⟨pl,h1,h2⟩:=h
  exact⟨pl,by rw[hi];exact h1,h2.O_ (λ_ _ _ _ _=>rfl) λk d x p hp hc=>hc.O_ MQ (λ_ _=>rfl) hp⟩
theorem Na.afr{id:Nat}{B:Mg F}(h:Na g w id B):∀k n,B = .Pq k n→g.ids k≠none:=by
 rintro k n rfl
 rcases h with⟨_,_,_,_,_,h,_⟩ | ⟨_,h,_⟩<;>(rw[h];simp)
theorem Na.inn{id:Nat}{B:Mg F}(h:Na g w id B):∀(cs:List (MJ F)),B = .box cs→∀(k:Nat)(c:MJ F),cs[k]? = some c→Ot (λid=>g.ids id≠none) c:=by
 rintro cs rfl k c hk;obtain⟨b,_,arr,t,h1,h2,h3,h4⟩:=h;have hlt:=(K_.1 hk).1
 exact(h4 k c _ hk (K9 (by rw[h3];exact hlt))).inn
def Ye(o:Option Nat)(bx:Pl)(v v':Value):Prop:=
 match o with
 | some n=>if Nat.beq n 4997=true then∃b c,bx=some (b,c)else n≤maxLen∧∃b c,bx=some (b,c)∧v = .slice (some ⟨b,0,none⟩) n n
 | none=>v=v'
def AsB(k:Kd)(bx:Pl)(v v':Value):Prop:=
 match k with
 | .box _ ow=>Ye (Un ow) bx v v'
 | _=>v=v'
def pq(P:Program)(w:World)(Li:Nat→Prop)(e:Option Nat)(k:Kd)(x:k.El F)(v:Value)(LJ:List Pl)(sb:List (Nat×Pl)):Prop:=
 match e with
 | some id=>∃bx v',sb = [(id,bx)]∧Held P w Li k x v' (bx::LJ) [bx]∧k.Ni=true∧AsB k bx v v'
 | none=>sb = []∧∃Me,Held P w Li k x v LJ Me
def ZF(P:Program)(w:World)(Li:Nat→Prop)(val:Nat→Value)(s0:TS F):(ks:Ks)→TLS F ks→List Pl→List (Nat×Pl)→Prop
 | [],_,LJ,sb=>LJ = []∧sb = []
 | [k],x,LJ,sb=>pq P w Li (g_ k.2 (look s0.E k.1)) k.2 x (val k.1) LJ sb
 | k::l::r,a,LJ,sb=>∃p1 p2 b1 b2,LJ=p1++p2∧sb=b1++b2∧pq P w Li (g_ k.2 (look s0.E k.1)) k.2 a.1 (val k.1) p1 b1∧ZF P w Li val s0 (l::r) a.2 p2 b2
def afM(g:G)(s0:TS F)(sb:List (Nat×Pl)):Prop:=∀q∈sb,g.ids q.1=some q.2∧∃x k,g_ k (look s0.E x)=some q.1
theorem iZ{k:Kd}{d:Option (Dat F)}{id:Nat}(h:g_ k d=some id):(∃t ow,k = .box t ow∧d=some (Yv ow id))∨∃t arr,k = .row t arr∧d=some (Pf t arr id):=by
 unfold g_ at h;split at h
 ·split at h
  ·rename_i hs;cases h;exact .inl ⟨_,_,rfl,by simp[Yv,hs]⟩
  ·cases h
 ·split at h
  ·rename_i hs;obtain⟨h1,h⟩:=aQ h;cases h;simp only[Np,U3]at h1;have:=Rh h1.1;subst this
   exact .inl ⟨_,_,rfl,by simp[Yv,hs,h1.2]⟩
  ·cases h
 ·split at h
  ·rename_i hs;obtain⟨h1,h⟩:=aQ h;cases h
   exact .inl ⟨_,_,rfl,by simp[Yv,hs,h1]⟩
  ·cases h
 ·exact .inr ⟨_,_,rfl,congrArg some (ta h)⟩
 ·cases h
theorem CE{ow:List Nat}{id:Nat}{v:Value}(h:Ma (F:=F) P g w (Yv ow id) v):∃v',Ma P g w (VJ (Yv (F:=F) ow id)) v'∧(∃b c,g.ids id=some (some (b,c)))∧∀(bx:Pl),g.ids id=some bx→Ye (Un ow) bx v v':=by
 unfold Yv at h ⊢;generalize Un ow=o at h ⊢
 cases o with
 | none=>obtain⟨b,c,h1,h2⟩:=bW h;exact⟨v,h,⟨b,c,h1⟩,λ_ _=>rfl⟩
 | some n=>
  dsimp only at h ⊢
  cases hn:Nat.beq n 4997 with
  | false=>
   rw[hn]at h;obtain⟨b,c,h1,hm,h2⟩:=wX h;refine⟨_,.c (.ptr h1),⟨b,c,h1⟩,λbx hb=>?_⟩;unfold Ye;dsimp only
   rw[if_neg (by rw[hn];simp)]
   refine⟨hm,b,c,?_,h2⟩;rw[h1]at hb;exact(Option.some.inj hb).symm
  | true=>
   rw[hn]at h;have h:Ma (F:=F) P g w (.gh id) v:=h
   cases h with
   | gh h1=>refine⟨_,.c (.ptr h1),⟨_,_,h1⟩,λbx hb=>?_⟩;unfold Ye;dsimp only;rw[if_pos hn];rw[h1]at hb;exact⟨_,_,(Option.some.inj hb).symm⟩
theorem Gy{ow:List Nat}{id:Nat}{v v':Value}{bx:Nat×Nat×Nat}(hv':v' = .pointer (some ⟨bx.1,0,none⟩))(h:Ye (Un ow) (some (Vq bx)) v v')(hid:g.ids id=some (some (Vq bx))):Ma (F:=F) P g w (Yv ow id) v:=by
 unfold Yv;generalize Un ow=o at h ⊢
 cases o with
 | none=>have h:v=v':=h;subst h;subst hv';exact .c (.ptr hid)
 | some n=>
  dsimp only;unfold Ye at h;dsimp only at h
  cases hn:Nat.beq n 4997 with
  | false=>
   rw[if_neg (by rw[hn];simp)]at h
   obtain⟨hm,b,c,e,rfl⟩:=h;cases e;exact .c (.Tx hid hm)
  | true=>exact .gh hid
theorem uU{s0 s:TS F}(hΓ : ML P Γ)(hm:LQ own g w (look s.M)){val:Nat→Value}(hv:∀x d,look s.E x=some d→Ma P g w d (val x)){x:Nat}{k:Kd}{p:Pk (k.El F)}(h:v9 Γ s0 s x k=some p){Li:Nat→Prop}(hi:TH g p.fz Li) :
  ∃LJ sb,pq P w Li (g_ k (look s0.E x)) k p.x (val x) LJ sb∧afM g s0 sb∧(∀q∈sb,some q.1∈p.os)∧(Lh (p.os.map (Mi g))).Perm (Lh (sb.map (·.2))++Lh LJ)∧R4 (look s.M) p.fz∧(∀id,some id∈p.os→∃B,look s.M id=some B∧B.owned=true):=by
 unfold v9 at h;split at h
 ·rename_i id hs;split at h
  ·cases h
  ·rename_i d hd;split at h
   ·rename_i id' hs';obtain⟨hb,h'⟩:=aQ h;have:=Rh hb;subst this;rcases iZ hs with⟨t,ow,rfl,hs0⟩ | ⟨t,arr,rfl,hs0⟩
    ·rcases iZ hs' with⟨t',ow',e1,e2⟩ | ⟨t',arr',e1,e2⟩
     ·cases e1;cases e2
      obtain⟨v',p1,p2,p3⟩:=CE (hv x _ hd);obtain⟨q,bx,os,h1,h2,h3,h4,h5,h6,h7,h8⟩:=nV (t:=t) (ow:=ow) hm (λ_ _ h=>h) h' hi p1
      have hq:q=id:=by
       unfold Yv at h3
       cases hsl:Un ow with
       | none=>rw[hsl]at h3;simp only[VJ,Dat.c.injEq,MJ.ptr.injEq,and_true]at h3;exact h3.symm
       | some n=>
        rw[hsl]at h3;dsimp only at h3
        cases hn:Nat.beq n 4997<;>rw[hn]at h3<;>simp only[cond_true,cond_false,VJ,Dat.c.injEq,MJ.ptr.injEq,and_true]at h3<;>exact h3.symm
      subst hq
      refine⟨os.map (Mi g),[(q,some (Vq bx))],by unfold pq;rw[hs];exact⟨some (Vq bx),v',rfl,⟨bx,_,rfl,rfl,h5,h6⟩,rfl,p3 _ h4⟩,?_,?_,?_,R4.Po h7,h8⟩
      ·intro q hq;rw[Lb]at hq;subst hq;exact⟨h4,x,_,hs⟩
      ·intro q hq;rw[Lb]at hq;subst hq;rw[h1];simp
      ·rw[h1];simp[Mi,h4,Lh]
     ·cases e1
    ·have etp:VJ d=d:=by
      rcases iZ hs' with⟨t',ow',e1,e2⟩ | ⟨t',arr',e1,e2⟩
      ·cases e1
      ·cases e2;unfold Pf;cases t'.Ny<;>cases arr'<;>rfl
     rw[etp]at h';obtain⟨q,pl,h1,h2,h3,h4,h5,h6,h7,l,h8⟩:=sN (t:=t) (arr:=arr) hm (λ_ _ h=>h) h' hi.Li (hv x _ hd);rcases iZ hs' with⟨t',ow',e1,e2⟩ | ⟨t',arr',e1,e2⟩
     ·cases e1
     ·cases e1
      have hq:q=id:=by
       have e3:Pf (F:=F) t arr q=Pf t arr id:=by rw[← h4];exact Option.some.inj e2
       unfold Pf at e3
       cases hmp:t.Ny<;>rw[hmp]at e3<;>cases arr<;>simpa using e3
      subst hq
      refine⟨[],[(q,pl)],by unfold pq;rw[hs];exact⟨pl,_,rfl,⟨pl,rfl,rfl,h6,h7⟩,rfl,rfl⟩,?_,?_,?_,λid hid=>by rw[h3]at hid;simp at hid,?_⟩
      ·intro q' hq;rw[Lb]at hq;subst hq;exact⟨h5,x,_,hs⟩
      ·intro q' hq;rw[Lb]at hq;subst hq;rw[h1];simp
      ·rw[h1];simp only[M9,Oi,Mi,h5,Ws,Lh,Wq];exact .refl _
      ·intro id' NY;rw[h1]at NY;simp only[Lb,NJ]at NY;subst NY;exact⟨_,h8,ke⟩
   ·cases h
 ·rename_i hs;split at h
  ·cases h
  ·rename_i d hd;obtain⟨Me,h1,h2,h3,h4,h5⟩:=r9 hΓ hm (λ_ _ h=>h) h hi (hv x d hd)
   refine⟨p.os.map (Mi g),[],by unfold pq;rw[hs];exact⟨rfl,Me,h1⟩,λq hq=>by simp at hq,λq hq=>by simp at hq,by simp[Lh],h3,h4⟩
theorem GZ{α : Type}{a b c d:List α}{x y:List α}(h1:x.Perm (a++b))(h2:y.Perm (c++d)):(x++y).Perm ((a++c)++(b++d)):=by refine(h1.append h2).trans ?_;rw[P5,P5];refine QeG a ?_;rw[← P5,← P5];exact QgY d QdD
theorem vN{s0 s:TS F}(hΓ : ML P Γ)(hm:LQ own g w (look s.M)){val:Nat→Value}(hv:∀x d,look s.E x=some d→Ma P g w d (val x)):∀{ks:Ks}{p:Pk (TLS F ks)},TV Γ s0 s ks=some p→∀{Li:Nat→Prop},TH g p.fz Li→
  ∃LJ sb,ZF P w Li val s0 ks p.x LJ sb∧afM g s0 sb∧(∀q∈sb,some q.1∈p.os)∧(Lh (p.os.map (Mi g))).Perm (Lh (sb.map (·.2))++Lh LJ)∧R4 (look s.M) p.fz∧(∀id,some id∈p.os→∃B,look s.M id=some B∧B.owned=true)
 | [],p,h,Li,hi=>by
  simp only[TV,NJ]at h;subst h
  exact⟨[],[],⟨rfl,rfl⟩,λq hq=>by simp at hq,by simp,by simp[Lh],λid hid=>by simp at hid,by simp⟩
 | [k],p,h,Li,hi=>uU hΓ hm hv h hi
 | k::l::r,p,h,Li,hi=>by
  simp only[TV]at h;split at h
  ·cases h
  ·rename_i p1 hp1;split at h
   ·cases h
   ·rename_i p2 hp2;cases h
    obtain⟨l1,b1,h1,h2,h3,h4,h5,h6⟩:=uU hΓ hm hv hp1 (hi.sub (λid hid=>by simp[hid]))
    obtain⟨l2,b2,k1,k2,k3,k4,k5,k6⟩:=vN hΓ hm hv hp2 (hi.sub (λid hid=>by simp[hid]))
    refine⟨l1++l2,b1++b2,⟨l1,l2,b1,b2,rfl,rfl,h1,k1⟩,?_,?_,?_,h5.append k5,?_⟩
    ·intro q hq;rcases OB.1 hq with hq | hq
     ·exact h2 q hq
     ·exact k2 q hq
    ·intro q hq;rcases OB.1 hq with hq | hq
     ·exact ZP _ (h3 q hq)
     ·exact ZU _ (k3 q hq)
    ·show(Lh ((p1.os++p2.os).map (Mi g))).Perm _;rw[UD,aM,aM,UD,aM];exact GZ h4 k4
    ·intro id hid;rcases OB.1 hid with hid | hid
     ·exact h6 id hid
     ·exact k6 id hid
theorem AZ{s0:TS F}{x:Nat}{k:Kd}{y:k.El F}{v:Value}{LJ:List Pl}{sb:List (Nat×Pl)}{c:Nat}(h:pq P w g.Li (g_ k (look s0.E x)) k y v LJ sb)(hn:Pm g c LJ)(hsb:∀q∈sb,g.ids q.1=some q.2) :
  Ma P g w (Si s0.E x k y c).1 v∧SF g w c LJ.length (sb.map (·.1)) (Si s0.E x k y c).2.1∧(Si s0.E x k y c).2.2=c+LJ.length:=by
 unfold Si;unfold pq at h
 cases hs:g_ k (look s0.E x)with
 | none=>rw[hs]at h;dsimp only at h ⊢;obtain⟨rfl,Me,h⟩:=h;obtain⟨h1,h2,h3⟩:=dv (c:=c) h hn;exact⟨h1,h2.back,h3⟩
 | some id=>
  rw[hs]at h;dsimp only at h ⊢;rcases iZ hs with⟨t,ow,rfl,_⟩ | ⟨t,arr,rfl,_⟩
  ·obtain⟨bx,v',rfl,⟨bx',rest,e1,e2,hv',hB⟩,_,has⟩:=h;cases e1;cases e2
   have hid:=hsb (id,some (Vq bx')) (by simp)
   obtain⟨k1,k2⟩:=vF (c:=c) hB hid hn;exact⟨Gy hv' has hid,k1,k2⟩
  ·obtain⟨bx,v',rfl,⟨pl,e1,e2,h1,h2⟩,_,has⟩:=h;cases e1;cases e2;cases has
   have hid:g.ids id=some bx:=hsb (id,bx) (by simp)
   refine⟨zr h1 hid h2,?_,rfl⟩;intro p hp;simp only[X3,Lb]at hp;subst hp
   exact⟨ke,qt h1 hid,.inr (by simp)⟩
theorem Cf{s0:TS F}{val:Nat→Value}:∀{ks:Ks}{x:TLS F ks}{LJ:List Pl}{sb:List (Nat×Pl)} {c:Nat},ZF P w g.Li val s0 ks x LJ sb→Pm g c LJ→(∀q∈sb,g.ids q.1=some q.2)→
  (∀y d,look (M6 s0.E ks x c).1 y=some d→Ma P g w d (val y))∧SF g w c LJ.length (sb.map (·.1)) (M6 s0.E ks x c).2.1∧(M6 s0.E ks x c).2.2=c+LJ.length∧(∀y,y∉keysOf ks→look (M6 s0.E ks x c).1 y=none)
 | [],x,LJ,sb,c,h,hn,hsb=>by
  obtain⟨rfl,rfl⟩:=h
  exact⟨λy d h=>by simp[M6,look]at h,λp hp=>by simp[M6]at hp,rfl,λ_ _=>rfl⟩
 | [k],x,LJ,sb,c,h,hn,hsb=>by
  obtain⟨h1,h2,h3⟩:=AZ (c:=c) h hn hsb;simp only[M6];refine⟨?_,h2,h3,?_⟩
  ·intro y d hy;rw[az]at hy;split at hy
   ·rename_i hb;have:=Rh hb;subst this;cases hy;exact h1
   ·simp[look]at hy
  ·intro y hy;rw[az,ao]
   ·rfl
   ·rintro rfl;simp[keysOf]at hy
 | k::l::r,x,LJ,sb,c,h,hn,hsb=>by
  obtain⟨p1,p2,b1,b2,rfl,rfl,h,h'⟩:=h
  obtain⟨h1,h2,h3⟩:=AZ (c:=c) h hn.left (λq hq=>hsb q (by simp[hq]))
  obtain⟨k1,k2,k3,k4⟩:=Cf (c:=c+p1.length) h' hn.right (λq hq=>hsb q (by simp[hq]))
  simp only[M6];rw[h3]
  refine⟨?_,by rw[La,UD];exact h2.append k2,by rw[k3,La];omega,?_⟩
  ·intro y d hy;rw[az]at hy;split at hy
   ·rename_i hb;have:=Rh hb;subst this;cases hy;exact h1
   ·exact k1 y d hy
  ·intro y hy
   rw[az,ao (λe=>hy (by simp[keysOf,e]))]
   exact k4 y (λh=>hy (by simp only[keysOf,M9,Nz]at h ⊢;exact .inr h))
theorem pm{c0:Nat}{kill l:List Nat}(h:SK c0 kill l=true){id:Nat}(hi:id∈l):c0≤id∨id∈kill:=by have:=Td.1 h id hi;simp only[UC]at this;exact this.imp (λh=>U4 h) aN.1
def G.cut(g:G)(c0:Nat)(LJ:List Pl)(I:Nat→Prop):G:=⟨λx=>if x<c0 then g.ids x else if x<c0+LJ.length then LJ[x - c0]? else none,I,g.len⟩
theorem wI{c0:Nat}{LJ:List Pl}{I:Nat→Prop}{x:Nat}(h:x<c0):(g.cut c0 LJ I).ids x=g.ids x:=by simp only[G.cut];rw[if_pos h]
theorem KX{c0:Nat}{LJ:List Pl}{I:Nat→Prop}:Pm (g.cut c0 LJ I) c0 LJ:=by
 intro j pl hj;have hlt:=(K_.1 hj).1;simp only[G.cut]
 rw[if_neg (by omega),if_pos (by omega),QfP]
 exact hj
theorem Ab{s:TS F}{dr kill:List Nat}{ks:Ks}{x:TLS F ks}(hk:∀y∈keysOf ks,y∈dr)(hks:∀y,y∉keysOf ks→look (M6 s.E ks x s.c).1 y=none)(hb:∀q∈(M6 s.E ks x s.c).2.1,s.c≤q.1∨q.1∈kill)(hc:s.c≤(M6 s.E ks x s.c).2.2):Fr nv s (merge nv dr kill s ks x):=by
 refine⟨?_,?_,hc,λy hy=>ZU _ hy,λy hy=>ZU _ hy⟩
 ·intro y hy hn;have hnd:y∉dr:=λh=>hn (ZP _ h);show look ((M6 s.E ks x s.c).1++s.E.filter λp=>Nat.blt p.1 nv&&!(Mf p.1 dr)) y=_;rw[bj,hks y (λh=>hnd (hk y h)),Vx,aK (λy=>Nat.blt y nv&&!(Mf y dr)),if_pos];rw[R7.mpr hy]
  cases hm:Mf y dr with
  | true=>exact absurd (aN.1 hm) hnd
  | false=>rfl
 ·intro id hid hn;have hnd:id∉kill:=λh=>hn (ZP _ h);show look ((M6 s.E ks x s.c).2.1++s.M.filter λp=>!(Mf p.1 kill)) id=_
  have hnone:∀{l:List (Nat×Mg F)},(∀q∈l,s.c≤q.1∨q.1∈kill)→look l id=none:=by
   intro l
   induction l with
   | nil=>intro _;rfl
   | cons q l ih=>
    intro h;obtain⟨y,C⟩:=q
    have hne:y≠id:=by
     rintro rfl
     rcases h (y,C) (by simp)with h | h
     ·simp only at h;omega
     ·exact hnd h
    rw[az,ao hne]
    exact ih (λq hq=>h q (by simp[hq]))
  rw[bj,hnone hb,Vx,aK (λy=>!(Mf y kill)),if_pos]
  cases hm:Mf id kill with
  | true=>exact absurd (aN.1 hm) hnd
  | false=>rfl
theorem wx(hΓ : ML P Γ){s z:TS F}{gs:G}{as:Act}{ws W1:World}(hs:Good P own W1 n s.st gs as ws)(hz:Good P own W0 n z.st g a w){dr kill:List Nat}
  (he:∀x,x<nv→x∉dr→look z.E x=look s.E x) (hm:∀id,id<s.c→id∉kill→look z.M id=look s.M id) {ks:Ks} {p:Pk (TLS F ks)} (hp:TV Γ s z ks=some p)
  (hnd:d9 (Mq p.os)=true) (hdj:RU (Mq p.os) p.fz=true) (ho:SK s.c kill (Mq p.os)=true) (hf:SK s.c kill p.fz=true) :
  (∃g',Good P own W0 n (merge nv dr kill s ks p.x).st g' a w)∧((∀y∈keysOf ks,y∈dr)→Fr nv s (merge nv dr kill s ks p.x)∧Fr nv (clean s) (merge nv dr kill (clean s) ks p.x))∧
  (∀q∈(M6 s.E ks p.x s.c).2.1,s.c≤q.1∨q.1∈kill)∧(∀y,y∉keysOf ks→look (M6 s.E ks p.x s.c).1 y=none)∧s.c≤(M6 s.E ks p.x s.c).2.2:=by
 have hfz:TH g p.fz (g.Rm p.fz).Li:=⟨λ_ h=>.inl h,λid hid b hb=>.inr ⟨id,hid,hb⟩⟩;obtain⟨LJ,sb,h1,hsb,ac6,hperm,h2,h3⟩:=vN (s0:=s) (val:=λx=>a.tmps.getD x undef) hΓ hz.mem hz.env hp hfz;have hfr:=mU hz.mem (λ_ _ h=>h) h2
 have Rj:∀{id:Nat},gs.ids id≠none→id<s.c:=by
  intro id hid;apply Nat.lt_of_not_le;intro hle
  exact hid (hs.dom id (by simp only[TS.st,bX,decide_eq_false_iff_not];omega))
 let g':G:=g.cut s.c LJ (g.Rm p.fz).Li
 have Oc:∀id,gs.ids id≠none→g'.ids id=g.ids id:=λid hid=>wI (Rj hid);have MQ:∀b,g.Li b→g'.Li b:=λb hb=>.inl hb
 have aoL:∀q∈sb,q.1<s.c:=by
  intro q hq;obtain⟨_,x,k,hx⟩:=hsb q hq;rcases iZ hx with⟨t,ow,_,hx⟩ | ⟨t,arr,_,hx⟩
  ·obtain⟨_,_,⟨b,c,hi⟩,_⟩:=CE (hs.env x _ hx)
   exact Rj (by rw[hi];simp)
  ·obtain⟨⟨pl,hi⟩,_⟩:=ye (t:=t) (hs.env x _ hx)
   exact Rj (by rw[hi];simp)
 have afu:∀q∈sb,g'.ids q.1=some q.2:=λq hq=>(wI (aoL q hq)).trans (hsb q hq).1;obtain⟨k1,k2,k3,k4⟩:=Cf (g:=g') (c:=s.c) h1 KX afu
 have hpl:∀{b:Nat},b∈Lh (sb.map (·.2))++Lh LJ→∃id B,id∈Mq p.os∧look z.M id=some B∧B.owned=true∧g.blk id b:=by intro b hb;obtain⟨id,q1,q2⟩:=cg.1 (hperm.mem_iff.2 hb);obtain⟨B,q3,q4⟩:=h3 id q1;exact⟨id,B,fT.2 q1,q3,q4,q2⟩
 have afC:(Lh (sb.map (·.2))++Lh LJ).Nodup:=hperm.nodup_iff.1 (kh hz.mem (jm hnd) h3);have aoP:(Lh LJ).Nodup:=(Yo.1 afC).2.1
 have afx:∀{b:Nat},b∈Lh (sb.map (·.2))++Lh LJ→own.o b∧¬ (g.Rm p.fz).Li b:=by
  intro b hb;obtain⟨id,B,q1,q2,q3,q4⟩:=hpl hb;refine⟨(hz.mem.own id B b q2 q3 q4).1,?_⟩;have hno:id∉p.fz:=nM hdj id q1
  exact(hfr.own id B b (by rw[kV,if_neg hno];exact q2) q3 q4).2
 have hmem:∀{id:Nat}{B:Mg F},look ((M6 s.E ks p.x s.c).2.1++s.M.filter λq=>!(Mf q.1 kill)) id=some B→
   (Na g' w id B∧s.c≤id∧∀b,g'.blk id b→∃b0 q,LJ[id - s.c]? = some (some (b0,q))∧b∈b0::MO q.2.2)∨
   (Na g' w id B∧∃bx,(id,bx)∈sb∧∀b,g'.blk id b→∃b0 q,bx=some (b0,q)∧b∈b0::MO q.2.2)∨
   (id<s.c∧id∉kill∧look z.M id=some B∧Na g' w id B∧∀b,g'.blk id b→g.blk id b):=by
  intro id B hB;rw[bj]at hB
  cases hl:look (M6 s.E ks p.x s.c).2.1 id with
  | some B'=>
   rw[hl]at hB;cases hB
   have hin:∀{l:List (Nat×Mg F)} {B:Mg F},look l id=some B→(id,B)∈l:=by
    intro l
    induction l with
    | nil=>intro B h;simp[look]at h
    | cons q l ih=>
     intro B h;obtain⟨y,C⟩:=q;rw[az]at h;split at h
     ·rename_i hb;have:=Rh hb;subst this;cases h;simp
     ·exact Uh _ (ih h)
   obtain⟨q3,q4,⟨j,q1,q2⟩ | q1⟩:=k2 _ (hin hl)
   ·simp only at q1 q4
    refine .inl ⟨q4,by omega,?_⟩
    rintro b ⟨b0,q,hq,hbb⟩;refine⟨b0,q,?_,hbb⟩
    have:¬ id<s.c:=by omega
    simp only[g',G.cut]at hq
    rw[if_neg this,if_pos (by omega)]at hq
    exact hq
   ·simp only at q1 q4;obtain⟨⟨i,bx⟩,r1,r2⟩:=Ra.1 q1;simp only at r2;subst r2;refine .inr (.inl ⟨q4,bx,r1,?_⟩);rintro b ⟨b0,q,hq,hbb⟩;rw[afu _ r1]at hq;cases hq;exact⟨_,_,rfl,hbb⟩
  | none=>
   rw[hl,Vx]at hB;rw[aK (λy=>!(Mf y kill))]at hB;split at hB
   ·rename_i hk
    have hk':id∉kill:=λh=>by rw[aN.2 h]at hk;simp at hk
    have hok:=hs.mem.ok id B hB;have hlt:id<s.c:=Rj hok.named
    have hzB:look z.M id=some B:=by rw[hm id hlt hk'];exact hB
    refine .inr (.inr ⟨hlt,hk',hzB,(hz.mem.ok id B hzB).ren Oc MQ (λ_ h=>h) hok.named hok.inn hok.afr,?_⟩);rintro b ⟨b0,q,hq,hbb⟩
    exact⟨b0,q,by rw[← wI (g:=g) (LJ:=LJ) (I:=(g.Rm p.fz).Li) hlt];exact hq,hbb⟩
   ·cases hB
 have hkept:∀{id:Nat}{B:Mg F}{b:Nat},id<s.c→id∉kill→look z.M id=some B→B.owned=true→g.blk id b→b∉Lh (sb.map (·.2))++Lh LJ∧¬ (g.Rm p.fz).Li b:=by
  intro id B b q1 q2 q3 q4 q5;refine⟨λhb=>?_,?_⟩
  ·obtain⟨id',B',r1,r2,r3,r4⟩:=hpl hb;have:=hz.mem.SX id id' B B' b q3 r2 q4 r3 q5 r4;subst this;rcases pm ho r1 with h | h
   ·omega
   ·exact q2 h
  ·have hno:id∉p.fz:=λh=>by
    rcases pm hf h with h | h
    ·omega
    ·exact q2 h
   exact(hfr.own id B b (by rw[kV,if_neg hno];exact q3) q4 q5).2
 have OQ:∀{id b b0:Nat}{q:Nat×Nat×NS},(id,some (b0,q))∈sb→b∈b0::MO q.2.2→b∈Lh (sb.map (·.2))++Lh LJ:=λh hb=>ZP _ (sg (Ra.2 ⟨_,h,rfl⟩) hb);have inP:∀{j b b0:Nat}{q:Nat×Nat×NS},LJ[j]? = some (some (b0,q))→b∈b0::MO q.2.2→b∈Lh (sb.map (·.2))++Lh LJ:=λh hb=>ZU _ (cI.2 ⟨_,_,_,h,hb⟩)
 have apart:∀{id j b b1:Nat}{bx:Pl}{q:Nat×Nat×NS},(id,bx)∈sb→(∃b0 q,bx=some (b0,q)∧b∈b0::MO q.2.2)→LJ[j]? = some (some (b1,q))→b∈b1::MO q.2.2→False:=by rintro id j b b1 bx q h ⟨b0,q',rfl,hb⟩ h' hb';exact(Yo.1 afC).2.2 b (sg (Ra.2 ⟨_,h,rfl⟩) hb) b (cI.2 ⟨_,_,_,h',hb'⟩) rfl
 have hb:∀q∈(M6 s.E ks p.x s.c).2.1,s.c≤q.1∨q.1∈kill:=λq hq=>by
  obtain⟨_,_,⟨j,q1,_⟩ | q1⟩:=k2 q hq
  ·exact .inl (by omega)
  ·obtain⟨⟨i,bx⟩,r1,r2⟩:=Ra.1 q1;simp only at r2;rw[← r2];rcases pm ho (fT.2 (ac6 _ r1))with h | h
   ·exact .inl h
   ·exact .inr h
 refine⟨⟨g',hz.Ue,hz.Tj,?_,⟨?_,?_,?_,hfr.Li,hfr.io,hz.mem.len⟩,?_,λb hb=>.inl (hz.Tw b hb),hz.NW,λid q h=>(wI (Rj (by rw[hs.Sn id q h];simp))).trans (hz.Sn id q h)⟩,λhk=>?_,hb,k4,by rw[k3];omega⟩
 ·intro x d hx;simp only[TS.st,merge]at hx;rw[bj]at hx
  cases hl:look (M6 s.E ks p.x s.c).1 x with
  | some d'=>rw[hl]at hx;cases hx;exact k1 x d hl
  | none=>
   rw[hl,Vx,aK (λy=>Nat.blt y nv&&!(Mf y dr))]at hx;split at hx
   ·rename_i hc;simp only[Np,U3]at hc;have hlt:x<nv:=R7.mp hc.1
    have hnd:x∉dr:=λh=>by rw[aN.2 h]at hc;simp at hc
    have hzx:look z.E x=some d:=by rw[he x hlt hnd];exact hx
    exact(hz.env x d hzx).ren Oc MQ (λ_ h=>h) (hs.env x d hx).inn
   ·cases hx
 ·intro id B hB
  rcases hmem hB with⟨q,_⟩ | ⟨q,_⟩ | ⟨_,_,_,q,_⟩<;>exact q
 ·intro id id' B B' b hB hB' ob Pz hb hb';rcases hmem hB with⟨_,q1,q2⟩ | ⟨_,bx,q1,q2⟩ | ⟨q1,q2,q3,_,q4⟩
  ·obtain⟨x0,x,q3,q5⟩:=q2 b hb;rcases hmem hB' with⟨_,r1,r2⟩ | ⟨_,bx',r1,r2⟩ | ⟨r1,r2,r3,_,r4⟩
   ·obtain⟨y0,y,r3,r5⟩:=r2 b hb';have:=mG aoP q3 q5 r3 r5;omega
   ·exact(apart r1 (r2 b hb') q3 q5).elim
   ·exact absurd (inP q3 q5) (hkept r1 r2 r3 Pz (r4 b hb')).1
  ·have e1:=q2 b hb;rcases hmem hB' with⟨_,r1,r2⟩ | ⟨_,bx',r1,r2⟩ | ⟨r1,r2,r3,_,r4⟩
   ·obtain⟨y0,y,r3,r5⟩:=r2 b hb';exact(apart q1 e1 r3 r5).elim
   ·have e2:=r2 b hb';obtain⟨B1,s1,s2⟩:=h3 id (ac6 _ q1);obtain⟨B2,t1,t2⟩:=h3 id' (ac6 _ r1);obtain⟨x0,x1,rfl,x2⟩:=e1;obtain⟨y0,y1,rfl,y2⟩:=e2;exact hz.mem.SX id id' B1 B2 b s1 t1 s2 t2 ⟨x0,x1,(hsb _ q1).1,x2⟩ ⟨y0,y1,(hsb _ r1).1,y2⟩
   ·obtain⟨x0,x1,rfl,x2⟩:=e1;have:=OQ q1 x2;exact absurd this (hkept r1 r2 r3 Pz (r4 b hb')).1
  ·rcases hmem hB' with⟨_,r1,r2⟩ | ⟨_,bx',r1,r2⟩ | ⟨r1,r2,r3,_,r4⟩
   ·obtain⟨y0,y,r3,r5⟩:=r2 b hb';exact absurd (inP r3 r5) (hkept q1 q2 q3 ob (q4 b hb)).1
   ·obtain⟨x0,x1,rfl,x2⟩:=r2 b hb';have:=OQ r1 x2;exact absurd this (hkept q1 q2 q3 ob (q4 b hb)).1
   ·exact hz.mem.SX id id' B B' b q3 r3 ob Pz (q4 b hb) (r4 b hb')
 ·intro id B b hB ob hb;rcases hmem hB with⟨_,q1,q2⟩ | ⟨_,bx,q1,q2⟩ | ⟨q1,q2,q3,_,q4⟩
  ·obtain⟨x0,x,q3,q5⟩:=q2 b hb;exact afx (inP q3 q5)
  ·obtain⟨x0,x1,rfl,x2⟩:=q2 b hb;exact afx (OQ q1 x2)
  ·exact⟨(hz.mem.own id B b q3 ob (q4 b hb)).1,(hkept q1 q2 q3 ob (q4 b hb)).2⟩
 ·intro id hid;simp only[TS.st,merge,bX,decide_eq_false_iff_not]at hid;rw[k3]at hid;simp only[g',G.cut]
  rw[if_neg (by omega),if_neg (by omega)]
 ·exact⟨Ab hk k4 hb (by rw[k3];omega),Ab (s:=clean s) hk k4 hb (by show s.c≤(M6 s.E ks p.x s.c).2.2;rw[k3];omega)⟩
end
set_option linter.unusedVariables false
set_option linter.unusedSimpArgs false
section
variable{F:Fam}{P:Program}{own:Ow}{W0:World}{n nv:Nat}
theorem sM{s z:TS F}{gs g:G}{a0 a:Act}{w0 w:World}(hs:Good P own W0 n s.st gs a0 w0)(hz:Good P own W0 n z.st g a w){id ix kk:Nat}{dr:List Nat}{B B':Mg F}{len:Nat}{nn:Int}(hid:id<s.c)
  (he:∀y,y<nv→y∉ix::dr→look z.E y=look s.E y) (hi:look z.E ix=some (.c (.im (.i .i64 nn)))) (hm:∀y,y<s.c→y≠id→look z.M y=look s.M y)
  (hB:look z.M kk=some B) (hBo:B.owned=true) (hkk:kk=id∨s.c≤kk) (hsame:N9 len (g.ids id) (g.ids kk)) (hB':∀g2:G,g2.ids s.c=g.ids kk→g2.Li=g.Li→Na g2 w s.c B') (hBo':B'.owned=true) :
  ∃g2,Good P own W0 n (OI nv s id ix dr B' len nn).st g2 a w:=by
 have Rj:∀{y:Nat},gs.ids y≠none→y<s.c:=by
  intro y hy;by_cases h:y<s.c
  ·exact h
  ·exact absurd (hs.dom y (by simp only[TS.st,bX];simpa using h)) hy
 obtain⟨g2,hg2⟩:∃g2:G,g2=⟨λy=>if y=s.c then g.ids kk else if y<s.c then g.ids y else none,g.Li,g.len⟩:=⟨_,rfl⟩
 have h2c:g2.ids s.c=g.ids kk:=by rw[hg2];simp
 have h2l:∀y,y<s.c→g2.ids y=g.ids y:=λy hy=>by rw[hg2];simp only;rw[if_neg (by omega),if_pos hy]
 have h2g:∀y,s.c<y→g2.ids y=none:=λy hy=>by rw[hg2];simp only;rw[if_neg (by omega),if_neg (by omega)]
 have h2i:g2.Li=g.Li:=by rw[hg2]
 have ach:g2.len=g.len:=by rw[hg2]
 have Oc:∀y,gs.ids y≠none→g2.ids y=g.ids y:=λy hy=>h2l y (Rj hy)
 have MQ:∀b,g.Li b→g2.Li b:=λb h=>by rw[h2i];exact h
 have hlen:∀b,g.len b→g2.len b:=λb h=>by rw[ach];exact h
 have hcase:∀y B0,look (OI nv s id ix dr B' len nn).M y=some B0→(y=id∧B0 = .Pq s.c len)∨(y=s.c∧B0=B')∨(y<s.c∧y≠id∧look s.M y=some B0∧look z.M y=some B0):=by
  intro y B0 h;simp only[OI]at h;rw[az]at h;by_cases h1:id=y
  ·subst h1;rw[if_pos (Yz _)]at h;cases h;exact .inl ⟨rfl,rfl⟩
  ·have hb1:Nat.beq id y=false:=ao h1
   rw[if_neg (by rw[hb1];simp),az]at h
   by_cases h2:s.c=y
   ·subst h2;rw[if_pos (Yz _)]at h;cases h;exact .inr (.inl ⟨rfl,rfl⟩)
   ·have hb2:Nat.beq s.c y=false:=ao h2
    rw[if_neg (by rw[hb2];simp),aK (λy=>!(Nat.beq id y))]at h
    rw[if_pos (by rw[hb1];rfl)]at h
    have hlt:y<s.c:=Rj (hs.mem.ok y B0 h).named
    exact .inr (.inr ⟨hlt,λe=>h1 e.symm,h,by rw[hm y hlt (λe=>h1 e.symm)];exact h⟩)
 have hback:∀y B0,look (OI nv s id ix dr B' len nn).M y=some B0→B0.owned=true→∀b,g2.blk y b→∃y' B1,look z.M y'=some B1∧B1.owned=true∧g.blk y' b∧((y=s.c∧y'=kk)∨(y<s.c∧y≠id∧y'=y)):=by
  intro y B0 h ho b hb;rcases hcase y B0 h with⟨_,rfl⟩ | ⟨rfl,rfl⟩ | ⟨h1,h2,h3,h4⟩
  ·cases ho
  ·obtain⟨b0,c,k1,k2⟩:=hb;rw[h2c]at k1;exact⟨kk,B,hB,hBo,⟨b0,c,k1,k2⟩,.inl ⟨rfl,rfl⟩⟩
  ·obtain⟨b0,c,k1,k2⟩:=hb;rw[h2l y h1]at k1;exact⟨y,B0,h4,ho,⟨b0,c,k1,k2⟩,.inr ⟨h1,h2,rfl⟩⟩
 refine⟨g2,hz.Ue,hz.Tj,?_,⟨?_,?_,?_,λb hb=>hz.mem.Li b (by rw[← h2i];exact hb),λb hb=>hz.mem.io b (by rw[← h2i];exact hb),λb hb=>hz.mem.len b (by rw[← ach];exact hb)⟩,?_,λb hb=>MQ b (hz.Tw b hb),hz.NW,?_⟩
 ·intro x d hx;have hx:look ((ix,.c (.im (.i .i64 nn)))::s.E.filter (λp=>Nat.blt p.1 nv&&!(Mf p.1 (ix::dr)))) x=some d:=hx;rw[az]at hx;by_cases h1:ix=x
  ·subst h1;rw[if_pos (Yz _)]at hx;cases hx;have:=hz.env ix _ hi
   cases this with
   | c h=>cases h with
    | im h=>exact .c (.im (by rw[h2i];exact h))
  ·have hb1:Nat.beq ix x=false:=ao h1
   rw[if_neg (by rw[hb1];simp),aK (λy=>Nat.blt y nv&&!(Mf y (ix::dr)))]at hx
   split at hx
   ·rename_i hc;simp only[Np,bX,decide_eq_true_eq,U3]at hc
    have hn:x∉ix::dr:=λh=>by rw[aN.2 h]at hc;cases hc.2
    have hzx:look z.E x=some d:=by rw[he x hc.1 hn];exact hx
    exact(hz.env x d hzx).ren Oc MQ hlen (hs.env x d hx).inn
   ·cases hx
 ·intro y B0 h;rcases hcase y B0 h with⟨rfl,rfl⟩ | ⟨rfl,rfl⟩ | ⟨h1,h2,h3,h4⟩
  ·show N9 len (g2.ids y) (g2.ids s.c);rw[h2l y hid,h2c];exact hsame
  ·exact hB' g2 h2c h2i
  ·have hok:=hs.mem.ok y B0 h3;exact(hz.mem.ok y B0 h4).ren Oc MQ hlen hok.named hok.inn hok.afr
 ·intro y y' B0 B1 b h h' ho ho' hb hb';obtain⟨q,C,k1,k2,k3,k4⟩:=hback y B0 h ho b hb;obtain⟨q',C',l1,l2,l3,l4⟩:=hback y' B1 h' ho' b hb';have:=hz.mem.SX q q' C C' b k1 l1 k2 l2 k3 l3;omega
 ·intro y B0 b h ho hb;obtain⟨q,C,k1,k2,k3,k4⟩:=hback y B0 h ho b hb;have:=hz.mem.own q C b k1 k2 k3
  exact⟨this.1,by rw[h2i];exact this.2⟩
 ·intro y hy;have hy:Nat.blt y (s.c+1)=false:=hy;rw[bX]at hy
  have hy':¬ y<s.c+1:=by simpa using hy
  exact h2g y (by omega)
 ·intro y p hp;have h1:=hs.Sn y p hp
  rw[h2l y (Rj (by rw[h1];simp))]
  exact hz.Sn y p hp
theorem N9.len{w:World}{t:Ty}{l:List (ET F t)}{C:Nat→ND F→Value→Option (Nat×Nat×Nat)→Prop}{x:Nat}{p q:Option Pl}(h:N9 x p q)(hq:∃pl,q=some pl∧Ri w t l C pl):N9 l.length p q:=by
 obtain⟨pl,h1,h2⟩:=hq;rcases h with⟨b,c,n,n',k1,k2,k3,k4⟩ | ⟨k1,k2,k3⟩
 ·rw[k2]at h1;cases h1;exact .inl ⟨b,c,n,n',k1,k2,k3,k3.symm.trans h2.1⟩
 ·rw[k2]at h1;cases h1;have:l = []:=h2;subst this;exact .inr ⟨k1,k2,rfl⟩
theorem Hk{m:Nat→Option (Mg F)}{g:G}{w:World}(hm:LQ own g w m){id c:Nat}{t:Ty}{l:List (ET F t)}(hB:m id=some (.row t l))(hf:g.ids c=none) :
  ∃g',LQ own g' w (Ml m [(id,none),(c,some (.NU t l 0)),(id,some (.Pq c l.length))])∧Stp m g w g' w∧∀y,y≠c→g'.ids y=g.ids y:=by
 have hnb:∀k:Nat,MO (List.replicate k (none:Option (Nat×Nat×Nat))) = []:=by
  intro k
  induction k with
  | zero=>rfl
  | succ k ih=>rw[QgL];exact ih
 obtain⟨pl,WT,hid,hO,hbl,hSm⟩:∃pl WT,g.ids id=some pl∧Ri w t l (Vh w g.Li (LY F t) 0) WT∧(∀b0 c',WT=some (b0,c')→∀b∈b0::MO c'.2.2,∃c2,pl=some (b,c2))∧N9 l.length (some pl) (some WT):=by
  rcases hm.ok id _ hB with⟨k1,k2⟩ | ⟨b,cap,cur,e,k1,k2,k3,k4,k5,k6⟩
  ·exact⟨none,none,k1,k2,λ_ _ h=>by simp at h,.inr ⟨rfl,rfl,by rw[k2];rfl⟩⟩
  ·refine⟨_,some (b,cap,l.length,List.replicate (cells F t l).length none),k1,⟨rfl,k3,k4,by simp,by rw[hnb];simp,cur,e,k2,k5,λk d y p h1 h2 h3=>⟨λh=>by omega,λ_=>⟨?_,k6 k d y h1 h2⟩⟩⟩,?_,.inl ⟨b,cap,_,_,rfl,rfl,rfl,rfl⟩⟩
   ·dsimp only at h3;rw[List.getElem?_replicate]at h3;split at h3
    ·cases h3;rfl
    ·cases h3
   ·rintro b0 c' h b' hb';cases h;rw[hnb]at hb';rw[Lb]at hb';subst hb';exact⟨_,rfl⟩
 obtain⟨k1,k2⟩:=kZ (rm:=[id]) (id:=c) (pl:=WT) (B:=.NU t l 0) (w':=w) hm hf
  (λb0 c' e b hb=>by
   obtain⟨c2,hc2⟩:=hbl b0 c' e b hb
   exact .inr ⟨id,by simp,_,hB,rfl,b,c2,by rw[hid,hc2],ZT⟩) rfl rfl rfl (MN _) (MN _) (λ_ _ _=>rfl) (λg' hle hi=>⟨WT,hi,hO.O_ (λ_ _ _ _ _=>rfl) λk d y p hp hc=>hc.O_ hle.Li hle.heap hp⟩)
 refine⟨g.name c WT,?_,k2,λy hy=>cj _ _ _ hy⟩
 have h2:=k1.Pq (id:=id) (k:=c) (n:=l.length) (by rw[k2.le.ids _ _ hid,bv];exact hSm)
 have e:([(id,none),(c,some (.NU t l 0)),(id,some (.Pq c l.length))]:List (Nat×Option (Mg F)))=([id].map (λr=>(r,none))++[(c,some (.NU t l 0))])++[(id,some (.Pq c l.length))]:=rfl;rw[e,gU];exact h2
theorem Ej{g:G}{w:World}{id:Nat}{t:Ty}{l:List (ET F t)}{j:Nat}(h:Na g w id (.NU t l j))(hj:l.length≤j):Na g w id (.Nc t l):=by
 obtain⟨pl,h1,h2⟩:=h;refine⟨pl,h1,?_⟩
 cases pl with
 | none=>exact h2
 | some q=>obtain⟨b,cap,n⟩:=q;obtain⟨q1,q2,q3,q4,q5,cur,e,q6,q7,q8⟩:=h2;refine⟨q1,q2,q3,q4,q5,cur,e,q6,q7,λk d x p p1 p2 p3=>(q8 k d x p p1 p2 p3).1 ?_⟩;have hk:k<(cells F t l).length:=(K_.1 p1).1;rw[iq]at hk;have:l.length*LY F t≤j*LY F t:=Rp _ hj;omega
end
set_option linter.unusedVariables false
set_option linter.unusedSimpArgs false
def exC:Nat→Exit
 | 0=>.normal
 | 1=>.ret
 | i+2=>.exit i
section
variable{F:Fam}{P:Program}{T:TypeId→Option (TI F)}{Γ : Ctx F}{nv n:Nat}{own:Ow}{W0:World}
def YE(P:Program)(own:Ow)(W0:World)(n nv:Nat)(s:TS F){R:Type}(K:Nat→TS F→Option R)(r:R):Exit→Act→World→Prop:=
 λe a w=>∃k s' g',exC k=e∧K k s'=some r∧Fr nv s s'∧Good P own W0 n s'.st g' a w
theorem YE.back{s s1:TS F}(h:Fr nv s s1){R:Type}{K:Nat→TS F→Option R}{r:R}{e:Exit}{a:Act}{w:World}(k:YE P own W0 n nv s1 K r e a w):YE P own W0 n nv s K r e a w:=by obtain⟨i,s',g',h1,h2,h3,h4⟩:=k;exact⟨i,s',g',h1,h2,h.trans h3,h4⟩
def bk(P:Program)(own:Ow)(W0:World)(n nv:Nat)(c:Code)(run:TS F→{R:Type}→(Nat→TS F→Option R)→Option R):Prop:=
 ∀(s:TS F){R:Type}(K:Nat→TS F→Option R)(r:R),run s K=some r→∀(g:G)(a:Act)(w:World),Good P own W0 n s.st g a w→c.wp P (YE P own W0 n nv s K r) a w
theorem ED{x y:Code}{f k:TS F→{R:Type}→(Nat→TS F→Option R)→Option R}(hx:bk P own W0 n nv x f)(hy:bk P own W0 n nv y k) :
  bk P own W0 n nv (x.seq y) (λs R K=>f s λe s'=>match e with | 0=>k s' K | e=>K e s'):=by
 intro s R K r h g a w hg;refine wp_seq (wp_mono (hx s _ r h g a w hg) ?_);rintro e a' w' ⟨i,s',g',rfl,h2,h3,h4⟩
 match i,h2 with
 | 0,h2=>exact wp_mono (hy s' K r h2 g' a' w' h4) (λe a w hq=>hq.back h3)
 | 1,h2=>exact⟨1,s',g',rfl,h2,h3,h4⟩
 | i+2,h2=>exact⟨i+2,s',g',rfl,h2,h3,h4⟩
theorem CA{t:Nat}{x y:Code}{f k:TS F→{R:Type}→(Nat→TS F→Option R)→Option R}(hx:bk P own W0 n nv x f)(hy:bk P own W0 n nv y k) :
  bk P own W0 n nv (.cond (.tmp t) x y) (λs R K=>match look s.E t with
  | some (.c (.im (.b b)))=>cond b (f s K) (k s K)
  | _=>none):=by
 intro s R K r h g a w hg;dsimp only at h;split at h
 ·rename_i b hb;refine wp_cond_split (pX (hg.env t _ hb)) (λe=>?_) (λe=>?_)
  ·subst e;exact hx s K r h g a w hg
  ·subst e;exact hy s K r h g a w hg
 ·cases h
theorem An{b:Bool}{x y:Code}{f k:TS F→{R:Type}→(Nat→TS F→Option R)→Option R}(hx:bk P own W0 n nv x f)(hy:bk P own W0 n nv y k) :
  bk P own W0 n nv (.cond (.const (.bool b)) x y) (λs R K=>cond b (f s K) (k s K)):=by
 intro s R K r h g a w hg;refine wp_cond_split (t:=b) rfl (λe=>?_) (λe=>?_)
 ·subst e;exact hx s K r h g a w hg
 ·subst e;exact hy s K r h g a w hg
theorem AS{i:Nat}{x:Code}{f:TS F→{R:Type}→(Nat→TS F→Option R)→Option R}(hx:bk P own W0 n nv x f) :
  bk P own W0 n nv (.block i x) (λs R K=>f s λe s'=>if Nat.beq e (i+2)then K 0 s' else K e s'):=by
 intro s R K r h g a w hg;refine wp_block (wp_mono (hx s _ r h g a w hg) ?_);rintro e a' w' ⟨j,s',g',rfl,h2,h3,h4⟩
 match j,h2 with
 | 0,h2=>exact⟨0,s',g',rfl,h2,h3,h4⟩
 | 1,h2=>exact⟨1,s',g',rfl,h2,h3,h4⟩
 | j+2,h2=>
  simp only at h2;show Exit.inBlock i _ (.exit j) a' w';simp only[Exit.inBlock];by_cases hij:j=i
  ·subst hij;rw[bC,if_pos rfl]at h2;rw[if_pos rfl];exact⟨0,s',g',rfl,h2,h3,h4⟩
  ·rw[ao (by omega)]at h2
   rw[if_neg hij];exact⟨j+2,s',g',rfl,h2,h3,h4⟩
theorem Au{x:Code}{f:TS F→{R:Type}→(Nat→TS F→Option R)→Option R}(hx:bk P own W0 n nv x f) :
  bk P own W0 n nv (.scope x) (λs R K=>f s K):=by
 intro s R K r h g a w hg;refine wp_scope_straight (wp_mono (hx s _ r h g a w hg) ?_);rintro e a' w' ⟨j,s',g',rfl,h2,h3,h4⟩
 match j,h2 with
 | 0,h2=>exact⟨0,s',g',rfl,h2,h3,h4⟩
 | 1,h2=>exact⟨1,s',g',rfl,h2,h3,h4⟩
 | j+2,h2=>exact⟨j+2,s',g',rfl,h2,h3,h4⟩
theorem yq(hT:Mc P T)(hΓ : ML P Γ)(NM:P.follows .mixedOrders=true){id:Nat}{ops:Array Oper}{draw:Bool}{kp:List Nat} :
  bk P own W0 n nv (.region id ops draw) (λs R K=>Tn T Γ nv n kp ops.toList draw s (K 0)):=by
 intro s R K r h g a w hg;refine KU hT hΓ NM h hg ?_;intro s' g' a' w' h1 h2 h3;exact⟨0,s',g',rfl,h1,h2,h3⟩
theorem EY{F:Fam}(Γ : Ctx F)(f:Nat):look (mark Γ) f=look Γ f:=by
 cases Γ with
 | nil=>rfl
 | cons a l=>
  simp only[mark,look]
  split<;>first | rfl | simp_all
theorem ua(hΓ : ML P Γ){b:Bool}:ML P (cond b (mark Γ) Γ):=by
 cases b with
 | false=>exact hΓ
 | true=>exactλf sp h=>hΓ f sp (by rw[← EY];exact h)
theorem Bk{s:TS F}{g:G}{a:Act}{w:World}(hg:Good P own W0 n s.st g a w)(id:Nat):(∃g',Good P own W0 n (wD id s).st g' a w)∧Fr nv s (wD id s):=by
 unfold wD;split
 ·rename_i t l hB
  obtain⟨g',k1,k2,k3⟩:=F1 (c:=s.c) hg.mem hB (hg.dom s.c (by simp only[TS.st,bX];simp))
  refine⟨⟨g',hg.Ue,hg.Tj,λx d h=>(hg.env x d h).le k2.le,?_,λy hy=>?_,λb hb=>k2.le.Li b (hg.Tw b hb),hg.NW.stp hg.mem k2,λy p hp=>k2.le.ids _ _ (hg.Sn y p hp)⟩,?_⟩
  ·have e:(⟨s.E,R9 s.M [(id,none),(s.c,some (.Nc t l)),(id,some (.Pq s.c l.length))],s.c+1,s.dE,id::s.c::s.dM⟩:TS F).st.m=Ml s.st.m [(id,none),(s.c,some (.Nc t l)),(id,some (.Pq s.c l.length))]:=by
    funext x
    simp only[TS.st];rw[iV]
   rw[e];exact k1
  ·have hy:Nat.blt y (s.c+1)=false:=hy;rw[bX]at hy
   have hy':¬ y<s.c+1:=by simpa using hy
   rw[k3 y (by omega)]
   exact hg.dom y (by simp only[TS.st,bX];simp;omega)
  ·refine⟨λ_ _ _=>rfl,λy hy hn=>?_,QfU _,λ_ h=>h,λx hx=>by simp[hx]⟩
   show look (R9 s.M _) y=_;rw[iV,dT];simp only[Nz,not_or]at hn;simp only[M9,Oi,Nz,QeT,or_false,not_or];exact⟨hn.1,hn.2.1,hn.1⟩
 ·exact⟨⟨g,hg⟩,.refl _ _⟩
theorem DS{s:TS F}{g:G}{a:Act}{w:World}(hg:Good P own W0 n s.st g a w)(x gs:Nat):Good P own W0 n (Xk x gs s).st g a w∧Fr nv s (Xk x gs s):=by
 unfold Xk;split
 ·rename_i fn y id hE;have hr:=hg.env x _ hE
  have hid:∃b c,g.ids id=some (some (b,c)):=by
   generalize a.tmps.getD x undef=v at hr
   cases hr with
   | RY h1 h2 h3 h4=>
    rename_i us
    match us,h2 with
    | [u0,u1],_=>obtain⟨b,c,q,_⟩:=bW (h4 1 _ u1 rfl rfl);exact⟨b,c,q⟩
  obtain⟨b,c,hid⟩:=hid;refine⟨⟨hg.Ue,hg.Tj,λz d h=>?_,hg.mem,hg.dom,hg.Tw,hg.NW,hg.Sn⟩,λz hz hn=>?_,λ_ _ _=>rfl,MN _,λz hz=>Uh _ hz,λ_ h=>h⟩
  ·have h:look ((gs,.gh id)::s.E) z=some d:=h;simp only[look]at h;split at h
   ·cases h;exact .gh hid
   ·exact hg.env z d h
  ·show look ((gs,.gh id)::s.E) z=_;simp only[look];split
   ·rename_i e;have:gs=z:=Rh e;subst this;exact absurd ZT hn
   ·rfl
 ·exact⟨hg,.refl _ _⟩
theorem m7:∀(kp:List Nat){s:TS F}{g:G}{a:Act} {w:World},Good P own W0 n s.st g a w→(∃g',Good P own W0 n (np kp s).st g' a w)∧Fr nv s (np kp s)
 | [],s,g,a,w,hg=>⟨⟨g,hg⟩,.refl _ _⟩
 | x::r,s,g,a,w,hg=>by
  simp only[np]
  cases Nat.ble 10000 x with
  | false=>exact m7 r hg
  | true=>
   cases Nat.ble 1000000 x with
   | true=>obtain⟨h1,h2⟩:=DS (nv:=nv) hg (x / 1000 - 1000) (x % 1000);obtain⟨h3,h4⟩:=m7 r h1;exact⟨h3,h2.trans h4⟩
   | false=>obtain⟨⟨g1,h1⟩,h2⟩:=Bk (nv:=nv) hg (x - 10000);obtain⟨h3,h4⟩:=m7 r h1;exact⟨h3,h2.trans h4⟩
theorem FL{c:Code}{f:TS F→{R:Type}→(Nat→TS F→Option R)→Option R}(hf:bk P own W0 n nv c f)(kp:List Nat):bk P own W0 n nv c (λs R K=>f (np kp s) K):=by intro s R K r h g a w hg;obtain⟨⟨g',h1⟩,h2⟩:=m7 (nv:=nv) kp hg;exact wp_mono (hf _ K r h g' a w h1) (λe a' w' hq=>hq.back h2)
theorem OJ(hT:Mc P T)(hΓ : ML P Γ)(NM:P.follows .mixedOrders=true):∀(c:Code),bk P own W0 n nv c (MS T Γ nv n c)
 | .skip=>λs R K r h g a w hg=>wp_skip ⟨0,s,g,rfl,by simpa[MS]using h,.refl _ _,hg⟩
 | .exit i=>λs R K r h g a w hg=>wp_exit ⟨i+2,s,g,rfl,by simpa[MS]using h,.refl _ _,hg⟩
 | .ret=>λs R K r h g a w hg=>wp_ret ⟨1,s,g,rfl,by simpa[MS]using h,.refl _ _,hg⟩
 | .region id ops draw=>λs R K r h g a w hg=>yq (id:=id) (kp:=[]) hT hΓ NM s K r (by simp only[MS]at h;exact h) g a w hg
 | .seq x y=>λs R K r h g a w hg=>ED (OJ hT hΓ NM x) (OJ hT hΓ NM y) s K r (by simp only[MS]at h;exact h) g a w hg
 | .cond (.tmp t) x y=>λs R K r h g a w hg=>CA (OJ hT hΓ NM x) (OJ hT hΓ NM y) s K r (by simp only[MS]at h;exact h) g a w hg
 | .cond (.const v) x y=>by
  cases v with
  | bool b=>exactλs R K r h g a w hg=>An (OJ hT hΓ NM x) (OJ hT hΓ NM y) s K r (by simp only[MS]at h;exact h) g a w hg
  | _=>exactλs R K r h g a w hg=>by simp[MS]at h
 | .cond (.global _) x y=>λs R K r h g a w hg=>by simp[MS]at h
 | .cond (.func _) x y=>λs R K r h g a w hg=>by simp[MS]at h
 | .block i x=>λs R K r h g a w hg=>AS (OJ hT hΓ NM x) s K r (by simp only[MS]at h;exact h) g a w hg
 | .loop x=>λs R K r h g a w hg=>by simp[MS]at h
 | .goto x=>λs R K r h g a w hg=>by simp[MS]at h
 | .label x=>λs R K r h g a w hg=>wp_label ⟨0,s,g,rfl,by simpa[MS]using h,.refl _ _,hg⟩
 | .rangeFunc _ _ _ _=>λs R K r h g a w hg=>by simp[MS]at h
 | .refuse _=>λs R K r h g a w hg=>by simp[MS]at h
 | .scope x=>λs R K r h g a w hg=>Au (OJ hT hΓ NM x) s K r (by simp only[MS]at h;exact h) g a w hg
theorem zH{dr kill:List Nat}{c0:Nat}{ks:Ks}{s0 z:TS F}{v:TLS F ks}(h:Om Γ s0 dr c0 kill ks z=some v) :
  (∀x∈z.dE,x∈dr)∧SK c0 kill z.dM=true∧∃p,TV Γ s0 z ks=some p∧p.x=v∧d9 (Mq p.os)=true∧RU (Mq p.os) p.fz=true∧SK c0 kill (Mq p.os)=true∧SK c0 kill p.fz=true:=by
 unfold Om at h;obtain⟨h1,h⟩:=aQ h;simp only[Np]at h1;split at h
 ·cases h
 ·rename_i p hp;obtain⟨h2,h⟩:=aQ h;simp only[Np,and_assoc]at h2;cases h;exact⟨λx hx=>aN.1 (Td.1 h1.1 x hx),h1.2,p,hp,rfl,h2⟩
theorem ut{dr kill:List Nat}{c0:Nat}{s0:TS F}:∀{xs:List (Nat×Ks)} {e:Nat} {z:TS F} {v:ExT F xs},TP Γ s0 dr c0 kill xs e z=some v→
  ∃ks x,Om Γ s0 dr c0 kill ks z=some x∧(∀y∈keysOf ks,y∈PV xs)∧∀{R:Type}(K:(e:Nat)→(ks:Ks)→TLS F ks→Option R),Ti K xs v=K e ks x
 | [],e,z,v,h=>by cases h
 | [x],e,z,v,h=>by
  simp only[TP]at h;obtain⟨h1,h⟩:=aQ h;have:=Rh h1;subst this;rw[h1]at h
  exact⟨x.2,v,h,λy hy=>by simpa[PV]using hy,λK=>rfl⟩
 | x::y::r,e,z,v,h=>by
  simp only[TP]at h;split at h
  ·rename_i hb;have:=Rh hb;subst this;split at h
   ·rename_i v' hv';cases h
    exact⟨x.2,v',hv',λy hy=>by simp[PV,hy],λK=>rfl⟩
   ·cases h
  ·split at h
   ·rename_i v' hv';cases h;obtain⟨ks,x',h1,h2,h3⟩:=ut hv'
    exact⟨ks,x',h1,λy hy=>by have:=h2 y hy;simp only[PV,QfX,OB]at this ⊢;exact .inr this,λK=>h3 K⟩
   ·cases h
theorem pZ(hΓ : ML P Γ){s z:TS F}{gs g:G}{as a:Act}{ws w W1:World}(hs:Good P own W1 n s.st gs as ws)(hz:Good P own W0 n z.st g a w){dr kill:List Nat}
  (hE:∀x,x<nv→x∉dr→x∉z.dE→look z.E x=look s.E x) (hM:∀id,id<s.c→id∉kill→id∉z.dM→look z.M id=look s.M id) {ks:Ks} (hk:∀y∈keysOf ks,y∈dr) {v:TLS F ks} (h:Om Γ s dr s.c kill ks z=some v) :
  (∃g',Good P own W0 n (merge nv dr kill s ks v).st g' a w)∧Fr nv s (merge nv dr kill s ks v)∧Fr nv (clean s) (merge nv dr kill (clean s) ks v):=by
 obtain⟨h1,h2,p,h3,rfl,h4,h5,h6,h7⟩:=zH h
 obtain⟨k1,k2,_⟩:=wx hΓ hs hz (dr:=dr) (kill:=kill) (λx hx hn=>hE x hx hn (λhd=>hn (h1 x hd))) (λid hi hn=>hM id hi hn (λhd=>by
  rcases pm h2 hd with h | h
  ·omega
  ·exact hn h)) h3 h4 h5 h6 h7
 exact⟨k1,k2 hk⟩
theorem wH(hΓ : ML P Γ){s z:TS F}{gs g:G}{as a:Act}{ws w W1:World}(hs:Good P own W1 n s.st gs as ws)(hz:Good P own W0 n z.st g a w){dr kill:List Nat}
  (hE:∀x,x<nv→x∉dr→x∉z.dE→look z.E x=look s.E x) (hM:∀id,id<s.c→id∉kill→id∉z.dM→look z.M id=look s.M id) {ks:Ks} {v:TLS F ks} (h:Om Γ s dr s.c kill ks z=some v) :
  (∃g',Good P own W0 n (merge nv dr kill s ks v).st g' a w)∧(∀q∈(M6 s.E ks v s.c).2.1,s.c≤q.1∨q.1∈kill)∧(∀y,y∉keysOf ks→look (M6 s.E ks v s.c).1 y=none)∧s.c≤(M6 s.E ks v s.c).2.2:=by
 obtain⟨h1,h2,p,h3,rfl,h4,h5,h6,h7⟩:=zH h
 obtain⟨k1,k2,k3,k4,k5⟩:=wx hΓ hs hz (dr:=dr) (kill:=kill) (λx hx hn=>hE x hx hn (λhd=>hn (h1 x hd))) (λid hi hn=>hM id hi hn (λhd=>by
  rcases pm h2 hd with h | h
  ·omega
  ·exact hn h)) h3 h4 h5 h6 h7
 exact⟨k1,k3,k4,k5⟩
theorem Jk(hΓ : ML P Γ){c:Code}{f:TS F→{R:Type}→(Nat→TS F→Option R)→Option R}(hf:bk P own W0 n nv c f){dr:List Nat}{xs:List (Nat×Ks)}(hx:∀y∈PV xs,y∈dr) :
  bk P own W0 n nv c (λs R K=>(f (clean s) λe s'=>TP Γ s dr s.c (aS s dr) xs e s').bind λv=>Ti (λe ks x=>K e (merge nv dr (aS s dr) s ks x)) xs v):=by
 intro s R K r h g a w hg;rw[ZV]at h;obtain⟨v,hv,he⟩:=h;refine wp_mono (hf (clean s) _ v hv g a w hg) ?_;rintro e a' w' ⟨i,s',g',rfl,h2,h3,h4⟩;obtain⟨ks,x,hp,hsub,hel⟩:=ut h2;rw[hel]at he;obtain⟨⟨g2,k1⟩,k2,_⟩:=pZ hΓ hg h4 (λx hx _ hn=>h3.e x hx hn) (λid hi _ hn=>h3.m id hi hn) (λy hy=>hx y (hsub y hy)) hp;exact⟨i,_,g2,rfl,he,k2,k1⟩
def LW(P:Program)(c:Code)(Q:Exit→Act→World→Prop)(a:Act)(w:World):Prop:=
 ∀b tl cs,∃e a' w',Q e a' w'∧Arrives P (lone (b.at a (.code c::.inLoop c::tl)) cs w) b tl cs e a' w'
theorem LW.loop{c:Code}{Q:Exit→Act→World→Prop}{a:Act}{w:World}(h:LW P c Q a w):(Code.loop c).wp P Q a w:=by intro b tl cs;obtain⟨e,a',w',hq,harr⟩:=h b tl cs;exact⟨e,a',w',hq,.of_steps (.one step_loop) harr⟩
theorem LW.mono{c:Code}{Q Q':Exit→Act→World→Prop}{a:Act}{w:World}(h:LW P c Q a w)(hq:∀e a w,Q e a w→Q' e a w):LW P c Q' a w:=by intro b tl cs;obtain⟨e,a',w',h1,harr⟩:=h b tl cs;exact⟨e,a',w',hq _ _ _ h1,harr⟩
theorem LW.round{c:Code}{Q:Exit→Act→World→Prop}{a:Act}{w:World}(h:c.wp P (Exit.then (λa' w'=>LW P c Q a' w') Q) a w):LW P c Q a w:=by
 intro b tl cs;obtain⟨e,a₁,w₁,hq,harr⟩:=h b (.inLoop c::tl) cs
 cases e with
 | normal=>obtain⟨e₂,a₂,w₂,hq₂,harr₂⟩:=hq b tl cs;exact⟨e₂,a₂,w₂,hq₂,.of_steps (Steps.trans harr (.one step_inLoop)) harr₂⟩
 | exit id=>exact⟨_,a₁,w₁,hq,.pass (x:=.inLoop c) rfl (λ_ _=>.inl (by simp)) harr⟩
 | goto l=>exact⟨_,a₁,w₁,hq,.pass (x:=.inLoop c) rfl (λ_ _=>.inl (by simp)) harr⟩
 | ret=>exact⟨_,a₁,w₁,hq,.pass (x:=.inLoop c) rfl (λ_ _=>.inl (by simp)) harr⟩
 | panic ch=>exact⟨_,a₁,w₁,hq,.pass (x:=.inLoop c) rfl (λ_ _=>.inl (by simp)) harr⟩
 | outgrown=>exact⟨_,a₁,w₁,hq,.pass (x:=.inLoop c) rfl (λ_ _=>.inl (by simp)) harr⟩
theorem AB{c:Code}{Q:Exit→Act→World→Prop}(I:Nat→Act→World→Prop)(round:∀k a w,I k a w→c.wp P (Exit.then (λa' w'=>∃j,j<k∧I j a' w') Q) a w){k:Nat}{a:Act}{w:World}(h₀ : I k a w):LW P c Q a w:=by
 intro b tl cs
 have key:∀n a w,I n a w→∃e a' w',Q e a' w'∧Arrives P (lone (b.at a (.code c::.inLoop c::tl)) cs w) b tl cs e a' w':=by
  intro n
  induction n using Nat.strongRecOn with
  | _ n ih=>
   intro a w hI;obtain⟨e,a₁,w₁,hq,harr⟩:=round n a w hI b (.inLoop c::tl) cs
   cases e with
   | normal=>obtain⟨j,hlt,hI₁⟩:=hq;obtain⟨e₂,a₂,w₂,hq₂,harr₂⟩:=ih j hlt a₁ w₁ hI₁;exact⟨e₂,a₂,w₂,hq₂,.of_steps (Steps.trans harr (.one step_inLoop)) harr₂⟩
   | exit id=>exact⟨_,a₁,w₁,hq,.pass (x:=.inLoop c) rfl (λ_ _=>.inl (by simp)) harr⟩
   | goto l=>exact⟨_,a₁,w₁,hq,.pass (x:=.inLoop c) rfl (λ_ _=>.inl (by simp)) harr⟩
   | ret=>exact⟨_,a₁,w₁,hq,.pass (x:=.inLoop c) rfl (λ_ _=>.inl (by simp)) harr⟩
   | panic ch=>exact⟨_,a₁,w₁,hq,.pass (x:=.inLoop c) rfl (λ_ _=>.inl (by simp)) harr⟩
   | outgrown=>exact⟨_,a₁,w₁,hq,.pass (x:=.inLoop c) rfl (λ_ _=>.inl (by simp)) harr⟩
 exact key k a w h₀
theorem sG{c:Code}{Q:Exit→Act→World→Prop}(I:Nat→Act→World→Prop)(round:∀k a w,I k a w→c.wp P (Exit.then (λa' w'=>∃j,j<k∧I j a' w') Q) a w){k:Nat}{a:Act}{w:World}(h₀ : I k a w):(Code.loop c).wp P Q a w:=
 LW.loop (AB I round h₀)
def zR(P:Program)(own:Ow)(W0:World)(n nv:Nat)(c:Code)(f:TS F→{R:Type}→(Nat→TS F→Option R)→Option R):Prop:=
 ∀(s:TS F){R:Type}(K:Nat→TS F→Option R)(r:R),f s K=some r→∀(g:G)(a:Act)(w:World),Good P own W0 n s.st g a w→LW P c (YE P own W0 n nv s K r) a w
theorem zw(hΓ : ML P Γ){c:Code}{f:TS F→{R:Type}→(Nat→TS F→Option R)→Option R}(hf:bk P own W0 n nv c f){dr:List Nat}{ks:Ks}{xs:List (Nat×Ks)}(hx:∀y∈PV xs,y∈dr)(hk:∀y∈keysOf ks,y∈dr) :
  zR P own W0 n nv c (λs R K=>match Om Γ s dr s.c (aS s dr) ks (clean s)with
  | none=>none
  | some t0=>(loop (λt:TLS F ks=>f (clean (merge nv dr (aS s dr) s ks t)) λe s'=>match e with
    | 0=>(match Om Γ s dr s.c (aS s dr) ks s' with | some t'=>some (Sum.inl t') | none=>none)
    | e=>(match TP Γ s dr s.c (aS s dr) xs e s' with | some v=>some (Sum.inr v) | none=>none)) t0).bind λv=>Ti (λe ks x=>K e (merge nv dr (aS s dr) s ks x)) xs v):=by
 intro s R K r h g a w hg;dsimp only at h;split at h
 ·cases h
 ·rename_i t0 ht0;rw[ZV]at h;obtain⟨v,hv,he⟩:=h
  generalize hstep:(λt:TLS F ks=>f (clean (merge nv dr (aS s dr) s ks t)) λe s'=>match e with
    | 0=>(match Om Γ s dr s.c (aS s dr) ks s' with | some t'=>some (Sum.inl t') | none=>none)
    | e=>(match TP Γ s dr s.c (aS s dr) xs e s' with | some v=>some (Sum.inr v) | none=>none))=step at hv
  obtain⟨m,hm⟩:=qJ hv;obtain⟨⟨g0,b1⟩,_,b3⟩:=pZ hΓ hg (z:=clean s) hg (λ_ _ _ _=>rfl) (λ_ _ _ _=>rfl) hk ht0;refine AB (λm a w=>∃t,iter step m t=some v∧(∃g,Good P own W0 n (merge nv dr (aS s dr) s ks t).st g a w)∧Fr nv (clean s) (merge nv dr (aS s dr) (clean s) ks t)) ?_ (k:=m) ⟨t0,hm,⟨g0,b1⟩,b3⟩;rintro m a w ⟨t,hit,⟨g1,hg1⟩,hfr⟩
  cases m with
  | zero=>cases hit
  | succ m=>
   simp only[iter]at hit
   have hend:∀{z:TS F}{g':G}{a':Act}{w':World},Fr nv (clean (merge nv dr (aS s dr) s ks t)) z→Good P own W0 n z.st g' a' w'→∀{ks':Ks},(∀y∈keysOf ks',y∈dr)→∀{x:TLS F ks'},Om Γ s dr s.c (aS s dr) ks' z=some x→
     (∃g',Good P own W0 n (merge nv dr (aS s dr) s ks' x).st g' a' w')∧Fr nv s (merge nv dr (aS s dr) s ks' x)∧Fr nv (clean s) (merge nv dr (aS s dr) (clean s) ks' x):=by
    intro z g' a' w' hz hgz ks' hk' x hp;refine pZ hΓ hg hgz (λy hy hn hd=>?_) (λid hi hn hd=>?_) hk' hp
    ·exact(hz.e y hy hd).trans (hfr.e y hy (by simpa[merge,clean]using hn))
    ·exact(hz.m id (UG hi hfr.c) hd).trans (hfr.m id hi (by simpa[merge,clean]using hn))
   cases hst:step t with
   | none=>rw[hst]at hit;cases hit
   | some q=>
    have hst':=hst;rw[← hstep]at hst';refine wp_mono (hf (clean (merge nv dr (aS s dr) s ks t)) _ q hst' g1 a w hg1) ?_;rintro e a' w' ⟨i,z,g',rfl,h2,h3,h4⟩;rw[hst]at hit
    match i,h2 with
    | 0,h2=>
     simp only at h2;split at h2
     ·rename_i t' ht';cases h2;obtain⟨k1,_,k3⟩:=hend h3 h4 hk ht';exact⟨m,QhE m,t',hit,k1,k3⟩
     ·cases h2
    | i+1,h2=>
     simp only at h2;split at h2
     ·rename_i v' hv';cases h2;cases hit;obtain⟨ks',x,hp,hsub,hel⟩:=ut hv';rw[hel]at he;obtain⟨⟨g2,k1⟩,k2,_⟩:=hend h3 h4 (λy hy=>hx y (hsub y hy)) hp;have:YE P own W0 n nv s K r (exC (i+1)) a' w':=⟨i+1,_,g2,rfl,he,k2,k1⟩
      cases i with
      | zero=>exact this
      | succ i=>exact this
     ·cases h2
theorem JK(hΓ : ML P Γ){c:Code}{f:TS F→{R:Type}→(Nat→TS F→Option R)→Option R}(hf:bk P own W0 n nv c f){dr:List Nat}{ks:Ks}{xs:List (Nat×Ks)}(hx:∀y∈PV xs,y∈dr)(hk:∀y∈keysOf ks,y∈dr) :
  bk P own W0 n nv (.loop c) (λs R K=>match Om Γ s dr s.c (aS s dr) ks (clean s)with
  | none=>none
  | some t0=>(loop (λt:TLS F ks=>f (clean (merge nv dr (aS s dr) s ks t)) λe s'=>match e with
    | 0=>(match Om Γ s dr s.c (aS s dr) ks s' with | some t'=>some (Sum.inl t') | none=>none)
    | e=>(match TP Γ s dr s.c (aS s dr) xs e s' with | some v=>some (Sum.inr v) | none=>none)) t0).bind λv=>Ti (λe ks x=>K e (merge nv dr (aS s dr) s ks x)) xs v):=λs R K r h g a w hg=>LW.loop (zw hΓ hf hx hk s K r h g a w hg)
theorem H2{c:Code}{f:TS F→{R:Type}→(Nat→TS F→Option R)→Option R}(hf:bk P own W0 n nv c f){x ix ex:Nat}{dr:List Nat} :
  bk P own W0 n nv (.loop c) (λs R K=>match look s.E x with
  | some (.c (.Nn id))=>match look s.M id with
   | some (.row t l0)=>match look s.E ix with
    | some (.c (.im (.i .i64 n0)))=>if Nat.blt id s.c&&Nat.blt 0 ex then
      (loop (λq:List (ET F t)×Nat×Int=>f (clean (OI nv s id ix dr (.NU t q.1 q.2.1) q.1.length q.2.2)) λe s'=>match e with
       | 0=>(match VG s.c id ix dr t s' with | some q'=>some (Sum.inl q') | none=>none)
       | e=>if Nat.beq e ex then(match VG s.c id ix dr t s' with | some q'=>some (Sum.inr q') | none=>none)else none) (l0,0,n0)).bind λv=>
        cond (Nat.ble v.1.length v.2.1) (K ex (OI nv s id ix dr (.Nc t v.1) v.1.length v.2.2)) none
     else none
    | _=>none
   | _=>none
  | _=>none):=by
 intro s R K r h g a w hg;dsimp only at h;split at h
 ·rename_i id hx;split at h
  ·rename_i t l0 hB;split at h
   ·rename_i n0 hi;obtain⟨hc,h⟩:=aQ h;simp only[Np,bX,decide_eq_true_eq]at hc;rw[ZV]at h;obtain⟨v,hv,he⟩:=h
    generalize hstep:(λq:List (ET F t)×Nat×Int=>f (clean (OI nv s id ix dr (.NU t q.1 q.2.1) q.1.length q.2.2)) λe s'=>match e with
       | 0=>(match VG s.c id ix dr t s' with | some q'=>some (Sum.inl q') | none=>none)
       | e=>if Nat.beq e ex then(match VG s.c id ix dr t s' with | some q'=>some (Sum.inr q') | none=>none)else none)=step at hv
    obtain⟨m,hm⟩:=qJ hv
    have acg:∀(B:Mg F)(len:Nat)(nn:Int) y,y<nv→y∉ix::dr→look (OI nv s id ix dr B len nn).E y=look s.E y:=by
     intro B len nn y hy hn;simp only[OI]
     rw[az,if_neg (by rw[ao (λe=>hn (by simp[e]))];simp),aK (λy=>Nat.blt y nv&&!(Mf y (ix::dr)))]
     rw[if_pos];simp only[Np,bX,decide_eq_true_eq,U3];refine⟨hy,?_⟩
     cases hmm:Mf y (ix::dr)with
     | false=>rfl
     | true=>exact absurd (aN.1 hmm) hn
    have acf:∀(B:Mg F)(len:Nat)(nn:Int) y,y<s.c→y≠id→look (OI nv s id ix dr B len nn).M y=look s.M y:=by
     intro B len nn y hy hn;simp only[OI]
     rw[az,if_neg (by rw[ao (λe=>hn e.symm)];simp),az,if_neg (by rw[ao (by omega)];simp),aK (λy=>!(Nat.beq id y)),if_pos]
     rw[ao (λe=>hn e.symm)];rfl
    have hstart:∃g0,Good P own W0 n (OI nv s id ix dr (.NU t l0 0) l0.length n0).st g0 a w:=by
     obtain⟨g1,k1,k2,k3⟩:=Hk (c:=s.c) hg.mem hB (hg.dom s.c (by simp only[TS.st,bX];simp))
     have hz:Good P own W0 n (⟨s.E,R9 s.M [(id,none),(s.c,some (.NU t l0 0)),(id,some (.Pq s.c l0.length))],s.c+1,s.dE,s.dM⟩:TS F).st g1 a w:=by
      refine⟨hg.Ue,hg.Tj,λx d h=>(hg.env x d h).le k2.le,?_,λy hy=>?_,λb hb=>k2.le.Li b (hg.Tw b hb),hg.NW.stp hg.mem k2,λy p hp=>k2.le.ids _ _ (hg.Sn y p hp)⟩
      ·have e:(⟨s.E,R9 s.M [(id,none),(s.c,some (.NU t l0 0)),(id,some (.Pq s.c l0.length))],s.c+1,s.dE,s.dM⟩:TS F).st.m=Ml s.st.m [(id,none),(s.c,some (.NU t l0 0)),(id,some (.Pq s.c l0.length))]:=by
        funext x
        simp only[TS.st];rw[iV]
       rw[e];exact k1
      ·have hy:Nat.blt y (s.c+1)=false:=hy;rw[bX]at hy
       have hy':¬ y<s.c+1:=by simpa using hy
       rw[k3 y (by omega)]
       exact hg.dom y (by simp only[TS.st,bX];simp;omega)
     have hMs:look (R9 s.M [(id,none),(s.c,some (.NU t l0 0)),(id,some (.Pq s.c l0.length))]) s.c=some (.NU t l0 0):=by
      rw[iV];simp only[Ml]
      rw[if_neg (by rw[ao (by omega)];simp),if_pos (Yz _)]
     have hMi:look (R9 s.M [(id,none),(s.c,some (.NU t l0 0)),(id,some (.Pq s.c l0.length))]) id=some (.Pq s.c l0.length):=by rw[iV];simp only[Ml];rw[if_pos (Yz _)]
     refine sM (kk:=s.c) (B:=.NU t l0 0) hg hz hc.1 (λ_ _ _=>rfl) hi (λy hy hn=>?_) hMs rfl (.inr (MN _)) (hz.mem.ok id _ hMi) (λg2 e1 e2=>?_) rfl
     ·show look (R9 s.M _) y=_;rw[iV,dT];simp only[M9,Oi,Nz,QeT,or_false,not_or]
      exact⟨hn,by omega,hn⟩
     ·obtain⟨pl,p1,p2⟩:=hz.mem.ok s.c _ hMs
      exact⟨pl,by rw[e1];exact p1,by rw[e2];exact p2⟩
    have ZG:∀{z:TS F}{g':G}{a':Act}{w':World} {q0 q:List (ET F t)×Nat×Int},Fr nv (clean (OI nv s id ix dr (.NU t q0.1 q0.2.1) q0.1.length q0.2.2)) z→Good P own W0 n z.st g' a' w'→VG s.c id ix dr t z=some q→
      (∃g2,Good P own W0 n (OI nv s id ix dr (.NU t q.1 q.2.1) q.1.length q.2.2).st g2 a' w')∧(q.1.length≤q.2.1→∃g2,Good P own W0 n (OI nv s id ix dr (.Nc t q.1) q.1.length q.2.2).st g2 a' w'):=by
     intro z g' a' w' q0 q hfr hz hq;unfold VG at hq;obtain⟨hq1,hq⟩:=aQ hq;simp only[Np,Td]at hq1;split at hq
     ·rename_i nn hnn;split at hq
      ·rename_i k len ads;split at hq
       ·rename_i t' l j VZ;split at hq
        ·rename_i V_;subst V_;obtain⟨hkk,hq⟩:=aQ hq;have hkk:=U4 hkk;cases hq
         have hS:N9 l.length (g'.ids id) (g'.ids (Tp (look z.M) 8 k)):=by
          have h1:N9 len (g'.ids id) (g'.ids k):=hz.mem.ok id _ ads
          have h2:N9 len (g'.ids id) (g'.ids (Tp (look z.M) 8 k)):=by
           rcases tR hz.mem (λ_ _ h=>h) 8 k with e | ⟨_,e⟩
           ·have e':Tp (look z.M) 8 k=k:=e;rw[e'];exact h1
           ·exact h1.trans e
          exact h2.len (hz.mem.ok _ _ VZ)
         have hE:∀y,y<nv→y∉ix::dr→look z.E y=look s.E y:=by intro y hy hn;rw[hfr.e y hy (λhd=>hn (aN.1 (hq1.1 y hd)))];exact acg (.NU _ q0.1 q0.2.1) q0.1.length q0.2.2 y hy hn
         have hM:∀y,y<s.c→y≠id→look z.M y=look s.M y:=by
          intro y hy hn
          rw[hfr.m y (by show y<s.c+1;omega) (λhd=>by
           have:=hq1.2 y hd;rw[UC]at this;rcases this with this | this
           ·have:=U4 this;omega
           ·exact hn (Rh this))]
          exact acf (.NU _ q0.1 q0.2.1) q0.1.length q0.2.2 y hy hn
         refine⟨sM (kk:=Tp (look z.M) 8 k) hg hz hc.1 hE hnn hM VZ rfl (.inr hkk) hS (λg2 e1 e2=>?_) rfl,λhj=>sM (kk:=Tp (look z.M) 8 k) hg hz hc.1 hE hnn hM VZ rfl (.inr hkk) hS (λg2 e1 e2=>?_) rfl⟩
         ·obtain⟨pl,p1,p2⟩:=hz.mem.ok _ _ VZ
          exact⟨pl,by rw[e1];exact p1,by rw[e2];exact p2⟩
         ·obtain⟨pl,p1,p2⟩:=Ej (hz.mem.ok _ _ VZ) hj
          exact⟨pl,by rw[e1];exact p1,by rw[e2];exact p2⟩
        ·cases hq
       ·cases hq
      ·cases hq
     ·cases hq
    refine sG (λm a w=>∃q,iter step m q=some v∧∃g,Good P own W0 n (OI nv s id ix dr (.NU t q.1 q.2.1) q.1.length q.2.2).st g a w) ?_ (k:=m) ⟨(l0,0,n0),hm,hstart⟩;rintro m a w ⟨q,hit,g1,hg1⟩
    cases m with
    | zero=>cases hit
    | succ m=>
     simp only[iter]at hit
     cases hst:step q with
     | none=>rw[hst]at hit;cases hit
     | some qq=>
      have hst':=hst;rw[← hstep]at hst';refine wp_mono (hf (clean (OI nv s id ix dr (.NU t q.1 q.2.1) q.1.length q.2.2)) _ qq hst' g1 a w hg1) ?_;rintro e a' w' ⟨i,z,g',rfl,h2,h3,h4⟩;rw[hst]at hit
      match i,h2 with
      | 0,h2=>
       simp only at h2;split at h2
       ·rename_i q' hq';cases h2;exact⟨m,QhE m,q',hit,(ZG h3 h4 hq').1⟩
       ·cases h2
      | i+1,h2=>
       simp only at h2;obtain⟨hie,h2⟩:=aQ h2;have hie:=Rh hie;split at h2
       ·rename_i q' hq';cases h2;cases hit
        cases adp:Nat.ble v.1.length v.2.1 with
        | false=>rw[adp]at he;cases he
        | true=>
         rw[adp]at he;obtain⟨g2,k1⟩:=(ZG h3 h4 hq').2 (U4 adp)
         have:YE P own W0 n nv s K r (exC (i+1)) a' w':=by
          refine⟨i+1,_,g2,rfl,by rw[hie];exact he,⟨λy hy hn=>?_,λy hy hn=>?_,QfU _,λy hy=>?_,λy hy=>?_⟩,k1⟩
          ·exact acg _ _ _ y hy (λhh=>hn (by
            show y∈ix::(dr++s.dE);rcases Nz.1 hh with rfl | hh
            ·simp
            ·simp[hh]))
          ·exact acf _ _ _ y hy (λhh=>hn (by show y∈id::s.dM;simp[hh]))
          ·show y∈ix::(dr++s.dE);simp[hy]
          ·show y∈id::s.dM;simp[hy]
         cases i with
         | zero=>exact this
         | succ i=>exact this
       ·cases h2
   ·cases h
  ·cases h
 ·cases h
theorem KW{c:Code}{f:TS F→{R:Type}→(Nat→TS F→Option R)→Option R}(hf:bk P own W0 n nv c f)(k:Nat):bk P own W0 n nv (.loop c) (unr f k):=by
 intro s R K r h g a w hg;refine LW.loop ?_
 induction k generalizing s g a w with
 | zero=>simp[unr]at h
 | succ k ih=>
  simp only[unr]at h;refine LW.round (wp_mono (hf s _ r h g a w hg) ?_);rintro e a' w' ⟨i,s',g',rfl,h2,h3,h4⟩
  match i,h2 with
  | 0,h2=>exact(ih s' h2 g' a' w' h4).mono (λ_ _ _ hq=>hq.back h3)
  | 1,h2=>exact⟨1,s',g',rfl,h2,h3,h4⟩
  | i+2,h2=>exact⟨i+2,s',g',rfl,h2,h3,h4⟩
theorem J7{c:Code}{f f2:TS F→{R:Type}→(Nat→TS F→Option R)→Option R}(hf:bk P own W0 n nv c f)(hf2:zR P own W0 n nv c f2) :
  bk P own W0 n nv (.loop c) (λs R K=>f s λe s'=>match e with | 0=>f2 s' K | e=>K e s'):=by
 intro s R K r h g a w hg;refine LW.loop (LW.round (wp_mono (hf s _ r h g a w hg) ?_));rintro e a' w' ⟨i,s',g',rfl,h2,h3,h4⟩
 match i,h2 with
 | 0,h2=>exact(hf2 s' K r h2 g' a' w' h4).mono (λ_ _ _ hq=>hq.back h3)
 | 1,h2=>exact⟨1,s',g',rfl,h2,h3,h4⟩
 | i+2,h2=>exact⟨i+2,s',g',rfl,h2,h3,h4⟩
theorem Es{τ α ω : Type}{t0:ω→Option τ}{step:ω→τ→α→Option τ}{l:List α}{r:τ}(h:rng t0 step l=some r):∃st,st=step∧∃t,(∀ob,t0 ob=some t)∧Sj st l l.length [] t r:=⟨step,rfl,GQ h⟩
theorem IC{s s':St F}{g:G}{a a':Act}{w:World}(hg:Good P own W0 n s g a w)(hd:a'.defers = [])(hs:a'.tmps.size=n)(he:∀x d,s'.e x=some d→d = .c .any∨(s.e x=some d∧a'.tmps.getD x undef=a.tmps.getD x undef))
  (hm:∀id B,s'.m id=some B→s.m id=some B) (hu:∀id,s'.u id=false→s.u id=false):Good P own W0 n s' g a' w:=by
 refine⟨hd,hs,λx d h=>?_,hg.mem.sub hm,λid hi=>hg.dom id (hu id hi),hg.Tw,hg.NW,hg.Sn⟩;rcases he x d h with rfl | ⟨h1,h2⟩
 ·exact .c .any
 ·rw[h2];exact hg.env x d h1
theorem AC{s:TS F}{g:G}{a:Act}{w:World}(hg:Good P own W0 n s.st g a w){d:Nat}(hd:d<n){v:Dat F}{x:Value}(hv:Ma P g w v x)(dE dM:List Nat) :
  Good P own W0 n (⟨(d,v)::s.E,s.M,s.c,dE,dM⟩:TS F).st g (a.put (some d) x) w:=by
 refine⟨hg.Ue,by simp[Act.put,hg.Tj],?_,hg.mem,hg.dom,hg.Tw,hg.NW,hg.Sn⟩
 intro y e hy;simp only[TS.st,az]at hy;simp only[Act.put];rw[UH,QcQ];by_cases hdy:d=y
 ·subst hdy;rw[bC]at hy;simp only[if_true,NJ]at hy;subst hy
  rw[if_pos rfl,if_pos (by rw[hg.Tj];exact hd)]
  exact hv
 ·rw[ao hdy]at hy;rw[if_neg hdy,← UH]
  exact hg.env y e (by simpa[TS.st]using hy)
theorem qc{a:Act}{d:Nat}(hd:d<a.tmps.size){x:Value}:(a.put (some d) x).eval (.tmp d)=x:=by simp only[Act.put,Act.eval];rw[UH,QcQ,if_pos rfl,if_pos hd];rfl
theorem qz{MK:Array Oper}{i:Nat}{o:Oper}(hi:MK[i]? = some o)(hg:o.guard=none){v:Value}{w w':World}{a:Act}(hrun:(execOp a.eval o).run P w = .ok (.value v) w'){rest:List Nat}{Q:Exit→Act→World→Prop}(hn:wpOps P MK Q rest (a.put o.dst v) w'):wpOps P MK Q (i::rest) a w:=by
 rw[wpOps_cons];unfold wpOp;rw[hi];dsimp only
 rw[show Region.wanted o (yielded MK a.tmps)=true by simp[Region.wanted,hg],if_pos rfl]
 left;unfold Oper.wp;rw[hrun];exact hn
theorem xU{s s':St F}{g:G}{a:Act}{w:World}(hg:Good P own W0 n s g a w){id b:Nat}{ob Pz:Obj}(hB:s.m id=some (.it ob))(hid:g.ids id=some (some (b,0,0,[])))(he:s'.e=s.e)(hu:s'.u=s.u)
  (hm:∀x B,s'.m x=some B→if x=id then B = .it Pz else s.m x=some B):Good P own W0 n s' g a (Sc w b Pz):=by
 obtain⟨k1,k2⟩:=se (ob:=Pz) (B':=.it Pz) hg.mem hB rfl (G.MH hid) (λhh _=>⟨b,hid,hh⟩)
 refine⟨hg.Ue,hg.Tj,λx d h=>(hg.env x d (by rw[← he];exact h)).le k2.le,k1.sub ?_,λid hi=>hg.dom id (by rw[← hu];exact hi),hg.Tw,hg.NW.stp hg.mem k2,hg.Sn⟩
 intro x B hx;have:=hm x B hx;simp only[Ml];by_cases hxi:x=id
 ·subst hxi;rw[if_pos rfl]at this;rw[bC,if_pos rfl,this]
 ·rw[if_neg hxi]at this;rw[ao (λe=>hxi e.symm)];simpa using this
def Ow.fix(own:Ow)(i1:Nat)(p1:Pl)(i2:Nat)(p2:Pl):Ow:=⟨own.o,own.i,λid=>if id=i1 then some p1 else if id=i2 then some p2 else own.nm id⟩
theorem Good.fix{s:St F}{g:G}{a:Act}{w:World}(hg:Good P own W0 n s g a w){i1 i2:Nat}{p1 p2:Pl}(h1:g.ids i1=some p1)(h2:g.ids i2=some p2):Good P (own.fix i1 p1 i2 p2) W0 n s g a w:=by
 refine⟨hg.Ue,hg.Tj,hg.env,⟨hg.mem.ok,hg.mem.SX,hg.mem.own,hg.mem.Li,hg.mem.io,hg.mem.len⟩,hg.dom,hg.Tw,⟨hg.NW.os,hg.NW.tape,hg.NW.output,hg.NW.size,hg.NW.fresh,hg.NW.block,hg.NW.drawn⟩,?_⟩;intro id p hp;simp only[Ow.fix]at hp;split at hp
 ·rename_i e;cases hp;rw[e];exact h1
 ·split at hp
  ·rename_i e;cases hp;rw[e];exact h2
  ·exact hg.Sn id p hp
theorem Good.afP{s:St F}{g:G}{a:Act}{w:World}{i1 i2:Nat}{p1 p2:Pl}(hg:Good P (own.fix i1 p1 i2 p2) W0 n s g a w)(h1:∀p,own.nm i1=some p→p=p1)(h2:∀p,own.nm i2=some p→p=p2):Good P own W0 n s g a w:=by
 refine⟨hg.Ue,hg.Tj,hg.env,⟨hg.mem.ok,hg.mem.SX,hg.mem.own,hg.mem.Li,hg.mem.io,hg.mem.len⟩,hg.dom,hg.Tw,⟨hg.NW.os,hg.NW.tape,hg.NW.output,hg.NW.size,hg.NW.fresh,hg.NW.block,hg.NW.drawn⟩,?_⟩;intro id p hp;refine hg.Sn id p ?_;simp only[Ow.fix];split
 ·rename_i e;rw[e]at hp;rw[h1 p hp]
 ·split
  ·rename_i e;rw[e]at hp;rw[h2 p hp]
  ·exact hp
theorem BL{PX OZ Ry:List Oper}{c2:Nat}{h:RgS}(hh:wV n PX OZ Ry c2=some h) :
  ∃(oa ob oc od oe:Oper),PX = [oa,ob]∧OZ = [oc,od]∧Ry=oe::h.rest∧(oa.dst=some h.b∧oa.op = .move (.tmp h.a)∧oa.guard=none)∧(ob.dst=some h.it∧ob.op = .range h.ty (.tmp h.b)∧ob.guard=none)∧
   (oc.dst=some h.d1∧oc.op = .next (.tmp h.it) false∧oc.guard=none)∧(od.dst=some c2∧od.op = .extract (.tmp h.d1) 0∧od.guard=none)∧(oe.dst=some h.d3∧oe.op = .entry (.tmp h.it)∧oe.guard=none)∧
   (h.b<n∧h.it<n∧h.d1<n∧c2<n∧h.d3<n)∧h.it≠h.b∧h.it≠h.d1∧h.it≠c2∧h.it≠h.d3∧c2≠h.d1:=by
 unfold wV at hh;split at hh
 ·obtain⟨hc,hh⟩:=aQ hh;cases hh;simp only[Np,and_assoc,Nat.beq_eq,R7,U3,Nat.beq_eq_true_eq]at hc;obtain⟨e1,e2,e3,e4,e5,l1,l2,l3,l4,l5,n1,n2,n3,n4,n5⟩:=hc;subst e1 e2 e3 e4 e5
  have hne:∀{x y:Nat},Nat.beq x y=false→x≠y:=λh e=>by rw[e,bC]at h;cases h
  exact⟨_,_,_,_,_,rfl,rfl,rfl,⟨rfl,rfl,rfl⟩,⟨rfl,rfl,rfl⟩,⟨rfl,rfl,rfl⟩,⟨rfl,rfl,rfl⟩,⟨rfl,rfl,rfl⟩,⟨l1,l2,l3,l4,l5⟩,hne n1,hne n2,hne n3,hne n4,hne n5⟩
 ·cases hh
theorem wj{E E':List (Nat×Dat F)}:∀{ks:Ks}{x:TLS F ks}{c:Nat},(∀y∈keysOf ks,look E y=look E' y)→M6 E ks x c=M6 E' ks x c
 | [],x,c,h=>rfl
 | [k],x,c,h=>by
  simp only[M6,Si]
  rw[h k.1 (by simp[keysOf])]
 | k::l::r,x,c,h=>by
  simp only[M6,Si]
  rw[h k.1 (by simp[keysOf])]
  rw[wj (λy hy=>h y (by simp only[keysOf,M9,Nz]at hy ⊢;exact .inr hy))]
theorem tT:∀{l1 l2:List Nat},l1.Nodup→(∀x∈l1,x∈l2)→l1.length≤l2.length
 | [],_,_,_=>Yx _
 | a::l,l2,hn,hs=>by
  have hn':=Ug.1 hn
  have h:=tT (l2:=l2.erase a) hn'.2 (λx hx=>by
   have hxa:x≠a:=λe=>hn'.1 (e▸hx)
   exact(QgF hxa).2 (hs x (by simp[hx])))
  have ha:=hs a (by simp)
  rw[QfI ha]at h;have:=Qe_ ha;simp only[PN];omega
theorem HW{N:Nat}{l:List Nat}(hn:l.Nodup)(hl:∀x∈l,x<N):l.length≤N:=by have h:=tT (l2:=List.range N) hn (λx hx=>QgV.2 (hl x hx));simpa using h
structure Nm(nv:Nat)(s:TS F)(it:Nat)(kill:List Nat)(ks:Ks)(t:TLS F ks):Prop where
 m:∀q∈(M6 ((it,.c (.ptr s.c 0))::s.E) ks t (s.c+1)).2.1,s.c+1≤q.1∨q.1∈kill
 e:∀y,y∉keysOf ks→look (M6 ((it,.c (.ptr s.c 0))::s.E) ks t (s.c+1)).1 y=none
 c:s.c+1≤(M6 ((it,.c (.ptr s.c 0))::s.E) ks t (s.c+1)).2.2
theorem uB{c:Nat}{kill:List Nat}{id:Nat}(hid:id<c)(hnd:id∉kill):∀{l:List (Nat×Mg F)},(∀q∈l,c≤q.1∨q.1∈kill)→look l id=none:=by
 intro l
 induction l with
 | nil=>intro _;rfl
 | cons q l ih=>
  intro h;obtain⟨y,C⟩:=q
  have hne:y≠id:=by
   rintro rfl
   rcases h (y,C) (by simp)with h | h
   ·simp only at h;omega
   ·exact hnd h
  rw[az,ao hne]
  exact ih (λq hq=>h q (by simp[hq]))
theorem Nm.Xc{s:TS F}{it:Nat}{kill dr:List Nat}{ks:Ks}{t:TLS F ks}(h:Nm nv s it kill ks t)(ob:Obj){id:Nat}(hi:id<s.c+1)(hk:id∉kill):look (merge nv dr kill (Sg s it ob) ks t).M id=look (Sg s it ob).M id:=by
 show look ((M6 ((it,.c (.ptr s.c 0))::s.E) ks t (s.c+1)).2.1++(Sg s it ob).M.filter λp=>!(Mf p.1 kill)) id=_;rw[bj,uB hi hk h.m,Vx,aK (λy=>!(Mf y kill)),if_pos]
 cases hm:Mf id kill with
 | true=>exact absurd (aN.1 hm) hk
 | false=>rfl
theorem Nm.Zi{s:TS F}{it:Nat}{kill dr:List Nat}{ks:Ks}{t:TLS F ks}(h:Nm nv s it kill ks t)(ob:Obj){y:Nat}(hk:y∉keysOf ks):look (merge nv dr kill (Sg s it ob) ks t).E y=if Nat.blt y nv&&!(Mf y dr)then look ((it,.c (.ptr s.c 0))::s.E) y else none:=by show look ((M6 ((it,.c (.ptr s.c 0))::s.E) ks t (s.c+1)).1++((it,.c (.ptr s.c 0))::s.E).filter λp=>Nat.blt p.1 nv&&!(Mf p.1 dr)) y=_;rw[bj,h.e y hk,Vx,aK (λy=>Nat.blt y nv&&!(Mf y dr))]
theorem Ig{s:St F}{g:G}{a a':Act}{w:World}(hg:Good P own W0 n s g a w)(hd:a'.defers = [])(hs:a'.tmps.size=n)(he:∀x d,s.e x=some d→a'.tmps.getD x undef=a.tmps.getD x undef):Good P own W0 n s g a' w:=
 ⟨hd,hs,λx d h=>by rw[he x d h];exact hg.env x d h,hg.mem,hg.dom,hg.Tw,hg.NW,hg.Sn⟩
theorem U9{a:Act}{d x:Nat}{v:Value}:(a.put (some d) v).tmps.getD x undef=if d=x then(if d<a.tmps.size then v else undef)else a.tmps.getD x undef:=by
 simp only[Act.put];rw[UH,QcQ];by_cases h:d=x
 ·rw[if_pos h,if_pos h];by_cases h2:d<a.tmps.size
  ·rw[if_pos h2,if_pos h2];rfl
  ·rw[if_neg h2,if_neg h2];rfl
 ·rw[if_neg h,if_neg h,← UH]
theorem HZ(hT:Mc P T)(hΓ : ML P Γ){id0 id1 id2 i j c2:Nat}{PX OZ Ry:Array Oper}{body:Code}{f:TS F→{R:Type}→(Nat→TS F→Option R)→Option R}
  (hf:∀own:Ow,bk P own W0 n nv body f) {ks:Ks} {dr:List Nat} (hk:∀y∈keysOf ks,y∈dr) :
  bk P own W0 n nv (.seq (.region id0 PX false) (.block i (.loop (.seq (.region id1 OZ false) (.seq (.cond (.tmp c2) .skip (.exit i)) (.block j (.seq (.region id2 Ry false) body))))))) (λs R K=>zU T Γ nv n f PX.toList OZ.toList Ry.toList j c2 ks dr s K):=by
 intro s R K r h g a w hg;dsimp only at h;unfold zU at h;split at h
 ·cases h
 rename_i hs hsh;split at h
 rotate_left
 ·cases h
 rename_i mid ha;split at h
 rotate_left
 ·cases h
 rename_i tt l hmid;split at h
 ·cases h
 rename_i mty hmt;obtain⟨hc,h⟩:=aQ h;rw[ZV]at h;obtain⟨v,hv,hK⟩:=h;obtain⟨step,hstep,t0,ht0,aoN⟩:=Es hv;generalize akA:aS s dr=kill at *;simp only[Np,and_assoc,U3,R7]at hc;obtain⟨c1,c2',c3,c4,c5,c6,c7,c8⟩:=hc;obtain⟨oa,ob,oc,od,oe,e0,e1,e2,⟨a1,a2,a3⟩,⟨b1,b2,b3⟩,⟨n1,n2,n3⟩,⟨x1,x2,x3⟩,⟨y1,y2,y3⟩,⟨l1,l2,l3,l4,l5⟩,m1,m2,m3,m4,m5⟩:=BL hsh
 have Xa:∀{x:Nat}{l:List Nat},Mf x l=false→x∉l:=λh hm=>by rw[aN.2 hm]at h;cases h
 have c2n:=Xa c2';have c3n:=Xa c3;have c5n:=Xa c5;have adg:hs.it∉keysOf ks:=λhh=>c5n (hk _ hh)
 have hdrop:∀x∈[hs.b,hs.d1,c2,hs.d3],(Nat.blt x nv&&!(Mf x dr))=false:=by
  intro x hx;have:=Td.1 c6 x hx;simp only[UC]at this;rcases this with h1 | h1
  ·have:=U4 h1
   rw[show Nat.blt x nv=false by rw[bX,decide_eq_false_iff_not];omega]
   rfl
  ·rw[h1];simp
 have ab7:∀x∈[hs.b,hs.d1,c2],x∉keysOf ks:=by
  intro x hx;have:=Td.1 c7 x hx
  exact Xa (by simpa using this)
 obtain⟨bm,k1,k2,es,k3,k4,k5⟩:=rC hg.mem hmid;obtain⟨bm',cm',k6,hval⟩:=rE (bh (hg.env _ _ ha));rw[k2]at k6;cases k6;obtain⟨ti,hti,hde,_⟩:=va (k:=mty.1) (v:=mty.2.1) (tt:=mty.2.2) hmt;have hu:=hT.und _ _ hti;rw[hde]at hu
 have hfr:g.ids s.c=none:=hg.dom s.c (by simp only[TS.st,bX,decide_eq_false_iff_not];omega)
 generalize hbit:w.heap.size=bit
 obtain⟨q1,q2⟩:=kZ (rm:=[]) (pl:=some (w.heap.size,0,0,[])) (B:=Mg.it (.mapIter (some bm) es.length #[] es.length)) hg.mem hfr (w':=w.alloc (.mapIter (some bm) es.length #[] es.length)) (by
  intro b0 c e b hb;cases e;simp only[MO,Lb]at hb;subst hb
  exact .inl ⟨MN _,by rw[World.size_alloc];omega,hg.NW.fresh _ hg.NW.size⟩) rfl rfl rfl (MN _) (by rw[World.size_alloc];omega) (λb hb _=>heap_alloc_old w _ hb) (λg' hle hi=>⟨_,hi,heap_alloc_new w _⟩)
 rw[hbit]at q1 q2;generalize hg1:g.name s.c (some (bit,0,0,[]))=g1 at q1 q2
 have adk:g1.ids s.c=some (some (bit,0,0,[])):=by rw[← hg1];exact bv _ _ _
 generalize hN:es.length=N at *
 have adD:Good P own W0 n (Sg s hs.it (.mapIter (some bm) N #[] N)).st g1 (a.put (some hs.it) (.pointer (some ⟨bit,0,none⟩))) (w.alloc (.mapIter (some bm) N #[] N)):=by
  refine⟨hg.Ue,by simp[Act.put,hg.Tj],?_,q1.sub ?_,?_,λb hb=>q2.le.Li b (hg.Tw b hb),hg.NW.stp hg.mem q2,λid p hp=>q2.le.ids id p (hg.Sn id p hp)⟩
  ·intro y e hy;simp only[TS.st,Sg,az]at hy;rw[U9];by_cases hdy:hs.it=y
   ·rw[if_pos hdy,if_pos (by rw[hg.Tj];exact l2)]
    rw[hdy,bC]at hy;simp only[if_true,NJ]at hy;subst hy;exact .c (.ptr adk)
   ·rw[if_neg hdy];rw[ao hdy]at hy
    exact(hg.env y e (by simpa[TS.st]using hy)).le q2.le
  ·intro id B hB;simp only[TS.st,Sg,az]at hB;simp only[Oi,PE,Ml];exact hB
  ·intro id hid;simp only[TS.st,Sg,bX,decide_eq_false_iff_not]at hid
   rw[← hg1,cj _ _ _ (by omega)]
   exact hg.dom id (by simp only[TS.st,bX,decide_eq_false_iff_not];omega)
 have Vd:g1.ids mid=some (some (bm,0,0,[])):=q2.le.ids mid _ k2;have WO:=adD.fix Vd adk;generalize hown:own.fix mid (some (bm,0,0,[])) s.c (some (bit,0,0,[]))=own' at WO
 have aoU:own'.nm mid=some (some (bm,0,0,[])):=by rw[← hown];simp[Ow.fix]
 have aoT:own'.nm s.c=some (some (bit,0,0,[])):=by
  rw[← hown];simp only[Ow.fix];rw[if_neg (by omega)];simp
 have ady:∀{z:St F}{g':G}{a':Act}{w':World},Good P own' W0 n z g' a' w'→Good P own W0 n z g' a' w':=by
  intro z g' a' w' hh;rw[← hown]at hh;refine hh.afP (λp hp=>?_) (λp hp=>?_)
  ·have:=hg.Sn _ _ hp;rw[k2]at this;exact(Option.some.inj this).symm
  ·have:=hg.Sn _ _ hp;rw[hfr]at this;cases this
 generalize hw1:w.alloc (.mapIter (some bm) N #[] N)=w1 at *;generalize haB:a.put (some hs.it) (.pointer (some ⟨bit,0,none⟩))=aB at *
 have hbase:∀Pz,Good P own' W0 n (Sg s hs.it Pz).st g1 aB (Sc w1 bit Pz):=by
  intro Pz
  refine xU (s:=(Sg s hs.it (.mapIter (some bm) N #[] N)).st) WO (id:=s.c) (ob:=.mapIter (some bm) N #[] N) (by simp[TS.st,Sg,az]) adk rfl rfl ?_
  intro x B hx;simp only[TS.st,Sg,az]at hx ⊢;by_cases hxc:x=s.c
  ·subst hxc;rw[if_pos rfl];rw[bC]at hx;simpa using hx.symm
  ·rw[if_neg hxc];rw[ao (λe=>hxc e.symm)]at hx ⊢;exact hx
 have ab5:∀{Pz:Obj}{z:TS F}{t:TLS F ks}{g':G} {a':Act} {w':World},Good P own' W0 n z.st g' a' w'→(∀x,x<nv→x∉dr→x∉z.dE→look z.E x=look ((hs.it,.c (.ptr s.c 0))::s.E) x)→
   (∀id,id<s.c+1→id∉kill→id∉z.dM→look z.M id=look (Sg s hs.it Pz).M id)→Om Γ (Sg s hs.it Pz) dr (s.c+1) kill ks z=some t→
   Nm nv s hs.it kill ks t∧∃g'',Good P own' W0 n (merge nv dr kill (Sg s hs.it Pz) ks t).st g'' a' w':=by
  intro Pz z t g' a' w' hz hE hM hp;obtain⟨p1,p2,p3,p4⟩:=wH hΓ (hbase Pz) hz hE hM hp;exact⟨⟨p2,p3,p4⟩,p1⟩
 obtain⟨hn0,g0,hg0⟩:=ab5 (Pz:=.mapIter (some bm) N #[] N) WO (λ_ _ _ _=>rfl) (λ_ _ _ _=>rfl) (ht0 _);obtain rfl:PX = #[oa,ob]:=Array.toList_inj.1 e0;obtain rfl:OZ = #[oc,od]:=Array.toList_inj.1 e1;refine wp_seq (wp_region ?_)
 refine qz (o:=oa) (i:=0) (rest:=[1]) rfl a3 (v:=a.eval (.tmp hs.a)) (w':=w) (by simp[execOp,a2]) ?_
 have hmv:(a.put oa.dst (a.eval (.tmp hs.a))).eval (.tmp hs.b) = .map (some bm):=by
  rw[a1,qc (by rw[hg.Tj];exact l1)]
  exact hval
 refine qz (o:=ob) (i:=1) (rest:=[]) rfl b3 (v:=.pointer (some ⟨bit,0,none⟩)) (w':=w1) ?_ ?_
 ·have hrr:=run_range_map (P:=P) w hs.ty mty.1 mty.2.1 bm ⟨es⟩ N hu k3;rw[hbit,hw1]at hrr;simp[execOp,b2,hmv,OA,hrr,Result.andThen]
 simp only[wpOps,Exit.then]
 refine wp_block (sG (λm a w=>∃(t:TLS F ks)(seen:List Nat),Sj step l m seen t v∧seen.Nodup∧(∀x∈seen,x<N)∧m+seen.length=N∧Nm nv s hs.it kill ks t∧
   ∃g',Good P own' W0 n (merge nv dr kill (Sg s hs.it (.mapIter (some bm) N ⟨seen⟩ N)) ks t).st g' a w) ?_ (k:=N) ?_)
 rotate_left
 ·refine⟨t0,[],by rw[k4];exact aoN,Z6,by simp,by simp,hn0,g0,Ig hg0 ?_ ?_ ?_⟩
  ·rw[a1,b1];exact hg.Ue
  ·rw[a1,b1];simp[Act.put,hg.Tj]
  ·intro x d hx;rw[a1,b1,← haB,U9,U9,U9]
   have hxb:hs.b≠x:=by
    rintro rfl;have hx:look (merge nv dr kill (Sg s hs.it (.mapIter (some bm) N #[] N)) ks t0).E hs.b=some d:=hx
    rw[hn0.Zi _ (ab7 _ (by simp)),hdrop _ (by simp)]at hx
    cases hx
   rw[if_neg hxb];simp[Act.put]
 intro m a w hI;obtain⟨t,seen,hr,hnd,hlt,hlen,hnm,g',hg'⟩:=hI
 have hM1:look (merge nv dr kill (Sg s hs.it (.mapIter (some bm) N ⟨seen⟩ N)) ks t).M s.c=some (.it (.mapIter (some bm) N ⟨seen⟩ N)):=by
  rw[hnm.Xc _ (by omega) c3n]
  simp[Sg,az]
 have hM2:look (merge nv dr kill (Sg s hs.it (.mapIter (some bm) N ⟨seen⟩ N)) ks t).M mid=some (.mp tt l):=by
  rw[hnm.Xc _ (by omega) c2n]
  simp only[Sg,az]
  rw[ao (by omega)]
  simpa using hmid
 have hE1:look (merge nv dr kill (Sg s hs.it (.mapIter (some bm) N ⟨seen⟩ N)) ks t).E hs.it=some (.c (.ptr s.c 0)):=by rw[hnm.Zi _ adg,if_pos,az,bC,if_pos rfl];rw[R7.mpr c4,c5];rfl
 have Vb:=hg'.Sn _ _ aoT;have ao3:=hg'.Sn _ _ aoU;obtain⟨bb,hb1,hh⟩:=hg'.mem.ok s.c _ hM1;rw[Vb]at hb1;cases hb1;obtain⟨bm2,_,j2,es2,j3,j4,j5⟩:=rC hg'.mem hM2;rw[ao3]at j2;cases j2
 have ac7:a.eval (.tmp hs.it) = .pointer (some ⟨bit,0,none⟩):=by obtain⟨b',c',e1,e2⟩:=bW (hg'.env _ _ hE1);rw[Vb]at e1;cases e1;exact e2
 have ao_:es2.length=N:=by omega
 have hborn:∀(k:Nat)(e:MapEntry),es2[k]? = some e→e.born=k∧k<N:=by
  intro k e hke;have hk2:k<es2.length:=(K_.1 hke).1
  have hk3:k<l.length:=by omega
  exact⟨(j5 k _ e (K9 hk3) hke).1,by omega⟩
 have hold:∀x∈(⟨es2⟩:Array MapEntry).toList,x.born<N:=by intro x hx;obtain⟨k,hk2⟩:=XT hx;obtain⟨p1,p2⟩:=hborn k x hk2;omega
 have hbn:es2.map (·.born)=List.range N:=by
  apply QeM;intro k;rw[Rf];by_cases hkN:k<N
  ·rw[K9 (by omega),K9 (by simpa using hkN)]
   simp only[Xy,List.getElem_range]
   rw[(hborn k _ (K9 (by omega))).1]
  ·rw[QeZ (by omega),QeZ (by simp;omega)]
   rfl
 have hsz0:a.tmps.size=n:=hg'.Tj;rcases run_next_at (P:=P) w oc.type bit bm N N ⟨seen⟩ ⟨es2⟩ es2.length hh j3 hold (MN _)with⟨z1,z2⟩ | ⟨e,he,w2,hw2,hrun⟩
 ·refine wp_seq (wp_region ?_)
  refine qz (o:=oc) (i:=0) (rest:=[1]) rfl n3 (v:=.tuple #[.bool false]) (w':=w) (by simp[execOp,n2,ac7,OA,z2,Result.andThen]) ?_
  have hex:(a.put oc.dst (.tuple #[.bool false])).eval (.tmp hs.d1) = .tuple #[.bool false]:=by
   rw[n1,qc (by rw[hsz0];exact l3)]
  refine qz (o:=od) (i:=1) (rest:=[]) rfl x3 (v:=.bool false) (w':=w) (by simp[execOp,x2,hex,Instr.extract]) ?_
  simp only[wpOps,Exit.then]
  refine wp_seq (wp_cond_split (t:=false) ?_ (λe=>by cases e) (λ_=>wp_exit ?_))
  ·rw[x1,qc (by rw[n1];simpa[Act.put,hsz0]using l4)]
  simp only[Exit.then,Exit.inBlock,if_true]
  have hm0:m=0:=by
   have hsub:∀k∈List.range N,k∈seen:=by
    intro k hkN;rw[QgV]at hkN
    have hk2:k<es2.length:=by omega
    have h0:leftOf ⟨es2⟩ ⟨seen⟩ = #[]:=QfQ z1;unfold leftOf at h0;rw[Array.filter_eq_empty_iff]at h0
    have:=h0 es2[k] (by simp)
    rw[(hborn k _ (K9 hk2)).1]at this;simpa using this
   have:=tT QhD hsub;simp at this;omega
  subst hm0;have htv:t=v:=hr;subst htv
  have UW:M6 ((hs.it,.c .any)::s.E) ks t (s.c+1)=M6 ((hs.it,.c (.ptr s.c 0))::s.E) ks t (s.c+1):=wj (λy hy=>by
   rw[az,az,ao (λ(e:hs.it=y)=>adg (by rw[e];exact hy))];rfl)
  refine⟨0,_,g',rfl,hK,?_,?_⟩
  ·refine⟨?_,?_,?_,λx hx=>?_,λx hx=>?_⟩
   ·intro x hx hn;have hn:x∉dr++hs.it::s.dE:=hn;simp only[OB,Nz,not_or]at hn;show look ((M6 ((hs.it,.c .any)::s.E) ks t (s.c+1)).1++((hs.it,.c .any)::s.E).filter λp=>Nat.blt p.1 nv&&!(Mf p.1 dr)) x=_;rw[UW,bj,hnm.e x (λh=>hn.1 (hk x h)),Vx,aK (λy=>Nat.blt y nv&&!(Mf y dr)),if_pos,az,ao (λe=>hn.2.1 e.symm)]
    ·rfl
    ·rw[R7.mpr hx]
     cases hm:Mf x dr with
     | true=>exact absurd (aN.1 hm) hn.1
     | false=>rfl
   ·intro id hid hn;have hn:id∉kill++s.dM:=hn;simp only[OB,not_or]at hn;show look ((M6 ((hs.it,.c .any)::s.E) ks t (s.c+1)).2.1++s.M.filter λp=>!(Mf p.1 kill)) id=_;rw[UW,bj,uB (Nat.lt_succ_of_lt hid) hn.1 hnm.m,Vx,aK (λy=>!(Mf y kill)),if_pos]
    cases hm:Mf id kill with
    | true=>exact absurd (aN.1 hm) hn.1
    | false=>rfl
   ·show s.c≤(M6 ((hs.it,.c .any)::s.E) ks t (s.c+1)).2.2;rw[UW];exact Rb (QfU _) hnm.c
   ·show x∈dr++hs.it::s.dE;simp[hx]
   ·show x∈kill++s.dM;simp[hx]
  ·refine IC (ady hg') ?_ ?_ ?_ ?_ ?_
   ·rw[n1,x1];exact hg'.Ue
   ·rw[n1,x1];simp[Act.put,hsz0]
   ·intro x d hx;have hx:look ((M6 ((hs.it,.c .any)::s.E) ks t (s.c+1)).1++((hs.it,.c .any)::s.E).filter λp=>Nat.blt p.1 nv&&!(Mf p.1 dr)) x=some d:=hx;rw[UW,bj,aK (λy=>Nat.blt y nv&&!(Mf y dr))]at hx;by_cases hxi:x=hs.it
    ·subst hxi
     rw[hnm.e _ adg,Vx,if_pos (by rw[R7.mpr c4,c5];rfl),az,bC,if_pos rfl]at hx
     cases hx;exact .inl rfl
    ·right;rw[az,ao (λe=>hxi e.symm)]at hx
     have hne:∀y∈[hs.b,hs.d1,c2],y≠x:=by
      rintro y hy rfl
      rw[hnm.e _ (ab7 _ hy),Vx,hdrop _ (by simp only[Nz,QeT,or_false]at hy ⊢;rcases hy with h | h | h<;>simp[h])]at hx
      cases hx
     refine⟨?_,?_⟩
     ·show look ((M6 ((hs.it,.c (.ptr s.c 0))::s.E) ks t (s.c+1)).1++((hs.it,.c (.ptr s.c 0))::s.E).filter λp=>Nat.blt p.1 nv&&!(Mf p.1 dr)) x=some d;rw[bj,aK (λy=>Nat.blt y nv&&!(Mf y dr)),az,ao (λe=>hxi e.symm)];exact hx
     ·rw[n1,x1,U9,U9,if_neg (hne c2 (by simp)),if_neg (hne hs.d1 (by simp))]
   ·intro id B hB;have hB:look ((M6 ((hs.it,.c .any)::s.E) ks t (s.c+1)).2.1++s.M.filter λp=>!(Mf p.1 kill)) id=some B:=hB;show look ((M6 ((hs.it,.c (.ptr s.c 0))::s.E) ks t (s.c+1)).2.1++((s.c,.it (.mapIter (some bm) N ⟨seen⟩ N))::s.M).filter λp=>!(Mf p.1 kill)) id=some B;rw[UW,bj,aK (λy=>!(Mf y kill))]at hB;rw[bj,aK (λy=>!(Mf y kill)),az];by_cases hic:id=s.c
    ·subst hic;rw[uB (QhE _) c3n hnm.m,Vx]at hB;split at hB
     ·exact absurd hfr (hg.mem.ok _ B hB).named
     ·cases hB
    ·rw[ao (λe=>hic e.symm)];exact hB
   ·intro id hid;have hid:Nat.blt id (M6 ((hs.it,.c .any)::s.E) ks t (s.c+1)).2.2=false:=hid;rw[UW]at hid;exact hid
 ·have he':e∈es2∧e.born∉seen:=by
   unfold leftOf at he;simpa using he
  obtain⟨k,hke⟩:=XT he'.1;obtain⟨hbk,hkN⟩:=hborn k e hke;have hkn:k∉seen:=hbk▸he'.2
  have hkl:k<l.length:=by omega
  cases m with
  | zero=>
   have:=HW (N:=N) (l:=k::seen) (Ug.2 ⟨hkn,hnd⟩) (λx hx=>by
    rcases Nz.1 hx with rfl | hx
    ·exact hkN
    ·exact hlt x hx)
   simp at this;omega
  | succ m=>
   obtain⟨t',hs1,hs2⟩:=hr k l[k] hkn (K9 hkl);obtain⟨_,kd0,ae3,r1,r2,r3⟩:=j5 k l[k] e (K9 hkl) hke
   have hob:Obj.mapIter (some bm) N ((⟨seen⟩:Array Nat).push e.born) es2.length = .mapIter (some bm) N ⟨seen++[k]⟩ N:=by rw[hbk,ao_];simp
   rw[hob]at hrun;generalize afA:Obj.mapIter (some bm) N ⟨seen++[k]⟩ N=Pz at hrun;have h1:=hs1 Pz;rw[hstep]at h1;simp only[r1]at h1;split at h1
   ·rename_i kd _ d hkd hd;cases hkd
    have ac3:Good P own' W0 n (merge nv dr kill (Sg s hs.it (.mapIter (some bm) N ⟨seen⟩ N)) ks t).st g' a w2:=by
     rcases hw2 with rfl | rfl
     ·exact hg'
     ·exact sT hg'
    have hheap:w2.heap=w.heap:=by rcases hw2 with rfl | rfl<;>rfl
    have hg3:Good P own' W0 n (merge nv dr kill (Sg s hs.it Pz) ks t).st g' a (Sc w2 bit Pz):=by
     refine xU ac3 (id:=s.c) hM1 Vb rfl rfl ?_;intro x B hx;by_cases hxc:x=s.c
     ·subst hxc;rw[if_pos rfl];have hx:look (merge nv dr kill (Sg s hs.it Pz) ks t).M s.c=some B:=hx
      rw[hnm.Xc _ (by omega) c3n]at hx
      simpa[Sg,az]using hx.symm
     ·rw[if_neg hxc];have hx:look ((M6 ((hs.it,.c (.ptr s.c 0))::s.E) ks t (s.c+1)).2.1++((s.c,.it Pz)::s.M).filter λp=>!(Mf p.1 kill)) x=some B:=hx;show look ((M6 ((hs.it,.c (.ptr s.c 0))::s.E) ks t (s.c+1)).2.1++((s.c,.it (.mapIter (some bm) N ⟨seen⟩ N))::s.M).filter λp=>!(Mf p.1 kill)) x=some B;rw[bj,aK (λy=>!(Mf y kill)),az,ao (λe=>hxc e.symm)]at hx ⊢;exact hx
    have hne:bm≠bit:=by rintro rfl;rw[hh]at j3;cases j3
    have apg:(Sc w2 bit Pz).heap[bm]? = some (.map ⟨es2⟩ es2.length):=by rw[tH _ _ _ hne,hheap];exact j3
    have akL:(Sc w2 bit Pz).heap[bit]? = some Pz:=by refine A4 _ _ _ ?_;rw[hheap];exact(Wj.1 hh).1
    have hrep:Ma P g' (Sc w2 bit Pz) d e.val:=by
     have:=vi (P:=P) (g:=g') (w:=w) hd r1 r3
     have hle:Le g' w g' (Sc w2 bit Pz):=by
      obtain⟨_,kk⟩:=se (ob:=Pz) (B':=.it Pz) ac3.mem hM1 rfl (G.MH Vb) (λhh _=>⟨bit,Vb,hh⟩)
      exact⟨kk.le.ids,kk.le.Li,λb hb=>(kk.le.heap b hb).trans (by rw[hheap]),kk.le.len,λb hb=>(kk.le.Xj b hb).trans (by rw[hheap])⟩
     exact this.le hle
    have hrk:L_ (Sc w2 bit Pz) g'.Li kd0 e.key:=by
     obtain⟨_,kk⟩:=se (ob:=Pz) (B':=.it Pz) ac3.mem hM1 rfl (G.MH Vb) (λhh _=>⟨bit,Vb,hh⟩)
     exact r2.mono (λ_ h=>h) (λb hb=>(kk.le.heap b hb).trans (by rw[hheap]))
    have hr3:Ma P g' (Sc w2 bit Pz) (.Pp [.c (.im (.b true)),.c (.im kd0),d]) (.tuple #[.bool true,e.key,e.val]):=by
     refine .Pp rfl λj0 d0 x0 a0 b0=>?_
     match j0 with
     | 0=>cases a0;cases b0;exact .c (.im (.b _))
     | 1=>cases a0;cases b0;exact .c (.im hrk)
     | 2=>cases a0;cases b0;exact hrep
     | j0+3=>simp at a0
    have hr2:Ma P g' (Sc w2 bit Pz) (.Pp [.c (.im kd0),d]) (.tuple #[e.key,e.val]):=by
     refine .Pp rfl λj0 d0 x0 a0 b0=>?_
     match j0 with
     | 0=>cases a0;cases b0;exact .c (.im hrk)
     | 1=>cases a0;cases b0;exact hrep
     | j0+2=>simp at a0
    have hg4:=AC hg3 l3 hr3 [] [];have hg5:=AC hg4 l4 (v:=.c (.im (.b true))) (x:=.bool true) (.c (.im (.b _))) [] [];have hg6:=AC hg5 l5 hr2 [] [];refine wp_seq (wp_region ?_)
    refine qz (o:=oc) (i:=0) (rest:=[1]) rfl n3 (v:=.tuple #[.bool true,e.key,e.val]) (w':=Sc w2 bit Pz) (by simp[execOp,n2,ac7,OA,hrun,Result.andThen];rfl) ?_
    have hex:(a.put oc.dst (.tuple #[.bool true,e.key,e.val])).eval (.tmp hs.d1) = .tuple #[.bool true,e.key,e.val]:=by
     rw[n1,qc (by rw[hsz0];exact l3)]
    refine qz (o:=od) (i:=1) (rest:=[]) rfl x3 (v:=.bool true) (w':=Sc w2 bit Pz) (by simp[execOp,x2,hex,Instr.extract]) ?_
    simp only[wpOps,Exit.then]
    refine wp_seq (wp_cond_split (t:=true) ?_ (λ_=>wp_skip ?_) (λe=>by cases e))
    ·rw[x1,qc (by rw[n1];simpa[Act.put,hsz0]using l4)]
    simp only[Exit.then];obtain⟨z,tr,h2,t1,t2,t3,t4,t5⟩:=qf hT hΓ h1;obtain⟨E',h3,h4⟩:=nD h2
    have hsz:Ry.size=tr.length+1:=by rw[← Wt,e2,← t1];simp
    refine wp_block (wp_seq (wp_region ?_));rw[hsz,QfC,List.range'_succ]
    have ao2:((a.put oc.dst (.tuple #[.bool true,e.key,e.val])).put od.dst (.bool true)).eval (.tmp hs.it) = .pointer (some ⟨bit,0,none⟩):=by rw[n1,x1];show(Array.getD _ _ _)=_;rw[U9,U9,if_neg (λe=>m3 e.symm),if_neg (λe=>m2 e.symm)];exact ac7
    refine qz (o:=oe) (i:=0) (rest:=List.range' (0+1) tr.length) (by rw[← QdT,e2];rfl) y3 (v:=.tuple #[e.key,e.val]) (w':=Sc w2 bit Pz) ?_ ?_
    ·have:=run_entry_at (P:=P) (Sc w2 bit Pz) bit bm N ⟨seen⟩ ⟨es2⟩ es2.length e (by rw[akL,← afA,← hob]) apg (by simpa using he'.1) (by rw[hbn];exact QhD)
     simp[execOp,y2,ao2,OA,this,Result.andThen]
    rw[n1,x1,y1];refine pC (MK:=Ry) rfl tr (0+1) _ z.st (λj0=>?_) t2 t3 hg6 ?_
    ·rw[← QdT,e2,← Rf,t1,OW,QfH,QdK]
    intro g5 a5 w5 ao8;simp only[Exit.then];refine wp_mono (hf own' _ _ t' h3 g5 a5 w5 (ao8.sub ?_ (λ_ _ h=>h) (λ_ h=>h))) ?_
    ·intro x d0 hx;simp only[TS.st]at hx ⊢;rw[h4]at hx;split at hx
     ·exact hx
     ·cases hx
    rintro ee a6 w6 ⟨i',s',g6,rfl,h5,h6,h7⟩;obtain⟨hcond,h5⟩:=aQ h5
    have hne2:∀{x:Nat},x<nv→x∉dr→∀y∈[hs.b,hs.d1,c2,hs.d3],y≠x:=by rintro x hx hxd y hy rfl;have:=hdrop _ hy;rw[R7.mpr hx]at this;simp only[QhB,QdU]at this;exact hxd (aN.1 this)
    have hnext:∃m',m'<m+1∧∃(t:TLS F ks)(seen:List Nat),Sj step l m' seen t v∧seen.Nodup∧(∀x∈seen,x<N)∧m'+seen.length=N∧Nm nv s hs.it kill ks t∧
      ∃g',Good P own' W0 n (merge nv dr kill (Sg s hs.it (.mapIter (some bm) N ⟨seen⟩ N)) ks t).st g' a6 w6:=by
     have hEE:∀x,x<nv→x∉dr→x∉s'.dE→look s'.E x=look ((hs.it,.c (.ptr s.c 0))::s.E) x:=by
      intro x hx hxd hn;have q1:=h6.e x hx hn;have q2:=t5.e x hx (λhh=>hn (h6.dE x hh));rw[q1];show look E' x=_
      rw[h4,if_pos (by simp[Mf,R7.mpr hx]),q2]
      have hy:=hne2 hx hxd;simp only[zZ,az]
      rw[ao (hy _ (by simp)),ao (hy _ (by simp)),ao (hy _ (by simp))]
      simp only[RZ,if_false];rw[hnm.Zi _ (λh=>hxd (hk x h)),if_pos]
      ·rw[az]
      ·rw[R7.mpr hx]
       cases hm:Mf x dr with
       | true=>exact absurd (aN.1 hm) hxd
       | false=>rfl
     have hMM:∀id,id<s.c+1→id∉kill→id∉s'.dM→look s'.M id=look (Sg s hs.it Pz).M id:=by intro id hid hik hn;have hcm:s.c+1≤(zZ nv s dr kill ks hs c2 Pz t kd0 d).c:=hnm.c;have q1:=h6.m id (UG hid (Rb hcm t5.c)) hn;have q2:=t5.m id (UG hid hcm) (λhh=>hn (h6.dM id hh));rw[q1];show look z.M id=_;rw[q2];exact hnm.Xc (dr:=dr) _ hid hik
     obtain⟨o1,g7,o2⟩:=ab5 (Pz:=Pz) h7 hEE hMM h5
     ·refine⟨m,QhE m,t',seen++[k],hs2,?_,?_,?_,o1,g7,by rw[afA];exact o2⟩
      ·rw[Yo]
       exact⟨hnd,by simp,λx hx y hy=>by rw[Lb]at hy;subst hy;exactλe=>hkn (e▸hx)⟩
      ·intro x hx;rcases OB.1 hx with hx | hx
       ·exact hlt x hx
       ·rw[Lb]at hx;subst hx;exact hkN
      ·simp;omega
    rcases(UC _ _).mp hcond with hc0 | hc0
    ·have:=Rh hc0;subst this;exact hnext
    ·have:=Rh hc0;subst this;simp only[exC,Exit.then,Exit.inBlock,if_true];exact hnext
   ·cases h1
theorem De{c:Code}{q:RgC}(h:A1 c=some q):∃id0 id1 id2,c = .seq (.region id0 q.PX false) (.block q.i (.loop (.seq (.region id1 q.OZ false) (.seq (.cond (.tmp q.c2) .skip (.exit q.i')) (.block q.j (.seq (.region id2 q.Ry false) q.body)))))):=by
 unfold A1 at h;split at h
 ·cases h;exact⟨_,_,_,rfl⟩
 ·cases h
theorem GD(hT:Mc P T)(hΓ : ML P Γ)(NM:P.follows .mixedOrders=true):∀(h:Hint),(∀(own:Ow)(c:Code),bk P own W0 n nv c (M8 T Γ nv n h c))∧(h.isL=true→∀(own:Ow)(x:Code),zR P own W0 n nv x (M8 T Γ nv n h (.loop x))):=by
 intro h
 induction h with
 | z=>
  refine⟨?_,λh=>by cases h⟩
  intro own c s R K r hr;exact OJ hT hΓ NM c s K r (by simp only[M8]at hr;exact hr)
 | r kp=>
  refine⟨?_,λh=>by cases h⟩
  intro own c s R K r hr
  cases c with
  | region id ops draw=>exact FL (yq (id:=id) (kp:=kp) hT (ua hΓ) NM) kp s K r (by simp only[M8]at hr;exact hr)
  | _=>simp[M8]at hr
 | s h k ih ik=>
  refine⟨?_,λh=>by cases h⟩
  intro own c s R K r hr
  cases c with
  | seq x y=>exact ED (ih.1 own x) (ik.1 own y) s K r (by simp only[M8]at hr;exact hr)
  | _=>simp[M8]at hr
 | c h k ih ik=>
  refine⟨?_,λh=>by cases h⟩
  intro own c s R K r hr
  cases c with
  | cond t x y=>
   cases t with
   | tmp t=>exact CA (ih.1 own x) (ik.1 own y) s K r (by simp only[M8]at hr;exact hr)
   | const v=>cases v with
    | bool b=>exact An (ih.1 own x) (ik.1 own y) s K r (by simp only[M8]at hr;exact hr)
    | _=>simp[M8]at hr
   | _=>simp[M8]at hr
  | _=>simp[M8]at hr
 | b h ih=>
  refine⟨?_,λh=>by cases h⟩
  intro own c s R K r hr
  cases c with
  | block i x=>exact AS (ih.1 own x) s K r (by simp only[M8]at hr;exact hr)
  | scope x=>exact Au (ih.1 own x) s K r (by simp only[M8]at hr;exact hr)
  | _=>simp[M8]at hr
 | l ks dr xs h ih=>
  refine⟨?_,λ_ own x s R K r hr=>zw (dr:=dr++keysOf ks++PV xs) (ks:=ks) (xs:=xs) hΓ (ih.1 own x) (λy hy=>by simp[hy]) (λy hy=>by simp[hy]) s K r (by simp only[M8]at hr;exact hr)⟩
  intro own c s R K r hr
  cases c with
  | loop x=>exact JK (dr:=dr++keysOf ks++PV xs) (ks:=ks) (xs:=xs) hΓ (ih.1 own x) (λy hy=>by simp[hy]) (λy hy=>by simp[hy]) s K r (by simp only[M8]at hr;exact hr)
  | _=>simp[M8]at hr
 | p h k ih ik=>
  refine⟨?_,λh=>by cases h⟩
  intro own c s R K r hr
  cases c with
  | loop x=>
   simp only[M8]at hr
   cases hk:k.isL with
   | false=>rw[hk]at hr;cases hr
   | true=>rw[hk]at hr;exact J7 (ih.1 own x) (ik.2 hk own x) s K r hr
  | _=>simp[M8]at hr
 | u k h ih=>
  refine⟨?_,λh=>by cases h⟩
  intro own c s R K r hr
  cases c with
  | loop x=>exact KW (ih.1 own x) k s K r (by simp only[M8]at hr;exact hr)
  | _=>simp[M8]at hr
 | j dr xs h ih=>
  refine⟨?_,λh=>by cases h⟩
  intro own c s R K r hr
  exact Jk (dr:=dr++PV xs) (xs:=xs) hΓ (ih.1 own c) (λy hy=>by simp[hy]) s K r (by simp only[M8]at hr;exact hr)
 | m x ix ex dr h ih=>
  refine⟨?_,λh=>by cases h⟩
  intro own c s R K r hr
  cases c with
  | loop y=>exact H2 (x:=x) (ix:=ix) (ex:=ex) (dr:=dr) (ih.1 own y) s K r (by simp only[M8]at hr;exact hr)
  | _=>simp[M8]at hr
 | g ks dr h ih=>
  refine⟨?_,λh=>by cases h⟩
  intro own c s R K r hr;simp only[M8]at hr;split at hr
  ·cases hr
  rename_i q hq;obtain⟨id0,id1,id2,rfl⟩:=De hq;obtain⟨hi,hr⟩:=aQ hr;have:=Rh hi;rw[this]
  exact HZ (dr:=dr++keysOf ks) hT hΓ (λown'=>ih.1 own' _) (λy hy=>by simp[hy]) s K r hr
theorem Kh(hT:Mc P T)(hΓ : ML P Γ)(NM:P.follows .mixedOrders=true)(h:Hint)(c:Code):bk P own W0 n nv c (M8 T Γ nv n h c):=(GD hT hΓ NM h).1 own c
end
set_option linter.unusedVariables false
set_option linter.unusedSimpArgs false
section
variable{F:Fam}{P:Program}{T:TypeId→Option (TI F)}{Γ : Ctx F}{nv n:Nat}{own:Ow}{W0:World}{g:G}{a:Act}{w:World}{m mm:Nat→Option (Mg F)}
def rG(tmps:Array Value):ResultVar→Sem Value
 | .tmp t=>Pure.pure (tmps.getD t undef)
 | .cell a t=>do loadVar t (← asAddr (tmps.getD a undef))
theorem Jy(hT:Mc P T){s:TS F}(hg:Good P own W0 n s.st g a w){r:ResultVar}{d:Dat F}(h:acS T s r=some d) :
  ∃v,(rG a.tmps r).run P w = .ok v w∧Ma P g w d v:=by
 cases r with
 | tmp t=>exact⟨_,rfl,hg.env t d h⟩
 | cell x ty=>
  simp only[acS]at h;split at h
  ·cases h
  ·rename_i ti hty;split at h
   ·rename_i id off hx;split at h
    ·rename_i cs Pj;obtain⟨b,c,hi,e⟩:=bW (hg.env x _ hx);obtain⟨v,hrun,hrep⟩:=eo (P:=P) (g:=g) (w:=w) hT hty h (b:=b) (q:=0) (yA hg.mem Pj hi);rw[OW]at hrun;refine⟨v,?_,hrep⟩;simp only[rG,e,asAddr,OA,PD,OM,hrun]
    ·cases h
   ·cases h
theorem vo(hT:Mc P T){s:TS F}(hg:Good P own W0 n s.st g a w):∀{rs:List ResultVar}{ds:List (Dat F)} (_:VN T s rs=some ds),
  ∃vs:List Value,(rs.mapM (rG a.tmps)).run P w = .ok vs w∧MF P g w ds vs
 | [],ds,h=>by
  simp only[VN,NJ]at h;subst h
  exact⟨[],by simp,rfl,by simp⟩
 | r::rs,ds,h=>by
  simp only[VN]at h;split at h
  ·cases h
  ·rename_i d hd;split at h
   ·cases h
   ·rename_i l hl;cases h;obtain⟨v,hv,hr⟩:=Jy hT hg hd;obtain⟨vs,hvs,hrs⟩:=vo hT hg hl
    exact⟨v::vs,by simp only[List.mapM_cons,OA,hv,OM,hvs,PD],aZ.2 ⟨hr,hrs⟩⟩
theorem oU{os os':List (Option Nat)}:Lh ((os++os').map (Mi g))=Lh (os.map (Mi g))++Lh (os'.map (Mi g)):=by rw[UD,aM]
theorem t_(hΓ : ML P Γ)(hm:LQ own g w m)(hle:P6 mm m):∀{ks:List Kd}{ds:List (Dat F)} {bx:List Nat} {p:Pk (TL F ks)},c_ Γ mm ks ds bx=some p→∀{Li:Nat→Prop},TH g p.fz Li→∀{vs:List Value}{Me:List Pl},MF P g w ds vs→
  bx.map g.ids=Me.map some→(ks.filter Kd.Ni).length=bx.length→
  ∃LJ,eE P w Li ks p.x vs Me LJ∧(Lh (p.os.map (Mi g))).Perm (Lh Me++Lh LJ)∧R4 mm p.fz∧(∀id,some id∈p.os→∃B,mm id=some B∧B.owned=true):=by
 have one:∀{k:Kd}{d:Dat F}{p:Pk (k.El F)},Rs Γ mm k d=some p→k.Ni=false→∀{Li:Nat→Prop},TH g p.fz Li→∀{v:Value},Ma P g w d v→
   Held P w Li k p.x v (p.os.map (Mi g)) []∧R4 mm p.fz∧(∀id,some id∈p.os→∃B,mm id=some B∧B.owned=true):=by
  intro k d p h hb Li hi v hr;obtain⟨Me,h1,h2,h3,h4,h5⟩:=r9 hΓ hm hle h hi hr
  have:Me = []:=by
   cases k with
   | box=>cases hb
   | v t ow=>exact h1.2
   | rp t=>exact h1.2.1
   | fn ks r=>exact h1.2.1
   | TD t=>exact h1.2.1
   | pk k t=>exact h1.2.1
   | ln t=>exact h1.2.1
   | nb t ow=>obtain⟨_,_,h,_⟩:=h1;exact h
   | cl f n=>exact h1.elim
   | row t arr=>cases hb
  subst this;exact⟨h1,h3,h4⟩
 have box:∀{t:Ty}{ow:List Nat}{b:Nat}{p:Pk (ET F t)},nE mm t ow (.c (.ptr b 0))=some p→∀{Li:Nat→Prop},TH g p.fz Li→∀{q':Pl},g.ids b=some q'→
   ∃(q:Nat×Nat×Nat)(LJ:List Pl),q'=some (Vq q)∧Ua w Li t ow p.x q.1 LJ∧Lh (p.os.map (Mi g))=q.1::Lh LJ∧R4 mm p.fz∧(∀id,some id∈p.os→∃B,mm id=some B∧B.owned=true):=by
  intro t ow b p h Li hi q' hq'
  obtain⟨q,hq⟩:∃q,g.ids b=some (some q):=by
   simp only[nE]at h;split at h
   ·rename_i cs Pj;obtain⟨b',c',arr,e,k1,_⟩:=hm.ok b _ (hle _ _ Pj);exact⟨_,k1⟩
   ·cases h
  rw[hq]at hq';cases hq';obtain⟨id,bx,os,h1,h2,h3,h4,h5,h6,h7,h8⟩:=nV hm hle h hi (P:=P) (v:=.pointer (some ⟨q.1,0,none⟩)) (.c (.ptr hq));cases h3;rw[hq]at h4;cases h4;refine⟨bx,os.map (Mi g),rfl,h6,?_,R4.Po h7,h8⟩;rw[h1];simp[Mi,hq,Lh,MO]
 intro ks
 induction ks with
 | nil=>
  intro ds bx p h Li hi vs Me hr hb hc
  cases ds with
  | cons d ds=>cases bx<;>simp[c_]at h
  | nil=>
   cases bx with
   | cons b bx=>simp[c_]at h
   | nil=>
    simp only[c_,NJ]at h;subst h;have h1:=iW hr
    have h2:Me = []:=by simpa using hb.symm
    subst h1 h2
    exact⟨[],⟨rfl,rfl,rfl⟩,by simp[Lh],λid hid=>by simp at hid,by simp⟩
 | cons k ks ih=>
  intro ds bx p h Li hi vs Me hr hb hc
  cases hkb:k.Ni with
  | true=>
   cases k with
   | v=>cases hkb
   | rp=>cases hkb
   | fn=>cases hkb
   | TD=>cases hkb
   | pk=>cases hkb
   | ln=>cases hkb
   | nb=>cases hkb
   | cl=>cases hkb
   | row t arr=>
    cases bx with
    | nil=>simp[UE,Kd.Ni]at hc
    | cons b bx=>
     obtain⟨q,Rz,rfl,hq,hb'⟩:=lR hb.symm
     have row:∀{p:Pk (List (ET F t))},rr mm t b=some p→OG w Li t p.x q∧p.os = [some b]∧R4 mm p.fz∧(∀id,some id∈p.os→∃B,mm id=some B∧B.owned=true):=by
      intro p hp;obtain⟨h1,h2,h3,h4,l,h5⟩:=uJ hm hle hp
      have e:Mi g (some b)=q:=by simp[Mi,← hq]
      rw[e]at h4
      refine⟨h4.le hi.Li,h1,λid hid=>by rw[h3]at hid;simp at hid,?_⟩
      intro id hid;rw[h1]at hid;simp only[Lb,NJ]at hid;subst hid;exact⟨_,h5,ke⟩
     have e1:Lh [Mi g (some b)]=Lh [q]:=by simp[Mi,← hq]
     cases ks with
     | nil=>
      have hbx:bx = []:=by apply Ui;simpa[UE,Kd.Ni]using hc.symm
      subst hbx
      have:Rz = []:=by simpa using hb'
      subst this
      cases ds with
      | cons d ds=>simp[c_]at h
      | nil=>
       simp only[c_]at h;obtain⟨h1,h2,h3,h4⟩:=row h;have hv:=iW hr;subst hv
       exact⟨[],⟨q,rfl,rfl,h1,rfl⟩,by rw[h2];simp only[M9,Oi];rw[e1];simp[Lh],h3,h4⟩
     | cons l ks=>
      simp only[c_]at h;split at h
      ·cases h
      ·rename_i p1 hp1;split at h
       ·cases h
       ·rename_i p2 hp2;cases h;obtain⟨h1,h2,h3,h4⟩:=row hp1
        obtain⟨Mk,k1,k2,k3,k4⟩:=ih hp2 (hi.sub (λid hid=>by simp[hid])) hr hb'.symm (by simpa[UE,Kd.Ni]using hc)
        refine⟨Mk,⟨q,Rz,rfl,h1,k1⟩,?_,h3.append k3,?_⟩
        ·show(Lh ((p1.os++p2.os).map (Mi g))).Perm _;rw[oU,h2];simp only[M9,Oi]
         rw[e1,show(q::Rz) = [q]++Rz from rfl,aM,P5]
         exact QeG _ k2
        ·intro id hid;rcases OB.1 hid with hid | hid
         ·exact h4 id hid
         ·exact k4 id hid
   | box t ow=>
    cases bx with
    | nil=>simp[UE,Kd.Ni]at hc
    | cons b bx=>
     obtain⟨q,Rz,rfl,hq,hb'⟩:=lR hb.symm
     cases ks with
     | nil=>
      have hbx:bx = []:=by apply Ui;simpa[UE,Kd.Ni]using hc.symm
      subst hbx
      have:Rz = []:=by simpa using hb'
      subst this
      cases ds with
      | cons d ds=>simp[c_]at h
      | nil=>
       simp only[c_]at h;obtain⟨q,LJ,rfl,h1,h2,h3,h4⟩:=box h hi hq.symm;have hv:=iW hr;subst hv
       exact⟨LJ,⟨q,rfl,rfl,h1⟩,by rw[h2];exact .refl _,h3,h4⟩
     | cons l ks=>
      simp only[c_]at h;split at h
      ·cases h
      ·rename_i p1 hp1;split at h
       ·cases h
       ·rename_i p2 hp2;cases h
        obtain⟨q,LJ,rfl,h1,h2,h3,h4⟩:=box hp1 (hi.sub (λid hid=>by simp[hid])) hq.symm
        obtain⟨Mk,k1,k2,k3,k4⟩:=ih hp2 (hi.sub (λid hid=>by simp[hid])) hr hb'.symm (by simpa[UE,Kd.Ni]using hc)
        refine⟨LJ++Mk,⟨q,Rz,LJ,Mk,rfl,rfl,h1,k1⟩,?_,h3.append k3,?_⟩
        ·show(Lh ((p1.os++p2.os).map (Mi g))).Perm _;rw[oU,h2,aM];show(q.1::Lh LJ++_).Perm (q.1::Lh Rz++_);rw[UF,UF];refine List.Perm.cons _ ?_;refine(QeG _ k2).trans ?_;rw[← P5,← P5];exact QgY _ QdD
        ·intro id hid;rcases OB.1 hid with hid | hid
         ·exact h4 id hid
         ·exact k4 id hid
  | false=>
   have hc':(ks.filter Kd.Ni).length=bx.length:=by rw[Z9 (by simp[hkb])]at hc;exact hc
   cases ks with
   | nil=>
    have hbx:bx = []:=by apply Ui;simpa using hc'.symm
    subst hbx
    have:Me = []:=by simpa using hb.symm
    subst this
    match ds,h,hr with
    | [],h,hr=>cases k<;>first | (cases hkb;done) | simp[c_]at h
    | [d],h,hr=>
     have h':Rs Γ mm k d=some p:=by cases k<;>first | (cases hkb;done) | exact h
     obtain⟨v,vs',rfl,h1,h2⟩:=jN hr;have hv:=iW h2;subst hv;obtain⟨k1,k2,k3⟩:=one h' hkb hi h1
     refine⟨p.os.map (Mi g),?_,by simp[Lh],k2,k3⟩
     cases k<;>first | (cases hkb;done) | exact⟨v,rfl,rfl,k1⟩
    | d::e::ds,h,hr=>cases k<;>first | (cases hkb;done) | simp[c_]at h
   | cons l ks=>
    match ds,h,hr with
    | [],h,hr=>cases k<;>first | (cases hkb;done) | simp[c_]at h
    | d::ds,h,hr=>
     have h':(match Rs Γ mm k d with
      | none=>none
      | some p=>match c_ Γ mm (l::ks) ds bx with
       | none=>none
       | some q=>some (⟨(p.x,q.x),p.os++q.os,p.fz++q.fz,p.bx++q.bx⟩:Pk (k.El F×TL F (l::ks))))=some p:=by cases k<;>first | (cases hkb;done) | exact h
     obtain⟨v,vs',rfl,h1,h2⟩:=jN hr;split at h'
     ·cases h'
     ·rename_i p1 hp1;split at h'
      ·cases h'
      ·rename_i p2 hp2;cases h'
       obtain⟨k1,k2,k3⟩:=one hp1 hkb (hi.sub (λid hid=>by simp[hid])) h1
       obtain⟨Mk,l1,l2,l3,l4⟩:=ih hp2 (hi.sub (λid hid=>by simp[hid])) h2 hb hc'
       refine⟨p1.os.map (Mi g)++Mk,?_,?_,k2.append l3,?_⟩
       ·cases k<;>first | (cases hkb;done) | exact⟨v,vs',_,Mk,rfl,rfl,k1,l1⟩
       ·show(Lh ((p1.os++p2.os).map (Mi g))).Perm _;rw[oU,aM];refine(QeG _ l2).trans ?_;rw[← P5,← P5];exact QgY _ QdD
       ·intro id hid;rcases OB.1 hid with hid | hid
        ·exact k3 id hid
        ·exact l4 id hid
theorem rj:∀(l:List (Dat F)) (k x:Nat) (d:Dat F),look (params k l) x=some d→∃j,x=k+j∧l[j]? = some d
 | [],k,x,d,h=>by simp[params,look]at h
 | y::l,k,x,d,h=>by
  simp only[params,az]at h;split at h
  ·rename_i hb;have:=Rh hb;subst this;cases h;exact⟨0,rfl,rfl⟩
  ·obtain⟨j,h1,h2⟩:=rj l (k+1) x d h
   exact⟨j+1,by omega,by simpa using h2⟩
theorem cG:∀{ks:List Kd}{a:HL F ks}{c:Nat},(aU ks a c).length=(ks.filter Kd.Ni).length
 | [],_,_=>rfl
 | .v t ow::ks,a,c=>by simp only[aU];rw[cG];rfl
 | .box t ow::ks,a,c=>by simp only[aU,PN];rw[cG];rfl
 | .rp t::ks,a,c=>by simp only[aU];rw[cG];rfl
 | .fn k r::ks,a,c=>by simp only[aU];rw[cG];rfl
 | .TD t::ks,a,c=>by simp only[aU];rw[cG];rfl
 | .pk k0 t::ks,a,c=>by simp only[aU];rw[cG];rfl
 | .ln t::ks,a,c=>by simp only[aU];rw[cG];rfl
 | .nb t ow::ks,a,c=>by simp only[aU];rw[cG];rfl
 | .row t arr::ks,a,c=>by simp only[aU,PN];rw[cG];rfl
 | .cl f n::ks,a,c=>by simp only[aU];rw[cG];rfl
theorem pR{Li:Nat→Prop}:∀{ks:List Kd}{a:HL F ks}{vs:List Value}{LJ:List Pl} {Me:List Pl},db P w Li ks a vs LJ Me→vs.length≤ks.length
 | [],a,vs,LJ,Me,h=>by rw[h.1];exact MN _
 | k::ks,a,vs,LJ,Me,h=>by
  cases hk:k.Ur with
  | true=>
   cases k with
   | cl f n=>obtain⟨us,vs',rfl,hl,h2⟩:=h;have:=pR h2;simp only[La]at this;simp only[PN];omega
   | _=>cases hk
  | false=>
  obtain⟨v,vs',p1,p2,b1,b2,rfl,_,_,_,h2⟩:=pd hk h;simpa using pR h2
theorem oR{α : Type}{x:Nat}:∀{l:List (Nat×α)} {y:α},look l x=some y→(x,y)∈l
 | [],y,h=>by simp[look]at h
 | (z,b)::l,y,h=>by
  rw[az]at h;split at h
  ·rename_i hb;have:=Rh hb;subst this;cases h;simp
  ·exact Uh _ (oR h)
theorem uL{fn:Func}{a:Act}{vs:List Value}(h:(fn.results.toList.mapM (rG a.tmps)).run P w = .ok vs w):(results fn a.tmps).run P w = .ok (U6 vs) w:=by
 have hmap:(fn.results.mapM (rG a.tmps)).run P w = .ok ⟨vs⟩ w:=by rw[Array.mapM_eq_mapM_toList];simp[h]
 have hres:(results fn a.tmps).run P w = .ok (if h:(⟨vs⟩:Array Value).size=1 then(⟨vs⟩:Array Value)[0]else .tuple ⟨vs⟩) w:=by
  unfold results;rw[OA]
  have e:(λ(r:ResultVar)=>match r with | .tmp t=>(Pure.pure (a.tmps.getD t undef):Sem Value) | .cell x t=>do loadVar t (← asAddr (a.tmps.getD x undef)))=rG a.tmps:=by
   funext r
   cases r<;>rfl
  have e2:(fn.results.mapM (λ(r:ResultVar)=>match r with | .tmp t=>(Pure.pure (a.tmps.getD t undef):Sem Value) | .cell x t=>do loadVar t (← asAddr (a.tmps.getD x undef)))).run P w = .ok ⟨vs⟩ w:=by rw[e];exact hmap
  exact(congrArg (λr=>Result.andThen r _) e2)
 rw[hres]
 match vs with
 | [v]=>rfl
 | []=>rfl
 | v::x::vs=>
  rw[dif_neg]
  ·rfl
  ·simp
theorem ql{Li:Nat→Prop}:∀{ks:List Kd}{a:HL F ks}{vs:List Value}{LJ:List Pl} {Me:List Pl},ks.all Kd.ab1=true→db P w Li ks a vs LJ Me→LJ = []
 | [],a,vs,LJ,Me,_,h=>h.2.1
 | k::ks,a,vs,LJ,Me,hn,h=>by
  simp only[Z4,Np]at hn
  have hk:k.Ur=false:=by
   cases k with
   | cl f n=>cases hn.1
   | _=>rfl
  obtain⟨v,vs',p1,p2,b1,b2,rfl,rfl,rfl,h1,h2⟩:=pd hk h;rw[ql hn.2 h2,Wq]
  cases k with
  | v t ow=>cases ow with
   | nil=>exact h1.1.OX
   | cons=>cases hn.1
  | box=>cases hn.1
  | row=>cases hn.1
  | rp=>exact h1.1
  | fn=>exact h1.1
  | TD=>exact h1.1
  | pk=>exact h1.1
  | ln=>exact h1.1
  | nb=>cases hn.1
  | cl=>cases hn.1
theorem ud{Li:Nat→Prop}:∀{ks:List Kd}{a:HL F ks}{vs:List Value}{LJ:List Pl} {Me:List Pl},db P w Li ks a vs LJ Me→∃L:Nat→Prop,(∀b,L b→b<w.heap.size)∧(ks.all (λk=>!k.X8)=true→∀b,¬ L b)∧
  ∀{g:G},(∀b,L b→g.len b)→∀{ds:List (Dat F)},MF P g w ds vs→MF P g w (TQ ks a ds) vs
 | [],a,vs,LJ,Me,h=>⟨λ_=>False,λ_ h=>h.elim,λ_ _ h=>h,λ_ _ h=>h⟩
 | k::ks,a,vs,LJ,Me,h=>by
  cases hk:k.Ur with
  | true=>
   cases k with
   | cl f n=>
    obtain⟨us,vs',rfl,hl,h2⟩:=h;obtain⟨L,l1,l2,l3⟩:=ud h2
    refine⟨L,l1,λhh=>l2 (by simpa[Kd.X8]using hh),λ{g} hg {ds} hr=>?_⟩
    match ds,hr with
    | [],hr=>exact hr
    | d::ds,hr=>exact hr
   | _=>cases hk
  | false=>
  obtain⟨v,vs',p1,p2,b1,b2,rfl,rfl,rfl,h1,h2⟩:=pd hk h;clear h;obtain⟨L,l1,l2,l3⟩:=ud h2
  have plain:k.X8=false→(∀(a:HL F (k::ks)) (d:Dat F) (ds:List (Dat F)),TQ (k::ks) a (d::ds)=d::TQ ks a.2 ds)→∃L:Nat→Prop,(∀b,L b→b<w.heap.size)∧((k::ks).all (λk=>!k.X8)=true→∀b,¬ L b)∧
    ∀{g:G},(∀b,L b→g.len b)→∀{ds:List (Dat F)},MF P g w ds (v::vs')→MF P g w (TQ (k::ks) a ds) (v::vs'):=by
   intro hk he
   refine⟨L,l1,λhh=>l2 (by simpa[hk]using hh),λ{g} hg {ds} hr=>?_⟩
   match ds,hr with
   | [],hr=>exact absurd hr.1 (by simp)
   | d::ds,hr=>rw[he];have:=aZ.1 hr;exact aZ.2 ⟨this.1,l3 hg this.2⟩
  cases k with
  | v=>exact plain rfl λ_ _ _=>rfl
  | box=>exact plain rfl λ_ _ _=>rfl
  | row=>exact plain rfl λ_ _ _=>rfl
  | rp=>exact plain rfl λ_ _ _=>rfl
  | fn=>exact plain rfl λ_ _ _=>rfl
  | TD=>exact plain rfl λ_ _ _=>rfl
  | pk=>exact plain rfl λ_ _ _=>rfl
  | nb=>exact plain rfl λ_ _ _=>rfl
  | cl=>cases hk
  | ln t=>
   obtain⟨_,_,I,i1,i2⟩:=h1
   refine⟨λb=>I b∨L b,λb hb=>hb.elim (i1 b) (l1 b),λhh=>by simp[Kd.X8]at hh,λ{g} hg {ds} hr=>?_⟩
   match ds,hr with
   | [],hr=>exact absurd hr.1 (by simp)
   | d::ds,hr=>
    have hrr:=aZ.1 hr;refine aZ.2 ⟨?_,l3 (λb hb=>hg b (.inr hb)) hrr.2⟩
    have cel:∀(d:ND F)(x:Value),L_ w I d x→Mh g w (if d.flat then .im d else .ln d) x:=by
     intro d x h;split
     ·rename_i hf;exact .im (h.flat hf)
     ·exact .ln (h.mono (λb hb=>.inr (hg b (.inl hb))) λ_ _=>rfl)
    have hrt:=rT i2;show Ma P g w (Zj t a.1) v;unfold Zj VW;generalize LZ F t a.1=cs at hrt
    cases hs:t.OP with
    | true=>
     rw[hs]at hrt
     cases hrt with
     | agg hl h=>
      rw[if_pos rfl]
      refine .agg (by rw[Py];exact hl) λk c x a b=>?_
      rw[Rf]at a;obtain⟨c0,h0,rfl⟩:=Wi.1 a;exact cel c0 x (h k c0 x h0 b)
    | false=>
     rw[hs]at hrt
     cases hrt with
     | one h=>exact .c (cel _ _ h)
theorem JB (hT : Mc P T) (hΓ : ML P Γ) (NM : P.follows .mixedOrders = true) {f : FuncId} {fn : Func} {sp : Spec F} {h : Hint} (hf : P.funcs[f]? = some fn) (hnm : (fn.name == "runtime.NumGoroutine") = false) (hbn : fn.body.isNone = false) (hlen : Nat.ble sp.ks.length fn.ntmps = true)
  (hrs:sp.rs.all (λk=>!k.Ni)=true) (hD:∀a r,sp.D a=some r→WY T Γ nv fn h sp.ks sp.rs a=some r):O6 P f sp:=by
 refine⟨?_,?_⟩
 ·exact⟨fn,hf,hnm,hbn⟩
 intro a r hr Li w vs LJ Me Oq hpl MQ;have hd:=hD a r hr;unfold WY at hd;split at hd
 ·cases hd
 ·rename_i body hbody;dsimp only at hd;obtain⟨VY,hd⟩:=aQ hd;obtain⟨L,l1,l2,l3⟩:=ud Oq
  let g0:G:=⟨(G.Vv 0 LJ Li).ids,Li,L⟩
  have adf:Pm g0 0 LJ:=λj pl hj=>wE (I:=Li) (LJ:=LJ) (c:=0) j pl hj;obtain⟨h1,h2,h3,h4⟩:=si (g:=g0) (c:=0) Oq adf;have h1:=l3 (g:=g0) (λ_ h=>h) h1
  have Xe:∀b,L b→¬ (b∈Lh LJ∨w.heap.size≤b)∧b<w.heap.size:=by
   intro b hb;refine⟨λho=>?_,l1 b hb⟩;rcases UC _ _▸VY with hs | hs
   ·exact l2 hs b hb
   ·rw[ql hs Oq]at ho;rcases ho with ho | ho
    ·simp[Lh]at ho
    ·exact absurd (l1 b hb) (Nat.not_lt.2 ho)
  simp only[OW]at h3;refine calls_of_wp hf hbody ?_
  let own:Ow:=⟨λb=>b∈Lh LJ∨w.heap.size≤b,Li,(G.Vv 0 LJ Li).ids⟩
  have hvl:=pR Oq;have hlen':sp.ks.length≤fn.ntmps:=U4 hlen
  have hblk:∀{id:Nat}{B:Mg F}{b:Nat},look (NV sp.ks a 0).2.1 id=some B→g0.blk id b→∃b0 q,LJ[id]? = some (some (b0,q))∧b∈b0::MO q.2.2:=by rintro id B b _ ⟨b0,q,hq,hbb⟩;simp only[g0,G.Vv]at hq;rw[if_pos (Yx _),Nat.sub_zero]at hq;exact⟨b0,q,hq,hbb⟩
  have hgood:Good P own w fn.ntmps (⟨params 0 (TQ sp.ks a (NV sp.ks a 0).1),(NV sp.ks a 0).2.1,(NV sp.ks a 0).2.2,[],[]⟩:TS F).st g0 { tmps:=(⟨vs⟩:Array Value)++Array.replicate (fn.ntmps - (⟨vs⟩:Array Value).size) undef,defers:=[] } w:=by
   refine⟨rfl,?_,?_,⟨?_,?_,?_,MQ,λb hb=>.inl hb,Xe⟩,?_,λ_ h=>h,⟨rfl,rfl,rfl,MN _,λb hb=>.inr hb,λ_ _ _=>rfl,MN _⟩,λ_ _ h=>h⟩
   ·simp[hvl];omega
   ·intro x d hx;obtain⟨j,rfl,hj⟩:=rj _ 0 x d hx
    have hlt:j<vs.length:=by rw[h1.1];exact(K_.1 hj).1
    have:((⟨vs⟩:Array Value)++Array.replicate (fn.ntmps - (⟨vs⟩:Array Value).size) undef).getD (0+j) undef=vs[j]:=by
     rw[OW,UH,QfA (by simpa using hlt)]
     simp[hlt]
    rw[this];exact h1.2 j d _ hj (K9 hlt)
   ·intro id B hB;obtain⟨j,_,_,_,q⟩:=h2 _ (oR hB);exact q
   ·intro id id' B B' b hB hB' _ _ hb hb';obtain⟨b0,q,hq,hx⟩:=hblk hB hb;obtain⟨b0',q',hq',hx'⟩:=hblk hB' hb';exact mG hpl.nodup hq hx hq' hx'
   ·intro id B b hB _ hb;obtain⟨b0,q,hq,hx⟩:=hblk hB hb;have:=cI.2 ⟨id,b0,q,hq,hx⟩;exact⟨.inl this,hpl.Li b this⟩
   ·intro id hid;simp only[TS.st,bX,decide_eq_false_iff_not,h3]at hid;simp only[g0,G.Vv]
    rw[if_pos (Yx _),Nat.sub_zero,QeZ (by omega)]
  refine wp_mono (Kh hT hΓ NM h body _ _ r hd _ _ _ hgood) ?_;rintro e a' w' ⟨k,s',g',rfl,k2,k3,k4⟩
  have key:bodyPost P fn (λe w'=>∃(Ru:List Value)(LX:Nat→Prop)(Mk:List Pl),e = .returned (U6 Ru)∧
   w'.os=w.os∧w'.tape=w.tape∧w'.output=w.output∧w.drawn≤w'.drawn∧w.heap.size≤w'.heap.size∧(∀b,b<w.heap.size→b∉Lh LJ→w'.heap[b]? = w.heap[b]?)∧
   (∀b,Li b→LX b)∧(∀b,LX b→Li b∨b∈Lh LJ∨w.heap.size≤b)∧(∀b,LX b→b<w'.heap.size)∧
   eE P w' LX (outs sp) r Ru Me Mk∧Sw w' LX (Lh Me++Lh Mk)∧∀b∈Lh Me++Lh Mk,b∈Lh LJ∨w.heap.size≤b) .ret a' w'∧(k=0∨k=1):=by
   have hk:(k=0∨k=1)∧Tf T Γ fn sp.ks sp.rs a s'=some r:=by
    match k,k2 with
    | 0,k2=>exact⟨.inl rfl,k2⟩
    | 1,k2=>exact⟨.inr rfl,k2⟩
    | k+2,k2=>cases k2
   refine⟨?_,hk.1⟩;have k2:=hk.2;unfold Tf at k2;split at k2
   ·cases k2
   ·rename_i rd hrd;split at k2
    ·cases k2
    ·rename_i p hp;obtain⟨hc,k2⟩:=aQ k2;simp only[Np]at hc;cases k2;obtain⟨Ru,q1,q2⟩:=vo hT k4 hrd
     have Zw:(aU sp.ks a 0).map g'.ids=Me.map some:=by rw[← h4];refine YC λid hid=>?_;obtain⟨q,_,hq⟩:=m0 h4 hid;rw[hq];exact k4.Sn id _ hq
     have hcnt:((sp.rs++sp.ks.filter Kd.Ni).filter Kd.Ni).length=(aU sp.ks a 0).length:=by
      rw[cG,Z7,QgQ]
      have:sp.rs.filter Kd.Ni = []:=by rw[QeA];intro k hk;have:=Td.1 hrs k hk;simpa using this
      rw[this];simp
     obtain⟨Mk,p1,p2,p3,p4⟩:=t_ hΓ k4.mem (λ_ _ h=>h) hp (Li:=(g'.Rm p.fz).Li) ⟨λ_ h=>.inl h,λid hid b hb=>.inr ⟨id,hid,hb⟩⟩ q2 Zw hcnt;have hfr:=mU k4.mem (λ_ _ h=>h) p3
     have hL:∀b∈Lh Me++Lh Mk,∃id B,some id∈p.os∧look s'.M id=some B∧B.owned=true∧g'.blk id b:=by intro b hb;obtain⟨id,r1,r2⟩:=cg.1 (p2.mem_iff.2 hb);obtain⟨B,r3,r4⟩:=p4 id r1;exact⟨id,B,r1,r3,r4,r2⟩
     refine⟨k4.Ue,U6 Ru,uL q1,Ru,(g'.Rm p.fz).Li,Mk,rfl,k4.NW.os,k4.NW.tape,k4.NW.output,k4.NW.drawn,k4.NW.size,?_,λb hb=>.inl (k4.Tw b hb),?_,hfr.Li,p1,⟨?_,?_,?_⟩,?_⟩
     ·intro b hb hno
      exact k4.NW.block b hb (λho=>ho.elim hno (λh=>by omega))
     ·intro b hb;exact hfr.io b hb
     ·exact p2.nodup_iff.1 (kh k4.mem (jm hc.1) p4)
     ·intro b hb;obtain⟨id,B,r1,r2,r3,r4⟩:=hL b hb;have hno:id∉p.fz:=nM hc.2 id (fT.2 r1)
      exact(hfr.own id B b (by rw[kV,if_neg hno];exact r2) r3 r4).2
     ·intro b hb;obtain⟨id,B,r1,r2,r3,r4⟩:=hL b hb;exact(k4.mem.ok id B r2).place k4.mem.Li (Mg.PU r3) r4
     ·intro b hb;obtain⟨id,B,r1,r2,r3,r4⟩:=hL b hb;exact(k4.mem.own id B b r2 r3 r4).1
  obtain⟨key,hk⟩:=key;rcases hk with rfl | rfl
  ·exact key
  ·exact key
end
set_option linter.unusedVariables false
set_option linter.unusedSimpArgs false
section
variable{F:Fam}
def acL:ND F→Value→Bool
 | .i k n,.int k' m=>k == k'&&n == m
 | .b x,.bool y=>x == y
 | .s [],.string ⟨⟨[]⟩⟩=>true
 | .nl,.slice none 0 0=>true
 | .v (.pointer none),.pointer none=>true
 | .v (.map none),.map none=>true
 | _,_=>false
def zok:List (ND F)→List Value→Bool
 | [],[]=>true
 | d::l,x::r=>acL d x&&zok l r
 | _,_=>false
theorem JP{d:ND F}{x:Value}(h:acL d x=true)(w:World)(Li:Nat→Prop):L_ w Li d x:=by
 unfold acL at h;split at h
 ·simp only[Np,beq_iff_eq]at h;obtain⟨rfl,rfl⟩:=h;exact .i _ _
 ·simp only[beq_iff_eq]at h;subst h;exact .b _
 ·exact .s []
 ·exact .nl _
 ·exact .v _ rfl
 ·exact .v _ rfl
 ·cases h
theorem Ee:∀{l:List (ND F)} {r:List Value},zok l r=true→l.length=r.length∧∀(w:World)(Li:Nat→Prop)(k:Nat)(d:ND F) (x:Value),l[k]? = some d→r[k]? = some x→L_ w Li d x
 | [],[],_=>by simp
 | d::l,x::r,h=>by
  simp only[zok,Np]at h;obtain⟨h1,h2⟩:=Ee h.2
  refine⟨by simp[h1],?_⟩
  intro w Li k d' x' a b
  cases k with
  | zero=>simp only[PW,NJ]at a b;subst a b;exact JP h.1 w Li
  | succ k=>exact h2 w Li k d' x' (by simpa using a) (by simpa using b)
 | [],_::_,h=>by cases h
 | _::_,[],h=>by cases h
def acN(i:TI F):Bool:=match i.ty with | some tt=>Nat.beq (LY F tt) i.size | none=>true
def ZB(P:Program)(t:TypeId)(i:TI F):Bool:=if i.eq then !(P.stoodInHeld t)&&!(P.eqGuardType P.depth t)else true
structure Mt(P:Program)(t:TypeId)(i:TI F):Prop where
 und:P.underlying t=some i.desc
 info:∃j z,P.info? t=some j∧j.zero=some z∧(Nat.beq j.size i.size&&Nat.beq j.bytes i.bytes&&Nat.beq z.cells.size i.size&&zok i.zero z.cells.toList&&(adv z == fM i.desc))=true
 ty:acN i=true
 eq:ZB P t i=true
theorem afQ{P:Program}{tbl:List (Nat×TI F)}(h:∀p∈tbl,Mt P p.1 p.2):Mc P (look tbl):=by
 have mem:∀{t:Nat}{i:TI F},look tbl t=some i→Mt P t i:=λht=>h _ (oR ht);refine⟨λt i ht=>(mem ht).und,?_,?_,?_,?_⟩
 ·intro t i ht;obtain⟨j,z,h1,h2,h3⟩:=(mem ht).info;simp only[Np]at h3;obtain⟨⟨⟨⟨k1,k2⟩,k3⟩,k4⟩,_⟩:=h3;have k1:=Rh k1;have k2:=Rh k2;have k3:=Rh k3;obtain⟨l1,l2⟩:=Ee k4
  refine⟨j,h1,k1,k2,z,h2,k3,by rw[l1];simpa using k3,?_⟩
  intro w Li k d x a b
  exact l2 w Li k d x a (by simpa using b)
 ·intro t i ht he;have:=(mem ht).eq;simp only[ZB,he,if_true,Np,U3]at this;exact⟨this.1,this.2⟩
 ·intro t i tt ht he;have:=(mem ht).ty;simp only[acN,he]at this;exact Rh this
 ·intro t i j z ht hj hz;obtain⟨j',z',h1,h2,h3⟩:=(mem ht).info;rw[hj]at h1;cases h1;rw[hz]at h2;cases h2;simp only[Np,beq_iff_eq]at h3;exact h3.2
theorem all_nil{P:Program}:∀p∈([]:List (Nat×TI F)),Mt P p.1 p.2:=by simp
theorem all_cons{P:Program}{t:Nat}{i:TI F}{l:List (Nat×TI F)}(h:Mt P t i)(k:∀p∈l,Mt P p.1 p.2):∀p∈((t,i)::l),Mt P p.1 p.2:=by
 intro p hp;rcases Nz.1 hp with rfl | hp
 ·exact h
 ·exact k p hp
theorem ag{P:Program}:ML (F:=F) P []:=λ_ _ h=>by simp[look]at h
theorem ab{P:Program}{f:FuncId}{sp:Spec F}{Γ : Ctx F}(h:O6 P f sp)(k:ML P Γ):ML P ((f,sp)::Γ):=by
 intro g s hg;rw[az]at hg;split at hg
 ·rename_i hb;have:=Rh hb;subst this;cases hg;exact h
 ·exact k g s hg
theorem SA {P : Program} {T : TypeId → Option (TI F)} {Γ : Ctx F} {nv : Nat} (hT : Mc P T) (NM : P.follows .mixedOrders = true) (hΓ : ML P Γ) {f : FuncId} {fn : Func} {sp : Spec F} {h : Hint} (hf : P.funcs[f]? = some fn) (hnm : (fn.name == "runtime.NumGoroutine") = false) (hbn : fn.body.isNone = false) (hlen : Nat.ble sp.ks.length fn.ntmps = true)
  (hrs:sp.rs.all (λk=>!k.Ni)=true) (hD:(λa=>WY T Γ nv fn h sp.ks sp.rs a)=sp.D):O6 P f sp:=
 JB hT hΓ NM hf hnm hbn hlen hrs (λa r hr=>by rw[← hD]at hr;exact hr)
end
end Go.Fx
namespace Go.Fx
open Go Go.ChangeShapes Go.RowKit
set_option linter.unusedVariables false
set_option linter.unusedSimpArgs false
section
variable{F:Fam}
def xt(F:Fam):Ty→List Ty
 | .st n=>F.fs n
 | t=>[t]
mutual
inductive Wp(F:Fam):(t:Ty)→ET F t→Prop where
 | int {k:IntKind} {n:Int} (h:(Lit.int k n).wf=true):Wp F (.int k) n
 | bool (b:Bool):Wp F .bool b
 | str {l:List UInt8} (h:l.length≤maxLen):Wp F .str l
 | slice {t:Ty} {l:List (ET F t)} (hl:l.length≤maxLen) (h:∀x∈l,Wp F t x):Wp F (.slice t) l
 | st {n:Nat} {x:F.S n} (h:WfF F (F.fs n) (F.un n x)):Wp F (.st n) x
inductive WfF(F:Fam):(ts:List Ty)→M7 F ts→Prop where
 | nil (a:M7 F []):WfF F [] a
 | cons {t:Ty} {r:List Ty} {a:M7 F (t::r)} (h:Wp F t a.1) (k:WfF F r a.2):WfF F (t::r) a
end
def Vt(W:World):Nat→Prop:=λb=>b<W.heap.size
def Vw(F:Fam)(W:World)(tys:List Ty)(cs:List Value):Prop:=
 ∃a:M7 F tys,cs.length=tys.length∧(∀(k:Nat)(d:ND F)(v:Value),(OU F tys a)[k]? = some d→cs[k]? = some v→L_ W (Vt W) d v)∧WfF F tys a
theorem Vw.nil{W:World}:Vw F W [] []:=⟨(),rfl,by simp[OU],.nil _⟩
theorem Vw.cons{W:World}{t:Ty}{v:Value}{x:ET F t}{tys:List Ty}{cs:List Value}(hr:L_ W (Vt W) (enc1 F t x) v)(hw:Wp F t x)(h:Vw F W tys cs):Vw F W (t::tys) (v::cs):=by
 obtain⟨a,h1,h2,h3⟩:=h
 refine⟨(x,a),by simp[h1],?_,.cons hw h3⟩
 intro k d u hd hu
 cases k with
 | zero=>simp only[OU,PW,NJ]at hd hu;subst hd hu;exact hr
 | succ k=>exact h2 k d u (by simpa[OU]using hd) (by simpa using hu)
theorem Vw.one{W:World}{t:Ty}{v:Value}{x:ET F t}(hr:L_ W (Vt W) (enc1 F t x) v)(hw:Wp F t x):Vw F W [t] [v]:=.cons hr hw .nil
theorem Vw.append{W:World}:∀{s t:List Ty}{cs ds:List Value},Vw F W s cs→Vw F W t ds→Vw F W (s++t) (cs++ds)
 | [],t,cs,ds,h,k=>by obtain⟨a,h1,_,_⟩:=h;have:cs = []:=Ui h1;subst this;exact k
 | x::s,t,cs,ds,h,k=>by
  obtain⟨a,h1,h2,h3⟩:=h
  match cs,h1 with
  | c::cs,h1=>
   cases h3 with
   | cons h3 h4=>
    exact .cons (h2 0 _ c rfl rfl) h3 (Vw.append ⟨a.2,by simpa using h1,λk d v hd hv=>h2 (k+1) d v (by simpa[OU]using hd) (by simpa using hv),h4⟩ k)
def RdT(F:Fam)(W:World)(t:Ty)(cs:List Value)(x:ET F t):Prop:=
 cs.length=LY F t∧(∀(k:Nat)(d:ND F)(v:Value),(LZ F t x)[k]? = some d→cs[k]? = some v→L_ W (Vt W) d v)∧Wp F t x
theorem Vw.toT{W:World}{t:Ty}{cs:List Value}(h:Vw F W (xt F t) cs):∃x:ET F t,RdT F W t cs x:=by
 obtain⟨a,h1,h2,h3⟩:=h
 have st:∀{n:Nat}(a:M7 F (F.fs n)),cs.length=(F.fs n).length→(∀(k:Nat)(d:ND F)(v:Value),(OU F (F.fs n) a)[k]? = some d→cs[k]? = some v→L_ W (Vt W) d v)→WfF F (F.fs n) a→∃x:ET F (.st n),RdT F W (.st n) cs x:=by
  intro n a k1 k2 k3
  exact⟨F.up n a,k1,by simpa only[LZ,F.um]using k2,.st (by rw[F.um];exact k3)⟩
 have one:∀{t:Ty}(a:M7 F [t]),WfF F [t] a→Wp F t a.1:=by
  intro t a h
  cases h with
  | cons h _=>exact h
 cases t with
 | st n=>exact st a h1 h2 h3
 | int k=>exact⟨a.1,h1,h2,one a h3⟩
 | bool=>exact⟨a.1,h1,h2,one a h3⟩
 | str=>exact⟨a.1,h1,h2,one a h3⟩
 | slice t=>exact⟨a.1,h1,h2,one a h3⟩
def YG(rd:TypeId→List Ty→Bool)(sz:TypeId→Nat):List Field→Nat→List Ty→Bool
 | [],_,tys=>tys.isEmpty
 | f::fs,off,tys=>Nat.beq f.offset off&&Nat.ble (sz f.type) tys.length&&rd f.type (tys.take (sz f.type))&&YG rd sz fs (off+sz f.type) (tys.drop (sz f.type))
def YH(rd:List Ty→Bool)(sz:Nat):Nat→List Ty→Bool
 | 0,tys=>tys.isEmpty
 | n+1,tys=>Nat.ble sz tys.length&&rd (tys.take sz)&&YH rd sz n (tys.drop sz)
def ZW(F:Fam)(P:Program):Nat→TypeId→List Ty→Bool
 | 0,_,_=>false
 | f+1,t,tys=>match P.underlying t with
  | some (.int k)=>match tys with | [.int k']=>decide (k=k') | _=>false
  | some .bool=>match tys with | [.bool]=>true | _=>false
  | some .string=>match tys with | [.str]=>true | _=>false
  | some (.slice e)=>match tys with | [.slice tt]=>ZW F P f e (xt F tt)&&Nat.beq (P.cellsOf e) (LY F tt)&&Nat.blt 0 (LY F tt) | _=>false
  | some (.struct fs)=>Nat.beq (P.cellsOf t) tys.length&&YG (ZW F P f) P.cellsOf fs.toList 0 tys
  | some (.array n e)=>Nat.beq (P.cellsOf t) tys.length&&YH (ZW F P f e) (P.cellsOf e) n tys
  | _=>false
variable{H:Type}{enc:TypeId×Value→H}{P:Program}{W:World}
theorem v_{a:Addr}{n:Nat}{cs:List Value}(h:W.cells? 0 a n=some cs):cs.length=n∧∀i,i<n→W.cell? (a.add i)=cs[i]?:=by
 unfold World.cells? at h;rw[if_pos (Yx _)]at h
 exact⟨by simpa using mapM_some_length h,λi hi=>mapM_some_get h i i (by simp[hi])⟩
theorem BU{α : Type}{Q:Nat→α→Prop}:∀(n:Nat),(∀i,i<n→∃x,Q i x)→∃l:List α,l.length=n∧∀i x,l[i]? = some x→Q i x
 | 0,_=>⟨[],rfl,by simp⟩
 | n+1,h=>by
  obtain⟨l,h1,h2⟩:=BU n (λi hi=>h i (by omega))
  obtain⟨x,hx⟩:=h n (by omega)
  refine⟨l++[x],by simp[h1],λi y hy=>?_⟩
  by_cases hi:i<n
  ·rw[Rv (by omega)]at hy;exact h2 i y hy
  ·rw[RF (by omega)]at hy
   have:i=n:=by have:=(K_.1 hy).1;simp at this;omega
   subst this;rw[h1]at hy;simp at hy;subst hy;exact hx
theorem Cu{α : Type}{sz:Nat}(h0:0<sz):∀{es:List (List α)} (_:∀e∈es,e.length=sz) {k:Nat} {d:α} (_:es.flatten[k]? = some d),∃e,es[k / sz]? = some e∧e[k % sz]? = some d
 | [],_,k,d,h=>by simp at h
 | e::es,hs,k,d,h=>by
  have he:=hs e (by simp)
  rw[YB]at h;by_cases hk:k<sz
  ·rw[Rv (by omega)]at h
   exact⟨e,by rw[Nat.div_eq_of_lt hk];rfl,by rw[Nat.mod_eq_of_lt hk];exact h⟩
  ·rw[RF (by omega),he]at h
   obtain⟨e',h1,h2⟩:=Cu h0 (λe he=>hs e (by simp[he])) h
   refine⟨e',?_,?_⟩
   ·rw[Nat.div_eq_sub_div h0 (by omega)];simpa using h1
   ·rw[Nat.mod_eq_sub_mod (by omega)];exact h2
theorem yU:∀(f:Nat){fuel:Nat}{t:TypeId}{tys:List Ty} {cs:List Value} {x:DataW H×List MemPlace},ZW F P f t tys=true→DataW.trod enc P W 0 (λ_=>true) true fuel t cs=some x→Vw F W tys cs
 | 0,fuel,t,tys,cs,x,hb,h=>by simp[ZW]at hb
 | f+1,fuel,t,tys,cs,x,hb,h=>by
  unfold ZW at hb;split at hb
  ·rename_i k ht;split at hb
   ·rename_i k'
    have hk:k=k':=by simpa using hb
    subst hk;obtain⟨n,rfl,_,hw⟩:=DataW.trod_int ht h;exact .one (t:=.int k) (.i k n) (.int hw)
   ·cases hb
  ·rename_i ht;split at hb
   ·obtain⟨b,rfl,_⟩:=DataW.trod_bool ht h;exact .one (t:=.bool) (.b b) (.bool b)
   ·cases hb
  ·rename_i ht;split at hb
   ·obtain⟨s,rfl,_,hl⟩:=DataW.trod_string ht h;refine .one (t:=.str) (x:=s.data.toList) (v:=.string s) ?_ (.str ?_)
    ·have:=L_.s (F:=F) (w:=W) (Li:=Vt W) s.data.toList;exact this
    ·exact hl
   ·cases hb
  ·rename_i e ht;split at hb
   ·rename_i tt;simp only[Np]at hb;obtain⟨⟨hb1,hb2⟩,hb3⟩:=hb;have hsz:=Rh hb2;have hpos:0<LY F tt:=R7.mp hb3;rcases DataW.trod_slice ht h with⟨rfl,_⟩ | ⟨a,len,cap,elems,rest,n,_,rfl,_,_,hlc,hcm,hel,h1,h2,_⟩
    ·exact .one (t:=.slice tt) (x:=[]) (.sl0 tt none) (.slice (by simp) (by simp))
    ·
     have hall:∀i,i<len→∃x:ET F tt,∃cs,W.cells? 0 (a.add (i*LY F tt)) (LY F tt)=some cs∧RdT F W tt cs x:=by
      intro i hi;have hbind:=h1 i hi
      have hlt:i<elems.length:=by omega
      rw[K9 hlt,hsz,ZV]at hbind;obtain⟨cs,hcs,htr⟩:=hbind;obtain⟨x,hx⟩:=(yU f hb1 htr).toT;exact⟨x,cs,hcs,hx⟩
     by_cases hcap:cap=0
     ·subst hcap
      have:len=0:=by omega
      subst this
      exact .one (t:=.slice tt) (x:=[]) (.sl0 tt (some a)) (.slice (by simp) (by simp))
     ·
      have adB:∃cs,W.cells? 0 a (LY F tt)=some cs:=by
       have e0:a.add (0*LY F tt)=a:=by simp[Addr.add]
       by_cases hl0:0<len
       ·obtain⟨_,cs,hcs,_⟩:=hall 0 hl0;rw[e0]at hcs;exact⟨cs,hcs⟩
       ·have hl0:len=0:=by omega
        subst hl0;obtain⟨hr1,hr2⟩:=h2 rfl
        have hbind:=hr2 0 (by omega)
        have hlt:0<rest.length:=by omega
        rw[K9 hlt,hsz,ZV]at hbind;obtain⟨cs,hcs,_⟩:=hbind;simp only[OW]at hcs;rw[e0]at hcs;exact⟨cs,hcs⟩
      obtain⟨cs0,ape⟩:=adB;obtain⟨Xe,akB⟩:=v_ ape;have hc0:=akB 0 hpos
      have e1:a.add 0=a:=by simp[Addr.add]
      rw[e1,K9 (by omega)]at hc0
      have hblk:a.block<W.heap.size∧a.spot=none:=by
       unfold World.cell? at hc0;split at hc0
       ·rename_i hh;refine⟨(Wj.1 hh).1,?_⟩
        cases hs:a.spot with
        | none=>rfl
        | some s=>rw[hs]at hc0;simp at hc0
       ·cases hc0
      obtain⟨b,o,sp⟩:=a;obtain⟨hb0,hs0⟩:=hblk;simp only at hb0 hs0;subst hs0
      have hadd:∀o i,(⟨b,o,none⟩:Addr).add i=⟨b,o+i,none⟩:=by
       intro o i;unfold Addr.add;split
       ·rename_i h0;rw[h0];rfl
       ·rfl
      obtain⟨l,hl,hq⟩:=BU len hall
      have hcell:∀k d,(cells F tt l)[k]? = some d→∃v,W.cell? ⟨b,o+k,none⟩=some v∧L_ W (Vt W) d v:=by
       intro k d hk
       obtain⟨e',q1,q2⟩:=Cu hpos (sz:=LY F tt) (es:=l.map (LZ F tt)) (by intro e he;obtain⟨x,_,rfl⟩:=Ra.1 he;exact bo F tt x) hk
       rw[Rf,Wi]at q1;obtain⟨x,q3,rfl⟩:=q1;obtain⟨cs,q4,q5,q6,_⟩:=hq _ x q3;obtain⟨q7,q8⟩:=v_ q4;have hmod:=Nat.mod_lt k hpos;have hc:=q8 (k % LY F tt) hmod
       rw[hadd,hadd,K9 (by omega),UA,Nat.mul_comm,Nat.div_add_mod]at hc
       exact⟨_,hc,q6 _ d _ q2 (K9 (by omega))⟩
      refine .one (t:=.slice tt) (x:=l) ?_ (.slice (by rw[hl];omega) ?_)
      ·have:=L_.sl (F:=F) (w:=W) (Li:=Vt W) tt l b o cap (λk=>(W.cell? ⟨b,o+k,none⟩).getD undef) hb0 (by rw[hl];exact hlc) hcm
        (λk d hk=>by obtain⟨v,k1,k2⟩:=hcell k d hk;rw[k1];rfl) (λk d hk=>by obtain⟨v,k1,k2⟩:=hcell k d hk;rw[k1];exact k2)
       rw[hl]at this;exact this
      ·intro x hx;obtain⟨i,hi,rfl⟩:=List.mem_iff_getElem.1 hx;obtain⟨_,_,_,_,hw⟩:=hq i _ (K9 hi);exact hw
   ·cases hb
  ·rename_i fs ht;simp only[Np]at hb;have hlen:=Rh hb.1;obtain⟨xs,n,_,_,hcl,hxl,hget⟩:=DataW.trod_struct ht h
   have key:∀(l:List Field)(i off:Nat)(tys:List Ty)(cs':List Value),cs'=cs.drop off→cs'.length=tys.length→YG (ZW F P f) P.cellsOf l off tys=true→(∀j f,l[j]? = some f→fs[i+j]? = some f)→Vw F W tys cs':=by
    intro l
    induction l with
    | nil=>
     intro i off tys cs' hcs hl hr _
     have:tys = []:=by simpa[YG]using hr
     subst this;have:cs' = []:=Ui hl;subst this;exact .nil
    | cons fl l ih=>
     intro i off tys cs' hcs hl hr hfs;simp only[YG,Np]at hr;obtain⟨⟨⟨r1,r2⟩,r3⟩,r4⟩:=hr;have r1:=Rh r1;have r2:=U4 r2
     have hf:=hget i fl (by simpa using hfs 0 fl rfl)
     have hlt:i<xs.length:=by
      rw[hxl]
      exact(Wj.1 (by simpa using hfs 0 fl rfl)).1
     rw[K9 hlt,r1,← hcs]at hf;have h1:=yU f r3 hf
     have h2:=ih (i+1) (off+P.cellsOf fl.type) (tys.drop (P.cellsOf fl.type)) (cs'.drop (P.cellsOf fl.type)) (by rw[hcs,Qg_]) (by simp[hl]) r4 (λj f' hj=>by have:=hfs (j+1) f' (by simpa using hj);rwa [show i+1+j=i+(j+1)by omega])
     have:=h1.append h2
     rwa [X0,X0]at this
   exact key fs.toList 0 0 tys cs (by simp) (by rw[hcl,hlen]) hb.2 (λj f hj=>by simpa using hj)
  ·rename_i n e ht;simp only[Np]at hb;have hlen:=Rh hb.1;obtain⟨xs,n',_,_,hcl,hxl,hget⟩:=DataW.trod_array ht h
   have key:∀(m i:Nat)(tys:List Ty)(cs':List Value),cs'=cs.drop (i*P.cellsOf e)→cs'.length=tys.length→i+m=n→YH (ZW F P f e) (P.cellsOf e) m tys=true→Vw F W tys cs':=by
    intro m
    induction m with
    | zero=>
     intro i tys cs' hcs hl hn hr
     have:tys = []:=by simpa[YH]using hr
     subst this;have:cs' = []:=Ui hl;subst this;exact .nil
    | succ m ih=>
     intro i tys cs' hcs hl hn hr;simp only[YH,Np]at hr;obtain⟨⟨r1,r2⟩,r3⟩:=hr
     have hf:=hget i (by omega)
     have hlt:i<xs.length:=by omega
     rw[K9 hlt,← hcs]at hf;have h1:=yU f r2 hf
     have h2:=ih (i+1) (tys.drop (P.cellsOf e)) (cs'.drop (P.cellsOf e)) (by rw[hcs,Qg_,TF]) (by simp[hl]) (by omega) r3
     have:=h1.append h2
     rwa [X0,X0]at this
   exact key n 0 tys cs (by simp) (by rw[hcl,hlen]) (by omega) hb.2
  ·cases hb
end
end Go.Fx
namespace Go.Fx
open Go Go.ChangeShapes Go.RowKit
set_option linter.unusedVariables false
set_option linter.unusedSimpArgs false
section
variable{F:Fam}{H:Type}{enc:TypeId×Value→H}{P:Program}{W:World}
def afL(F:Fam)(P:Program)(t:TypeId)(tt:Ty):Bool:=
 ZW F P 64 t (xt F tt)&&(match P.underlying t with
  | some (.struct _) | some (.array _ _)=>tt.OP
  | some (.int _) | some .bool | some .string | some (.slice _)=>!tt.OP
  | _=>false)
theorem DC{r:Reach}{b0:Nat}{t:TypeId}{tt:Ty}{v:Value}{d:DataW H}{ps:List MemPlace}(hb:afL F P t tt=true)(hval:Value.okWide P W r b0 t v)(hd:DataW.Trod enc P W 0 (λ_=>true) true t v d ps) :
  ∃x:ET F tt,Wp F tt x∧NH W (Vt W) tt [] x v []:=by
 simp only[afL,Np]at hb;obtain⟨hb,hk⟩:=hb;obtain⟨fuel,hf⟩:=hd;obtain⟨x,h1,h2,h3⟩:=(yU 64 hb hf).toT;refine⟨x,h3,A8 ?_⟩
 have agg:(∃cs,v = .agg cs)→tt.OP=true→Pt W (Vt W) (LZ F tt x,tt.OP) v:=by rintro⟨⟨cs⟩,rfl⟩ hs;rw[hs];refine .agg ?_ (λk c y a b=>h2 k c y a b);rw[bo];exact h1
 have one:v.cells = #[v]→tt.OP=false→Pt W (Vt W) (LZ F tt x,tt.OP) v:=by
  intro hv hs;rw[hs]
  have hl:∃d,LZ F tt x = [d]:=by cases tt<;>first | exact⟨_,rfl⟩ | cases hs
  obtain⟨d,hd⟩:=hl;rw[hd]
  exact .one (h2 0 d v (by rw[hd];rfl) (by rw[hv];rfl))
 unfold Value.okWide at hval;split at hk
 ·rename_i fs ht;rw[ht]at hval;obtain⟨cs,rfl,_⟩:=hval;exact agg ⟨cs,rfl⟩ hk
 ·rename_i n e ht;rw[ht]at hval;obtain⟨cs,rfl,_⟩:=hval;exact agg ⟨cs,rfl⟩ hk
 ·rename_i k ht;simp only[ht,Cell.okWide,Cell.ok]at hval
  refine one ?_ (by simpa using hk)
  cases v<;>first | rfl | exact hval.elim
 ·rename_i ht;simp only[ht,Cell.okWide,Cell.ok]at hval
  refine one ?_ (by simpa using hk)
  cases v<;>first | rfl | exact hval.elim
 ·rename_i ht;simp only[ht,Cell.okWide,Cell.ok]at hval
  refine one ?_ (by simpa using hk)
  cases v<;>first | rfl | exact hval.elim
 ·rename_i e ht;simp only[ht,Cell.okWide,Cell.ok]at hval
  refine one ?_ (by simpa using hk)
  cases v<;>first | rfl | exact hval.elim
 ·cases hk
theorem sF(hl:laidOutB P=true){W':World}{sp:Nat→Bool}(hb:Below W.heap.size W W'):∀{ts:List TypeId}{vs:List Value}{ds:List (DataW H)} {ps:List MemPlace},
  DataW.TrodAll enc P W 0 (λ_=>true) true ts vs ds ps→(ts.all λt=>P.readableRec t&&Nat.blt t P.types.size)=true→(∀x∈ps,x.block<W.heap.size)→(∀x∈ps,sp x.block=true)→
  DataW.TrodAll enc P W' 0 sp true ts vs ds ps
 | [],vs,ds,ps,h,_,_,_=>by obtain⟨rfl,rfl,rfl⟩:=trodAll_nil h;rfl
 | t::ts,vs,ds,ps,h,hr,hlt,hsp=>by
  obtain⟨v,vs1,d,ds1,a,b,rfl,rfl,rfl,h1,h2⟩:=trodAll_cons h;simp only[Z4,Np]at hr
  refine trodAll_cons_mk (WideElems.Trod_stays hl hr.1.1 (by simpa using hr.1.2) h1 (λx hx=>hb.same (hlt x (by simp[hx]))) (λx hx=>hsp x (by simp[hx]))) (sF hl hb h2 hr.2 (λx hx=>hlt x (by simp[hx])) (λx hx=>hsp x (by simp[hx])))
theorem GF{fid:FuncId}{f:Func}{s:ChangeSpec}{tb:TypeId}{args:Array Value}{ds gs:List (DataW H)}{before:List MemPlace}
  (hl:laidOutB P=true) (hr:(f.params.toList.all λt=>P.readableRec t&&Nat.blt t P.types.size)=true) (hv:s.vars = []) (ht:f.resultTypes = #[tb]) (htb:P.underlying tb=some .bool)
  (hW:DataW.Whole enc P f.params.toList s.vars false W args.toList ds gs before) (hfn:s.fn H (ds++gs) = { results:=[.lit (.bool true)],args:=ds })
  (h:Calls P fid args W λe w'=>e = .returned (.bool true)∧Below W.heap.size W w') :
  Calls P fid args W λe W'=>∃v,e = .returned v∧s.post enc P f false true false false W args v W':=by
 have hW':=hW;obtain⟨p,q,hA,hV,rfl,hfz,hnd⟩:=hW;rw[hv]at hV;obtain⟨rfl,rfl⟩:=trodVars_none hV;refine h.mono λe W' ⟨he,hg⟩=>?_;subst he
 have hlt:∀x∈p,x.block<W.heap.size:=λx hx=>by simpa using hW'.lt x (by simp[hx])
 have args:∀sp:Nat→Bool,(∀x∈p,sp x.block=true)→DataW.TrodAll enc P W' 0 sp true f.params.toList args.toList (s.fn H (ds++[])).args p:=by intro sp hsp;rw[hfn];exact sF hl hg hA hr hlt hsp
 have vars:∀sp:Nat→Bool,DataW.TrodVars enc P W' sp s.vars (s.fn H (ds++[])).vars []:=by intro sp;rw[hfn,hv];rfl
 have res:∀(b:Nat)(sp:Nat→Bool)(hd:Bool),DataW.TrodAll enc P W' b sp hd f.resultTypes.toList ((Value.bool true).resultList f.resultTypes.size) (s.fn H (ds++[])).results []:=by intro b sp hd;rw[hfn,ht];exact trodAll_cons_mk (shut_bool htb true) trodAll_mk0
 refine⟨_,rfl,ds,[],p++[],[],p,[],hW',res _ _ _,args _ (λx hx=>by simpa using hlt x hx),vars _,hg.frame _,λ_=>?_⟩
 refine⟨ok_one ht rfl (okWide_bool_mk htb _),_,_,([]++p)++[],⟨[]++p,[],trodAll_append (args _ (λ_ _=>rfl)) (res _ _ _),vars _,rfl,?_,λh=>by cases h⟩,?_⟩
 ·intro b off hp
  rw[hg.frozen (hlt _ (by simpa using hp))]
  exact hfz b off (by simpa using hp)
 ·intro x hx _;simpa using hx
theorem Hi:db (F:=F) P W (Vt W) [] () [] [] []:=⟨rfl,rfl,rfl⟩
theorem tQ{t:Ty}{x:ET F t}{v:Value}{ks:List Kd}{a:HL F ks}{vs:List Value}(h:NH W (Vt W) t [] x v [])(k:db P W (Vt W) ks a vs [] []):db P W (Vt W) (.v t []::ks) (x,a) (v::vs) [] []:=
 ⟨v,vs,[],[],[],[],rfl,rfl,rfl,⟨h,rfl⟩,k⟩
theorem C0{fid:FuncId}{sp:Spec F}(hf:O6 P fid sp){D:HL F sp.ks→Option Bool}(hD:fb sp .bool=some D){a:HL F sp.ks}(hd:D a=some true){vs:List Value}(hh:db P W (Vt W) sp.ks a vs [] []) :
  Calls P fid ⟨vs⟩ W λe w'=>e = .returned (.bool true)∧Below W.heap.size W w':=by
 obtain⟨r',hr',hout⟩:=yg (P:=P) hD hd
 refine(hf.2 a r' hr' (Vt W) W vs [] [] hh ⟨by simp[Lh],by simp[Lh],by simp[Lh]⟩ (λ_ h=>h)).mono ?_
 rintro e w' ⟨Ru,LX,Mk,rfl,h1,h2,h3,hdr,h4,h5,h6,h7,h8,h9,h10,h11⟩;obtain⟨v,rfl,_,hv⟩:=hout w' LX Ru [] Mk h9;have hn:=hv.OX;subst hn;have hrep:=rT hv
 have:v = .bool true:=by
  generalize hc:(LZ F Ty.bool true,Ty.bool.OP)=p at hrep
  cases hrep with
  | one h=>cases hc;cases h;rfl
  | agg=>cases hc
 exact⟨by rw[this];rfl,⟨h1,h2,h3,h4,λb hb=>h5 b hb (by simp[Lh])⟩⟩
end
set_option linter.unusedVariables false
set_option linter.unusedSimpArgs false
section
variable{F:Fam}{P:Program}
theorem Gg{w:World}{Li:Nat→Prop}{t:Ty}{v:Value}(h:L_ (F:=F) w Li (.sl t []) v):∃p cap,v = .slice p 0 cap:=by
 cases h with
 | sl0 p=>exact⟨_,_,rfl⟩
 | sl l b o cap f=>exact⟨_,_,rfl⟩
theorem pU{t e:TypeId}(h:P.underlying t=some (.slice e))(w:World)(a:Option Addr)(n c n2 c2:Nat):(binOp .eql t (.slice a n c) (.slice none n2 c2)).run P w = .ok (.bool a.isNone) w:=Lib.run_eql_slice_nil w _ _ a n c n2 c2 h
theorem lB{f:FuncId}{t:Ty}{b:Nat}
  (h:O6 (F:=F) P f ⟨[.v (.slice t) []],[.v (.slice t) [0]],λa=>cond a.1.isEmpty none ((app b [] a.1).bind λl=>some l)⟩)
  (hn:∀(p:Option Addr)(cap:Nat)(w:World),Calls P f ⟨[.slice p 0 cap]⟩ w λe w'=>∃p',e = .returned (.slice p' 0 0)∧RowKit.Below w.heap.size w w'∧w.drawn≤w'.drawn) (hmp:t.Ny=false:=by rfl) :
  O6 (F:=F) P f ⟨[.v (.slice t) []],[.v (.slice t) [0]],λa=>app b [] a.1⟩:=by
 refine⟨h.1,?_⟩;intro a r hr Li w vs LJ Me Oq hpl MQ;obtain⟨l,u⟩:=a
 cases l with
 | cons x l=>refine h.2 (x::l,u) r ?_ Li w vs LJ Me Oq hpl MQ;dsimp only at hr ⊢;rw[hr];rfl
 | nil=>
  have hr':r=([]:List (ET F t)):=by
   dsimp only[app]at hr;split at hr
   ·exact(Option.some.inj hr).symm
   ·cases hr
  subst hr';obtain⟨v,vs',p1,p2,b1,b2,rfl,rfl,rfl,⟨h1,rfl⟩,rfl,rfl,rfl⟩:=Oq;unfold NH at h1;simp only[Ty.OP,RZ,if_false,LZ,MG,Mf]at h1;obtain⟨h1,rfl⟩:=h1;obtain⟨p,cap,rfl⟩:=Gg h1;refine(hn p cap w).mono ?_;rintro e w' ⟨p',rfl,hb,hdr⟩
  refine⟨[.slice p' 0 0],Li,[none],rfl,hb.os,hb.tape,hb.output,hdr,hb.size,λk hk _=>hb.block k hk,λ_ h=>h,λ_ h=>.inl h,λk hk=>UG (MQ k hk) hb.size,?_,⟨by simp[Lh],by simp[Lh],by simp[Lh]⟩,by simp[Lh]⟩
  refine⟨.slice p' 0 0,rfl,rfl,?_,rfl⟩;unfold NH;simp only[Ty.OP,RZ,if_false,LZ,MG,Mf,Nat.beq,if_true]
  exact⟨none,[],rfl,by rw[nj hmp];rfl,by rw[pD hmp];exact⟨p',rfl⟩,rfl⟩
end
end Go.Fx
