/-
  The framework, third part: regions in any order, code, loops over maps, functions, arguments as data, laws that say true. Conditions: none.
-/
import Derived.Test.YtppllkbjijfocaaGreatDoorFxB
import Derived.Eval
import Derived.Scope
import Derived.Maps.RangeRun
import Derived.Carry
import Derived.ChangeSlices
import Derived.OpenShut
import Derived.ProofKit
import Derived.WalkKit
import Derived.Lib.SliceRun
namespace Go.Fx
open Go
set_option linter.unusedVariables false
set_option linter.unusedSimpArgs false
def Pz:NS→List Nat→NS
 | ns,[]=>ns
 | ns,p::ps=>Pz (ns.set p none) ps
def TA:Option (Nat×Nat×Nat)→List Nat
 | some (b,_)=>[b]
 | none=>[]
theorem qt(q:Option (Nat×Nat×Nat))(ns:NS):Kr (q::ns)=TA q++Kr ns:=by
 cases q with
 | none=>rfl
 | some q=>obtain⟨b,c⟩:=q;rfl
theorem Ad(q:Option (Nat×Nat×Nat))(l:List Pl):I5 (KW q::l)=TA q++I5 l:=by
 cases q with
 | none=>rfl
 | some q=>obtain⟨b,c,n⟩:=q;simp[KW,I5,TA,Kr]
theorem AO{q:Option (Nat×Nat×Nat)}:∀{ns:NS}{p:Nat}{q0:Option (Nat×Nat×Nat)},ns[p]? = some q0→(TA q++Kr ns).Perm (TA q0++Kr (ns.set p q))
 | [],p,q0,h=>by simp at h
 | y::r,0,q0,h=>by simp only[M9,K3]at h;subst h;rw[List.set_cons_zero,qt,qt,← MK,← MK];exact List.perm_append_comm.append_right _
 | y::r,p+1,q0,h=>by
  rw[List.set_cons_succ,qt,qt]
  have ih:=AO (q:=q) (ns:=r) (p:=p) (by simpa using h)
  have h1:(TA q++(TA y++Kr r)).Perm (TA y++(TA q++Kr r)):=by rw[← MK,← MK];exact List.perm_append_comm.append_right _
  have h2:(TA y++(TA q0++Kr (r.set p q))).Perm (TA q0++(TA y++Kr (r.set p q))):=by rw[← MK,← MK];exact List.perm_append_comm.append_right _
  exact h1.trans ((ih.append_left _).trans h2)
theorem wa:∀{ps:List Nat}{ns:NS},(Pz ns ps).length=ns.length
 | [],ns=>rfl
 | p::ps,ns=>by simp only[Pz];rw[wa,RJ]
theorem AZ:∀{ps:List Nat}{ns:NS}{k:Nat},k∉ps→(Pz ns ps)[k]? = ns[k]?
 | [],ns,k,h=>rfl
 | p::ps,ns,k,h=>by
  simp only[Pz]
  rw[AZ (λhk=>h (by simp[hk])),List.getElem?_set_ne (λe=>h (by simp[e]))]
theorem zc:∀{ps:List Nat}{ns:NS}{k:Nat}{q:Option (Nat×Nat×Nat)},ns[k]? = some none→(Pz ns ps)[k]? = some q→q=none
 | [],ns,k,q,h0,h=>by simp only[Pz]at h;rw[h0]at h;cases h;rfl
 | p::ps,ns,k,q,h0,h=>by
  simp only[Pz]at h;refine zc (ns:=ns.set p none) ?_ h;by_cases hp:p=k
  ·subst hp;rw[QfD (I0.1 h0).1]
  ·rw[List.getElem?_set_ne hp];exact h0
theorem Dl:∀{ps:List Nat}{ns:NS}{k:Nat}{q:Option (Nat×Nat×Nat)},k∈ps→(Pz ns ps)[k]? = some q→q=none
 | p::ps,ns,k,q,hk,h=>by
  simp only[Pz]at h;by_cases hp:p=k
  ·subst hp;by_cases hlt:p<ns.length
   ·exact zc (ns:=ns.set p none) (by rw[QfD hlt]) h
   ·have:p<(Pz (ns.set p none) ps).length:=(I0.1 h).1;rw[wa,RJ]at this;exact absurd this hlt
  ·exact Dl ((Lr.1 hk).resolve_left (λe=>hp e.symm)) h
theorem zM:∀{ps:List Nat}{ns:NS},ps.Nodup→(∀p∈ps,p<ns.length)→(Kr ns).Perm (I5 (ps.map λp=>KW ((ns[p]?).getD none))++Kr (Pz ns ps))
 | [],ns,_,_=>by simp[I5,Pz]
 | p::ps,ns,hn,hl=>by
  obtain⟨h1,h2⟩:=PI.1 hn
  have hp:=hl p (by simp)
  have hq:ns[p]? = some ns[p]:=IZ hp;have e1:=AO (q:=none) hq;simp only[TA,O7]at e1
  have ih:=zM (ps:=ps) (ns:=ns.set p none) h2 (λp' h=>by rw[RJ];exact hl p' (by simp[h]))
  have e2:(ps.map λp'=>KW (((ns.set p none)[p']?).getD none))=ps.map λp'=>KW ((ns[p']?).getD none):=by
   refine QdP λp' hp'=>?_
   rw[List.getElem?_set_ne (λe=>h1 (by rw[e];exact hp'))]
  rw[e2]at ih;simp only[K7,Ad,Pz];rw[hq,Ta,MK];refine e1.trans ?_;exact ih.append_left _
section
variable{F:Fam}{P:Program}{T:TypeId→Option (TI F)}{Γ : Ctx F}{o:Oper}{vals:List (Dat F)}{mm:Nat→Option (J8 F)}{c:Nat}{R:Type}{K:Oy F→Option R}
variable{own:Ow}{g:G}{w:World}{m:Nat→Option (J8 F)}{u:Nat→Bool}{a:Act}
theorem Jl.MJ(hm:Jl own g w m){id k n:Nat}(h:Lh n (g.ids id) (g.ids k)):Jl own g w (Ki m [(id,some (.MJ k n))]):=by
 have hother:∀x,x≠id→Ki m [(id,some (.MJ k n))] x=m x:=λx hx=>by
  simp only[Ki]
  have:Nat.beq id x=false:=by
   cases hb:Nat.beq id x with
   | false=>rfl
   | true=>exact absurd (M_ hb).symm hx
  rw[this];simp
 have hself:Ki m [(id,some (.MJ k n))] id=some (.MJ k n):=by simp[Ki]
 refine hm.Mv (S:=λx=>x=id) (Le.refl g w) (λx hx B hB=>by rw[hother x hx]at hB;exact hB) (λ_ _=>rfl) (λx B b hx hB ho hb=>⟨rfl,(hm.own x B b hB ho hb).2⟩) ?_ hm.I7 hm.io hm.len
 rintro x B rfl hB;rw[hself]at hB;cases hB
 exact⟨h,λb ho=>by cases ho⟩
theorem vT:∀{rs:List (J8 F)} {c:Nat} {p:Nat×J8 F},p∈nmF c rs→∃j,p.1=c+j∧rs[j]? = some p.2
 | B::r,c,p,h=>by
  rcases Lr.1 h with rfl | h
  ·exact⟨0,rfl,rfl⟩
  ·obtain⟨j,h1,h2⟩:=vT h
   exact⟨j+1,by omega,by simpa using h2⟩
theorem xd(hm:Jl own g w m)(hall:∀b,w.heap.size≤b→own.o b){id c i:Nat}{t:Ty}{l:List (ET F t)}{x:ET F t}(hB:m id=some (.KR t l))(hx:l[i]? = some x){ks:List Nat}(hks:ks.Nodup)
  {rs:List (J8 F)} (hrs:rs.length=ks.length) (hr:∀(j:Nat)(B:J8 F),rs[j]? = some B→∃q t2 l2,ks[j]? = some q∧B = .row t2 l2∧(Jj F t x)[q]? = some (.sl t2 l2)) (hkl:∀q∈ks,q<Jm F t)
  (hf:∀j,j<ks.length+1→g.ids (c+j)=none) :
  ∃(g2:G)(b cap:Nat)(n:Nat×NS),Le g w g2 w∧Jl own g2 w (Ki m (Nr id c t l i ks rs))∧g2.I7=g.I7∧g2.len=g.len∧(∀y,¬ (c≤y∧y<c+ks.length+1)→g2.ids y=g.ids y)∧
   g.ids id=some (some (b,cap,n))∧g2.ids c=some (some (b,cap,n.1,Pz n.2 (ks.map (i*Jm F t + ·))))∧(∀j q,ks[j]? = some q→g2.ids (c+1+j)=some (KW ((n.2[i*Jm F t+q]?).getD none)))∧
   Nc w g.I7 t l (some (b,cap,n))∧(∀y b',g2.blk y b'→(g.blk y b'∧¬ (c≤y∧y<c+ks.length+1))∨g.blk id b'):=by
 obtain⟨pl,hid,hO⟩:=hm.ok id _ hB;have hlt:i<l.length:=(I0.1 hx).1
 cases pl with
 | none=>have:l = []:=hO;subst this;simp at hlt
 | some q=>
 obtain⟨b,cap,n⟩:=q;obtain⟨q1,q2,q3,q4,q5,cur,e,q6,q7,q8⟩:=hO;have hO':Nc w g.I7 t l (some (b,cap,n)):=⟨q1,q2,q3,q4,q5,cur,e,q6,q7,q8⟩
 have hpos:∀q∈ks,i*Jm F t+q<n.2.length:=by intro q hq;have:=hkl q hq;rw[q4,dL];have h3:(i+1)*Jm F t≤l.length*Jm F t:=M5 _ hlt;rw[Ro]at h3;omega
 obtain⟨ps,hps⟩:∃ps,ps=ks.map (i*Jm F t + ·):=⟨_,rfl⟩
 have hpn:ps.Nodup:=by
  subst hps
  exact List.pairwise_map.2 (hks.imp λh e=>h (by simpa using e))
 have hpl:∀p∈ps,p<n.2.length:=by subst hps;intro p hp;obtain⟨q,h1,rfl⟩:=Oz.1 hp;exact hpos q h1
 have hperm:=zM hpn hpl;obtain⟨Kg,Xm⟩:∃Kg:List Pl,Kg=some (b,cap,n.1,Pz n.2 ps)::ps.map λp=>KW ((n.2[p]?).getD none):=⟨_,rfl⟩
 have V7:Kg.length=ks.length+1:=by rw[Xm,hps];simp
 have Zc:I5 Kg=b::(Kr (Pz n.2 ps)++I5 (ps.map λp=>KW ((n.2[p]?).getD none))):=by rw[Xm];rfl
 have RF:(b::Kr n.2).Perm (I5 Kg):=by rw[Zc];exact(hperm.trans QcN).cons _
 have hmem:∀b',b'∈I5 Kg↔g.blk id b':=by
  intro b';rw[← RF.mem_iff];constructor
  ·intro h;exact⟨b,(cap,n),hid,h⟩
  ·rintro⟨b0,c0,h1,h2⟩;rw[hid]at h1;cases h1;exact h2
 have hown1:∀b',g.blk id b'→own.o b'∧¬ g.I7 b':=λb' h=>hm.own id _ b' hB rfl h;have acn:∀b',g.blk id b'→b'<w.heap.size:=λb' h=>(hm.ok id _ hB).place hm.I7 rfl h
 have Tk:I5 ([some id].map (Kc g))=b::Kr n.2:=by simp[Kc,hid,I5]
 have hP0:Od w g.I7 (I5 ([some id].map (Kc g))):=by rw[Tk];refine⟨q5,λb' h=>(hown1 b' ⟨b,(cap,n),hid,h⟩).2,λb' h=>acn b' ⟨b,(cap,n),hid,h⟩⟩
 have hP1:Od w g.I7 (I5 []++I5 Kg):=by
  refine⟨?_,λb' h=>(hown1 b' ((hmem b').1 (by simpa[I5]using h))).2,λb' h=>acn b' ((hmem b').1 (by simpa[I5]using h))⟩
  simp only[I5,O7];exact RF.nodup_iff.1 q5
 have hfr:∀k,k<Kg.length→g.ids (c+k)=none:=λk hk=>hf k (by omega)
 have Vn:Le g w (g.back c Kg g.I7) w:=by
  refine⟨λy r hy=>?_,λ_ h=>h,λ_ _=>rfl,λ_ h=>h,λ_ _=>rfl⟩
  rw[cA (λhc=>by have:=hfr (y - c) (by omega);rw[QdO hc.1]at this;rw[this]at hy;cases hy)]
  exact hy
 have hnm:MG (g.back c Kg g.I7) c Kg:=sJ
 have hc0:(g.back c Kg g.I7).ids c=some (some (b,cap,n.1,Pz n.2 ps)):=by
  have:=hnm 0 _ (by rw[Xm];rfl)
  simpa using this
 have hcj:∀j q,ks[j]? = some q→(g.back c Kg g.I7).ids (c+1+j)=some (KW ((n.2[i*Jm F t+q]?).getD none)):=by
  intro j q hj
  have:=hnm (j+1) (KW ((n.2[i*Jm F t+q]?).getD none)) (by rw[Xm,W_,hps,List.map_map,MU,hj];rfl)
  rw[show c+1+j=c+(j+1)by omega]
  exact this
 have hback:Oo (g.back c Kg g.I7) w c Kg.length [] ((c,.Oa t l i ks)::nmF (c+1) rs):=by
  intro p hp;rcases Lr.1 hp with rfl | hp
  ·refine⟨rfl,⟨_,hc0,q1,q2,q3,by rw[wa];exact q4,?_,cur,e,q6,q7,?_⟩,.inl ⟨0,rfl,by omega⟩⟩
   ·have:(b::Kr (Pz n.2 ps)).Sublist (b::(Kr (Pz n.2 ps)++I5 (ps.map λp=>KW ((n.2[p]?).getD none)))):=(List.sublist_append_left _ _).cons_cons _;exact(Zc▸RF.nodup_iff.1 q5:(b::(Kr (Pz n.2 ps)++I5 (ps.map λp=>KW ((n.2[p]?).getD none)))).Nodup).sublist this
   ·intro k d y p h1 h2 h3;constructor
    ·rintro⟨q,hq,rfl⟩
     have hin:i*Jm F t+q∈ps:=by rw[hps];exact Oz.2 ⟨q,hq,rfl⟩
     have hp0:∃p0,n.2[i*Jm F t+q]? = some p0:=⟨_,IZ (hpl _ hin)⟩;obtain⟨p0,hp0⟩:=hp0;refine⟨Dl hin h3,?_⟩;have:=q8 _ d y p0 h1 h2 hp0
     cases d with
     | sl t2 l2=>
      have hv:=this.2
      cases p0 with
      | none=>obtain⟨p,rfl⟩:=hv;rfl
      | some q=>simp only[KW,Ll]at hv;subst hv;rfl
     | _=>exact this.2.2.oneCell
    ·intro hno
     have hout:k∉ps:=by rw[hps];intro hk;obtain⟨q,hq1,hq2⟩:=Oz.1 hk;exact hno ⟨q,hq1,hq2.symm⟩
     rw[AZ hout]at h3;exact q8 k d y p h1 h2 h3
  ·obtain⟨j,h1,h2⟩:=vT hp;obtain⟨q,t2,l2,hq,hB2,hd⟩:=hr j _ h2;have hjl:j<ks.length:=(I0.1 hq).1;obtain⟨y,B2⟩:=p;simp only at h1 h2 hB2;subst h1;subst hB2
   refine⟨rfl,?_,.inl ⟨j+1,by omega,by omega⟩⟩
   have hin:i*Jm F t+q∈ps:=by rw[hps];exact Oz.2 ⟨q,Rq hq,rfl⟩
   have anN:=hpl _ hin;have hp0:n.2[i*Jm F t+q]? = some n.2[i*Jm F t+q]:=IZ anN;have hcell:=aS hx hd
   have hcl:i*Jm F t+q<cur.length:=by
    have:(cells F t l).length≤cur.length:=by rw[q7,dL];exact M5 _ q2
    omega
   have hC:=q8 _ _ _ _ hcell (IZ hcl) hp0;have hname:=hcj j q hq;rw[hp0,Ta]at hname;obtain⟨hC1,hC2⟩:=hC
   cases hpp:n.2[i*Jm F t+q]with
   | none=>rw[hpp]at hC1 hname;exact .inl ⟨hname,hC1⟩
   | some z=>obtain⟨b2,cap2,n2⟩:=z;rw[hpp]at hC1 hname;obtain⟨r1,r2,r3,UE,e2,r4,r5,r6⟩:=hC1;cases r1;exact .inr ⟨b2,cap2,UE,e2,hname,r4,r2,r3,r5,r6⟩
 have hM:=qM (g1:=g) (m1:=m) (os:=[some id]) (bx:=[]) (Jv:=[]) (Kg:=Kg) (PU:=g.I7) (Jo:=g.I7) (I:=g.I7) (w':=w) hm hm rfl rfl hall rfl hfr
  (λid' h=>by simp only[I4,K3]at h;subst h;exact⟨_,hB,hB,rfl⟩) (λid' h=>by simp at h) rfl hP0 (λ_ h=>h) (KC _) (λ_ _ _=>rfl) (λ_ h=>h) (λ_ h=>h) (λb h=>.inl h) hm.I7 hP1
  (λb' h=>.inl (by rw[Tk,RF.mem_iff];simpa[I5]using h)) hback
 refine⟨g.back c Kg g.I7,b,cap,n,Vn,?_,rfl,rfl,λy hy=>cA (by rw[V7];omega),hid,hps▸hc0,hcj,hO',?_⟩
 ·have:=hM.MJ (id:=id) (k:=c) (n:=l.length) (.inl ⟨b,cap,n,(n.1,Pz n.2 ps),Vn.ids _ _ hid,hc0,rfl,q1⟩)
  have e1:Nr id c t l i ks rs=(nones (Km [some id])++blks ((c,.Oa t l i ks)::nmF (c+1) rs))++[(id,some (.MJ c l.length))]:=by simp[Nr,nones,Km,blks]
  rw[e1,dC];exact this
 ·intro y b' hb;by_cases hy:c≤y∧y<c+ks.length+1
  ·right;obtain⟨b0,c0,h1,h2⟩:=hb;simp only[G.back]at h1
   rw[if_pos (by rw[V7];omega)]at h1
   exact(hmem b').1 (bQ.2 ⟨_,b0,c0,h1,h2⟩)
  ·left;obtain⟨b0,c0,h1,h2⟩:=hb
   rw[cA (by rw[V7];omega)]at h1
   exact⟨⟨b0,c0,h1,h2⟩,hy⟩
theorem DM(hm:Jl own g w m){id c:Nat}{t:Ty}{l:List (ET F t)}(hB:m id=some (.KR t l))(hf:g.ids c=none) :
  ∃g',Jl own g' w (Ki m [(id,none),(c,some (.KR t l)),(id,some (.MJ c l.length))])∧Stp m g w g' w∧∀y,y≠c→g'.ids y=g.ids y:=by
 obtain⟨pl,hid,hO⟩:=hm.ok id _ hB;obtain⟨k1,k2⟩:=gj (rm:=[id]) (id:=c) (pl:=pl) (B:=.KR t l) (w':=w) hm hf
  (λb0 c' e b hb=>.inr ⟨id,by simp,_,hB,rfl,b0,c',by rw[hid,e],hb⟩) rfl rfl rfl (KC _) (KC _) (λ_ _ _=>rfl) (λg' hle hi=>⟨pl,hi,by exact Nc.Mv hle.I7 hle.heap (λ_ _ _ _ _=>rfl) hO⟩)
 refine⟨g.name c pl,?_,k2,λy hy=>bE _ _ _ hy⟩
 have h2:=k1.MJ (id:=id) (k:=c) (n:=l.length) (by
  rw[k2.le.ids _ _ hid,a9]
  cases pl with
  | none=>have:l = []:=hO;subst this;exact .inr ⟨rfl,rfl,rfl⟩
  | some q=>obtain⟨b,cap,n⟩:=q;exact .inl ⟨b,cap,n,n,rfl,rfl,rfl,hO.1⟩)
 have e:([(id,none),(c,some (.KR t l)),(id,some (.MJ c l.length))]:List (Nat×Option (J8 F)))=([id].map (λr=>(r,none))++[(c,some (.KR t l))])++[(id,some (.MJ c l.length))]:=rfl;rw[e,dC];exact h2
end
set_option linter.unusedVariables false
set_option linter.unusedSimpArgs false
section
variable{F:Fam}{P:Program}{Γ : Ctx F}{T:TypeId→Option (TI F)}{o:Oper}{vals:List (Dat F)}{mm:Nat→Option (J8 F)}{c:Nat}{R:Type}{K:Oy F→Option R}
theorem sj{f:FuncId}(h:bc P f)(args:Array Value)(w:World):(callFunc f args).run P w = .ok (.enter f args) w:=by obtain⟨fn0,hf0,hf1,hf2⟩:=h;simp only[LM,MO,L8,callFunc,run_program,hf0,hf1,hf2,Ni,if_false]
theorem qx{fn:Operand}{args:Array Operand}{ats:Array TypeId}{a:Act}{w:World}{f:FuncId}{fs cs:List Value}(ho:o.op = .call { callee:=.value fn,args,argTypes:=ats })
  (hfn:a.eval fn = .func (.func f) ⟨fs⟩ ⟨cs⟩) (h:bc P f):(execOp a.eval o).run P w = .ok (.enter f ⟨fs++args.toList.map a.eval++cs⟩) w:=by
 have e:((⟨fs⟩:Array Value)++Array.map a.eval args++⟨cs⟩:Array Value)=⟨fs++args.toList.map a.eval++cs⟩:=by apply Array.ext';simp
 simp only[execOp,ho,resolve,Deferred.ofValue,hfn,LM,MO,L8,invoke,e,sj h]
theorem sC{fn:Operand}{args:Array Operand}{ats:Array TypeId}(ho:o.op = .call { callee:=.value fn,args,argTypes:=ats })(a:Act):o.op.operands.toList.map a.eval=a.eval fn::args.toList.map a.eval:=by rw[ho];simp[Op.operands,Call.operands]
theorem si{g:G}{w:World}{ds es:List (Dat F)}{vs us:List Value}(h:Kq P g w ds vs)(k:Kq P g w es us):Kq P g w (ds++es) (vs++us):=by
 induction ds generalizing vs with
 | nil=>rw[em h];exact k
 | cons d ds ih=>obtain⟨v,vs',rfl,h1,h2⟩:=fj h;exact aP.2 ⟨h1,ih h2⟩
theorem Bn(hΓ : Kz P Γ){fn:Operand}{args:Array Operand}{ats:Array TypeId}(ho:o.op = .call { callee:=.value fn,args,argTypes:=ats }){f:FuncId}{ds:List (Dat F)}
  (hv:∀(g:G)(w:World)(a:Act),Kq P g w vals (o.op.operands.toList.map a.eval)→∃fs cs,a.eval fn = .func (.func f) ⟨fs⟩ ⟨cs⟩∧Kq P g w ds (fs++args.toList.map a.eval++cs)) :
  Rule P o vals mm c K (zx Γ mm c K f ds):=by
 unfold zx;split
 ·exact ah
 ·rename_i sp hsp;split
  ·exact ah
  ·rename_i p hp;refine au (λhn=>aC λr hr=>?_) (λ_=>ah);simp only[KV]at hn;intro r' hr';refine⟨_,hr',?_⟩;intro own g w a m u hle hm hd hall hfr hrep;obtain⟨fs,cs,h1,h2⟩:=hv g w a hrep;exact BD (m:=m) hΓ hm hle hd hall h2 hsp hp hn.1 hn.2 hr hfr (qx ho h1 (hΓ f sp hsp).1)
theorem vD(hΓ : Kz P Γ){fn:Operand}{args:Array Operand}{ats:Array TypeId}(ho:o.op = .call { callee:=.value fn,args,argTypes:=ats }){f:FuncId}{ds:List (Dat F)}
  (hv:∀(g:G)(w:World)(a:Act),Kq P g w vals (o.op.operands.toList.map a.eval)→∃fs cs,a.eval fn = .func (.func f) ⟨fs⟩ ⟨cs⟩∧Kq P g w ds (fs++args.toList.map a.eval++cs)) :
  Rule P o vals mm c K (vq Γ mm c K f ds):=by
 unfold vq
 cases fgt Γ with
 | true=>exact Bn hΓ ho hv
 | false=>
 simp only[cond_false];split
 ·exact ah
 ·rename_i sp hsp;split
  ·exact ah
  ·rename_i p hp;refine au (λhn=>aC λr hr=>?_) (λ_=>ah);simp only[KV]at hn;intro r' hr';refine⟨_,hr',?_⟩;intro own g w a m u hle hm hd hall hfr hrep;obtain⟨fs,cs,h1,h2⟩:=hv g w a hrep;exact Bm (m:=m) hΓ hm hle hd hall h2 hsp hp hn.1 hn.2 hr hfr (qx ho h1 (hΓ f sp hsp).1)
theorem EG{g:G}{w:World}{t:Ty}{x:ET F t}{v:Value}(h:Md w g.I7 (Jj F t x,t.K9) v):J4 P g w (aau t x) v:=by
 have one:∀{d:ND F},Md w g.I7 ([d],false) v→Ju w g.I7 d v:=by
  intro d h;generalize hc:([d],false)=p at h
  cases h with
  | one h=>cases hc;exact h
  | agg=>cases hc
 cases t with
 | st n=>
  unfold aau;simp only[Ty.K9]at h;generalize hc:Jj F (.st n) x=cs at h ⊢
  cases h with
  | agg hl h=>
   refine .agg (by rw[OD,hc,hl]) ?_
   intro k c y h1 h2;rw[MU,RN]at h1;obtain⟨d,h3,rfl⟩:=h1;exact .im (h k d y (hc▸h3) h2)
 | int k=>exact .c (.im (one h))
 | bool=>exact .c (.im (one h))
 | str=>exact .c (.im (one h))
 | slice t=>exact .c (.im (one h))
theorem xl{I7:Nat→Prop}{w:World}:∀{ks:List Ty}{a:HL F (ks.map λt=>.v t [])} {vs:List Value} {Jg:List Pl} {Jv:List Pl},bR P w I7 (ks.map λt=>.v t []) a vs Jg Jv→Rk w I7 (MB F ks (qi.Sb ks a)) vs
 | [],a,vs,Jg,Jv,h=>by
  obtain⟨rfl,_,_⟩:=h
  exact⟨rfl,by simp[MB]⟩
 | t::ks,a,vs,Jg,Jv,h=>by
  obtain⟨v,vs',p1,p2,b1,b2,rfl,_,_,⟨h1,_⟩,h2⟩:=h;have hp:=h1.LD;subst hp;obtain⟨h3,h4⟩:=xl h2;have e:MB F (t::ks) (qi.Sb (t::ks) a)=(Jj F t a.1,t.K9)::MB F ks (qi.Sb ks a.2):=rfl;rw[e]
  refine⟨by simpa using h3,?_⟩
  intro k d x hd hx
  cases k with
  | zero=>simp only[ M9,K3]at hd hx;subst hd hx;exact nW h1
  | succ k=>exact h4 k d x (by simpa using hd) (by simpa using hx)
theorem Br{fn:Operand}{args:Array Operand}{ats:Array TypeId}(ho:o.op = .call { callee:=.value fn,args,argTypes:=ats }){ks:List Ty}{r:Ty}{φ : Js F ks→Option (ET F r)}{ds:List (Dat F)}(hv:vals = .fv ks r φ::ds) :
  Rule P o vals mm c K (qi mm K ks r φ ds):=by
 subst hv;unfold qi;split
 ·exact ah
 ·rename_i q hq;refine au (λhfl=>?_) (λ_=>ah);dsimp only;refine aC λx hx=>?_;intro r' hr';refine⟨_,hr',?_⟩;intro own g w a m u hle hm hd hall hfr hrep;rw[sC ho]at hrep;obtain⟨h1,h2⟩:=aP.1 hrep;generalize hfv:a.eval fn=fv at h1
  have h1':PZ P F w g.I7 ks r φ fv:=by cases h1 with | fv h=>exact h
  obtain⟨fid,bound,captured,rfl,hbd,hent,hfn⟩:=h1';have hfz:Pd g q.fz (g.Nq q.fz).I7:=⟨λ_ h=>.inl h,λid hid b hb=>.inr ⟨id,hid,hb⟩⟩
  obtain⟨k1,k2⟩:=ij (P:=P) (us:=[]) hm hle hq hfz h2 ⟨rfl,by simp⟩
  have k3:=xl (k1 w _ (λb hb=>⟨hb,rfl⟩) () [] ⟨rfl,by simp[MB]⟩)
  simp only[XI]at k3;intro next Q hn;unfold Oper.wp;rw[qx ho hfv hent];refine(hfn w (g.Nq q.fz).I7 (λb hb=>⟨.inl hb,rfl⟩) (freeze hm hle k2).I7 _ x _ hx k3).mono ?_;rintro e w' ⟨v,rfl,hb,hrt,hdr⟩;have hst:Stp m g w g w':=⟨⟨λ_ _ h=>h,λ_ h=>h,λb hx=>hb.block b (hm.I7 b hx),λ_ h=>h,λb hx=>hb.block b (hm.len b hx).2⟩,hb.os,hb.tape,hb.output,hb.size,λb hlt _=>hb.block b hlt,hdr⟩;refine hn v w' g (EG (hrt.flat (oL hfl x))) ?_ hst (λid hu _=>hd id hu);exact⟨λid B hB=>(hm.ok id B hB).le hst.le (λho b hi=>hb.block b ((hm.ok id B hB).place hm.I7 (J8.MX ho) hi)),hm.OB,hm.own,λb hx=>O8 (hm.I7 b hx) hb.size,hm.io,λb hx=>⟨(hm.len b hx).1,O8 (hm.len b hx).2 hb.size⟩⟩
theorem Db(hT:J5 P T)(hΓ : Kz P Γ){cl:Call}(ho:o.op = .call cl):Rule P o vals mm c K (VE T Γ vals mm c K cl):=by
 obtain⟨callee,args,ats⟩:=cl;unfold VE
 cases callee with
 | invoke x n=>exact ah
 | builtin b=>
  cases b with
  | len=>
   dsimp only;split
   ·exact FD hT ho
   ·exact ah
  | append=>
   dsimp only;split
   ·exact z7 hT ho
   ·exact ah
  | copy=>
   dsimp only;split
   ·exact Cs hT ho
   ·exact ah
  | clear=>
   dsimp only;split
   ·exact Bs hT ho
   ·exact ah
  | min=>exact wG (mx:=false) ho
  | max=>exact wG (mx:=true) ho
  | _=>exact ah
 | value fn=>
  dsimp only;split
  ·refine vD hΓ ho ?_;intro g w a hr;rw[sC ho]at hr;obtain⟨h1,h2⟩:=aP.1 hr
   exact⟨[],[],FU h1,by simpa using h2⟩
  ·refine vD hΓ ho ?_;intro g w a hr;rw[sC ho]at hr;obtain⟨h1,h2⟩:=aP.1 hr;generalize a.eval fn=fv at h1 ⊢
   cases h1 with
   | NM k1 k2 k3 k4=>exact⟨_,_,rfl,si (si ⟨k1,k3⟩ h2) ⟨k2,k4⟩⟩
  ·exact Br ho rfl
  ·exact ah
theorem lH(hT:J5 P T)(hΓ : Kz P Γ):Rule P o vals mm c K (Xy T Γ vals mm c K o.op):=by
 unfold Xy
 cases ho:o.op with
 | move x=>
  dsimp only;split
  ·exact wK (.inl ho) rfl
  ·exact ah
 | assign x=>
  dsimp only;split
  ·exact wK (.inr ho) rfl
  ·exact ah
 | pick x y z=>exact Cd ho
 | alloc e=>exact B8 hT ho
 | box e x=>exact FH hT ho
 | build t p=>exact Bj hT ho
 | buildSlice t l p=>exact au (λ_=>ux hT ho) (λ_=>uX hT ho)
 | load t x=>exact Cq hT ho
 | store t x y=>exact Bk hT ho
 | nilCheck x=>exact xB ho
 | binOp op t x y u=>exact Eh hT ho
 | unOp op t x=>exact F_ ho
 | convert s d x=>exact Df hT ho
 | makeFunc fn f cs=>exact CN ho
 | makeSlice t x y=>
  refine au (λ_=>?_) (λ_=>wP hT ho)
  cases hl:p9 T t x y with
  | some n=>exact Bw hT ho hl
  | none=>exact wP hT ho
 | slice t x lo hi mx=>
  cases mx with
  | none=>exact au (λhc=>C4 hT ho hc) (λ_=>B5 hT ho)
  | some _=>exact ah
 | fieldAddr s x f=>exact Cc hT ho
 | field s x f=>exact Cv hT ho
 | indexAddr t x y=>exact wl hT ho
 | index t x y=>exact BI hT ho
 | extract x i=>exact yA ho
 | call cl=>exact Db hT hΓ ho
 | makeMap t r=>
  cases r with
  | none=>exact y_ hT ho
  | some _=>exact ah
 | lookup t x y ok=>exact zY hT ho
 | mapUpdate t x y z=>exact vN hT ho
 | _=>exact ah
theorem Ev{x:Option R}(h:Rule P o (vals.map (Xf mm)) mm c K x):Rule P o vals mm c K x:=by intro r hr;obtain⟨res,h1,h2⟩:=h r hr;exact⟨res,h1,λown g w a m u hle hm hd hall hfr hrep=>h2 own g w a m u hle hm hd hall hfr (CC hm hle hrep)⟩
end
set_option linter.unusedVariables false
set_option linter.unusedSimpArgs false
section
variable{F:Fam}{P:Program}{T:TypeId→Option (TI F)}{Γ : Ctx F}{o:Oper}{vals:List (Dat F)}{mm:Nat→Option (J8 F)}{c:Nat}{R:Type}{K:Oy F→Option R}
variable{own:Ow}{g:G}{w:World}{m:Nat→Option (J8 F)}{u:Nat→Bool}{a:Act}
theorem Na.upd:∀{l:List (Nat×Option (J8 F))} {mm m:Nat→Option (J8 F)},Na mm m→Na (Ki mm l) (Ki m l)
 | [],_,_,h=>h
 | (id,B)::r,mm,m,h=>by
  simp only[Ki];refine Na.upd (l:=r) λx B' hx=>?_;by_cases hb:Nat.beq id x=true
  ·rw[if_pos hb]at hx ⊢;exact hx
  ·rw[if_neg hb]at hx ⊢;exact h x B' hx
theorem Fe{pre:List (Nat×Option (J8 F))}{k:Nat}{g2:G}{u2:Nat→Bool}{res:Oy F}(hl:Le g w g2 w)
  (hown:∀id B,Ki m pre id=some B→B.owned=true→∀b,g2.blk id b→∃id' B',m id'=some B'∧B'.owned=true∧g.blk id' b)
  (hu:∀id,u id=false→(id<c∨c+k≤id)→u2 id=false) (h:M8 P own (Ki m pre) u2 g2 w o a (c+k) res):M8 P own m u g w o a c ⟨res.val,pre++res.mw,k+res.nu⟩:=by
 intro next Q hn
 refine h next Q λv w' g' h1 h2 h3 h4=>hn v w' g' h1 (by rw[dC];exact h2) ⟨hl.trans h3.le,h3.os,h3.tape,h3.output,h3.size,?_,h3.drawn⟩ ?_
 ·intro b hb hno;refine h3.frame b hb λid B hB ho hbk=>?_;obtain⟨id',B',k1,k2,k3⟩:=hown id B hB ho b hbk;exact hno id' B' k1 k2 k3
 ·intro id hi hr;have hr:id<c∨c+(k+res.nu)≤id:=hr
  exact h4 id (hu id hi (by omega)) (by omega)
theorem Fv(hm:Jl own g w m){id i:Nat}{t:Ty}{l:List (ET F t)}{ks:List Nat}{rs:List (J8 F)}{g2:G}{B0:J8 F}(hB:m id=some B0)(ho:B0.owned=true)(hf:∀j,j<ks.length+1→g.ids (c+j)=none)(hrs:rs.length=ks.length)
  (hblk:∀y b',g2.blk y b'→(g.blk y b'∧¬ (c≤y∧y<c+ks.length+1))∨g.blk id b') :
  ∀y B,Ki m (Nr id c t l i ks rs) y=some B→B.owned=true→∀b,g2.blk y b→∃id' B',m id'=some B'∧B'.owned=true∧g.blk id' b:=by
 intro y B hy hoB b hb;rcases hblk y b hb with⟨h1,h2⟩ | h1
 ·refine⟨y,B,?_,hoB,h1⟩
  have hid:y≠id:=by rintro rfl;have e1:Nr y c t l i ks rs=((y,none)::(c,some (.Oa t l i ks))::blks (nmF (c+1) rs))++[(y,some (.MJ c l.length))]:=rfl;rw[e1,dC]at hy;simp only[Ki]at hy;rw[if_pos (WU y)]at hy;cases hy;cases hoB
  rw[cu]at hy
  ·exact hy
  ·intro hk;simp only[Nr,SS,K7,SQ,Lr,Mr,LG,ZB,or_false]at hk;rcases hk with rfl | rfl | hk | rfl
   ·exact hid rfl
   ·exact h2 ⟨KC _,by omega⟩
   ·obtain⟨p,hp,hp2⟩:=Oz.1 hk;obtain⟨q,hq,hq2⟩:=Oz.1 hp;obtain⟨j,hj1,hj2⟩:=vT hq;have hjl:=(I0.1 hj2).1;subst hq2;simp only at hp2
    exact h2 ⟨by omega,by omega⟩
   ·exact hid rfl
 ·exact⟨id,B0,hB,ho,h1⟩
theorem ES{id sz i off:Nat}{v:Value}(h:J4 (F:=F) P g w (.c (.O4 id sz i off)) v):∃b c' n pl,g.ids id=some (some (b,c',n))∧n.2[i*sz+off]? = some pl∧Ll (KW pl) v:=by
 cases h with | c h=>cases h with | O4 h hk hv=>exact⟨_,_,_,_,h,hk,hv⟩
theorem BC(hT:J5 P T)(hΓ : Kz P Γ){id sz i off:Nat}{rest:List (Dat F)}(hv:vals = .c (.O4 id sz i off)::rest):Rule P o vals mm c K (VF T Γ vals mm c K o.op id sz i off):=by
 unfold VF;split
 ·rename_i t l hrow;refine au (λhsz=>?_) (λ_=>ah);subst hsz;refine aC λx hx=>?_;split
  ·rename_i t2 l2 hd;intro r hr;obtain⟨res,h1,h2⟩:=lH hT hΓ r hr;refine⟨_,h1,?_⟩;intro own g w a m u hle hm U2 hall hfr hrep;subst hv;obtain⟨v0,vs,e,hv0,hvs⟩:=fj hrep
   have hfree:∀j,j < [off].length+1→g.ids (c+j)=none:=λj hj=>U2 _ (hfr j (by simp only[QdW]at hj;simp only;omega))
   have anQ:off<Jm F t:=by rw[← aT F t x];exact(I0.1 hd).1
   obtain⟨g2,b,cap,n,k1,k2,k3,k4,k5,k6,k7,k8,k9,k10⟩:=xd (c:=c) (ks:=[off]) (rs:=[.row t2 l2]) hm hall (hle _ _ hrow) hx (by simp) rfl (λj B hj=>by
    cases j with
    | zero=>simp only[M9,K3]at hj;subst hj;exact⟨off,t2,l2,rfl,rfl,hd⟩
    | succ j=>simp at hj) (by intro q hq;rw[I4]at hq;subst hq;exact anQ) hfree
   obtain⟨b',c',n',pl,p1,p2,p3⟩:=ES hv0;rw[k6]at p1;cases p1;have hn1:=k8 0 off rfl;rw[p2,Ta]at hn1
   have hx2:J4 (F:=F) P g2 w (.c (.KU (c+1))) v0:=by
    refine .c ?_
    cases pl with
    | none=>obtain⟨p,rfl⟩:=p3;exact .MR p hn1
    | some q=>obtain⟨b2,cap2,n2⟩:=q;simp only[KW,Ll]at p3;subst p3;obtain⟨t',l',hc,r1,r2,r3,_⟩:=Nc.sub k9 p2;cases r1;exact .KU hn1 r2 r3
   have hu2:∀y,(u y||(decide (c≤y)&&decide (y<c+2)))=false→g2.ids y=none:=by
    intro y hy;simp only[UU,QeO,decide_eq_false_iff_not]at hy
    rw[k5 y (by simp only[QdW];omega)]
    exact U2 y hy.1
   have hfr2:∀k,k<res.nu→(u (c+2+k)||(decide (c≤c+2+k)&&decide (c+2+k<c+2)))=false:=by
    intro k hk
    have:=hfr (2+k) (by simp only;omega)
    rw[show c+2+k=c+(2+k)by omega,this]
    simp
   have:=h2 own g2 w a (Ki m (Nr id c t l i [off] [.row t2 l2])) (λy=>u y||(decide (c≤y)&&decide (y<c+2))) hle.upd k2 hu2 hall hfr2 (by
    rw[e]
    exact aP.2 ⟨hx2,by show Kq P g2 w rest vs;exact⟨hvs.1,λk d x a b=>(hvs.2 k d x a b).le k1⟩⟩)
   exact Fe (k:=2) k1 (Fv hm (hle _ _ hrow) rfl hfree rfl k10) (λy hy hr=>by simp only[hy,Bool.false_or,QeO,decide_eq_false_iff_not];omega) this
  ·exact ah
 ·exact ah
theorem uu{α : Type}{l v:List α}{p:Nat}(h:p+v.length≤l.length)(k:Nat) :
  (l.take p++v++l.drop (p+v.length))[k]? = if p≤k∧k<p+v.length then v[k - p]? else l[k]?:=by
 have h1:(l.take p).length=p:=by rw[Lj];omega
 by_cases hk:k<p
 ·rw[if_neg (by omega),MK,ME (by omega),MV,if_pos hk]
 ·rw[MK,Nj (by omega),h1]
  by_cases hk2:k - p<v.length
  ·rw[if_pos (by omega),ME hk2]
  ·rw[if_neg (by omega),Nj (by omega),OC]
   congr 1
   omega
theorem DW{t:Ty}{l:List (ET F t)}{i off:Nat}{x y:ET F t}{ds:List (ND F)}(hx:l[i]? = some x)(h3:off+ds.length≤Jm F t)(hy:Ml F t ((Jj F t x).take off++ds++(Jj F t x).drop (off+ds.length))=some y)
  {k:Nat} {d:ND F} (hk:(cells F t (l.set i y))[k]? = some d) :
  (∃j d0,j<ds.length∧k=i*Jm F t+off+j∧ds[j]? = some d0∧Rs d0 d)∨((k<i*Jm F t+off∨i*Jm F t+off+ds.length≤k)∧∃d0,(cells F t l)[k]? = some d0∧Rs d0 d):=by
 rcases mG hx hk with⟨j,rfl,hj⟩ | ⟨h,h'⟩
 ·have hl:=bK F hy;have hels:(Jj F t x).length=Jm F t:=aT F t x
  have hjl:j<Jm F t:=by rw[← aT F t y];exact(I0.1 hj).1
  have hov:=uu (l:=Jj F t x) (v:=ds) (p:=off) (by omega) j
  by_cases hin:off≤j∧j<off+ds.length
  ·rw[if_pos hin]at hov
   have hd0:ds[j - off]? = some ds[j - off]:=IZ (by omega)
   exact .inl ⟨j - off,_,by omega,by omega,hd0,hl.2 j _ d (hov.trans hd0) hj⟩
  ·rw[if_neg hin]at hov
   have hd0:(Jj F t x)[j]? = some (Jj F t x)[j]:=IZ (by omega)
   exact .inr ⟨by omega,_,aS hx hd0,hl.2 j _ d (hov.trans hd0) hj⟩
 ·exact .inr ⟨by omega,d,h',.refl _⟩
def U1(g:G):Option Nat→Option (Nat×Nat×Nat)
 | none=>none
 | some nm=>match g.ids nm with
  | some (some (b,cap,n))=>some (b,cap,n.1)
  | _=>none
theorem kJ{y:Kv F}{r:List (Kv F)}{ds:List (ND F)}{os:List (Option Nat)}(h:dt mm (y::r)=some (ds,os)):∃d o ds' os',mv mm y=some (d,o)∧dt mm r=some (ds',os')∧ds=d::ds'∧os=o::os':=by
 simp only[dt]at h;split at h
 ·cases h
 ·rename_i d o h1;split at h
  ·cases h
  ·rename_i ds' os' h2;cases h;exact⟨d,o,ds',os',h1,h2,rfl,rfl⟩
theorem lQ:∀{cs:List (Kv F)} {ds:List (ND F)} {os:List (Option Nat)},dt mm cs=some (ds,os)→ds.length=cs.length∧os.length=cs.length
 | [],ds,os,h=>by simp only[dt,K3]at h;cases h;exact⟨rfl,rfl⟩
 | y::r,ds,os,h=>by obtain⟨d,o,ds',os',h1,h2,rfl,rfl⟩:=kJ h;obtain⟨k1,k2⟩:=lQ h2;simp[k1,k2]
theorem ua:∀{cs:List (Kv F)} {ds:List (ND F)} {os:List (Option Nat)},dt mm cs=some (ds,os)→∀{j:Nat}{d:ND F}{o:Option Nat},ds[j]? = some d→os[j]? = some o→∃y,cs[j]? = some y∧mv mm y=some (d,o)
 | [],ds,os,h,j,d,o,hd,ho=>by simp only[dt,K3]at h;cases h;simp at hd
 | y::r,ds,os,h,j,d,o,hd,ho=>by
  obtain⟨d',o',ds',os',h1,h2,rfl,rfl⟩:=kJ h
  cases j with
  | zero=>simp only[M9,K3]at hd ho;subst hd;subst ho;exact⟨y,rfl,h1⟩
  | succ j=>exact ua h2 (by simpa using hd) (by simpa using ho)
theorem vu{y:Kv F}{d:ND F}{nm:Nat}(h:mv mm y=some (d,some nm)):∃t l,y = .KU nm∧d = .sl t l∧mm nm=some (.row t l):=by
 unfold mv at h;split at h
 ·rename_i id;split at h
  ·rename_i t l hrow;cases h;exact⟨t,l,rfl,rfl,hrow⟩
  ·cases h
 ·split at h
  ·cases h
  ·split at h<;>cases h
 ·cases h
theorem mQ:∀{cs:List (Kv F)} {ds:List (ND F)} {os:List (Option Nat)},dt mm cs=some (ds,os)→cs.all Kv.NA=true
 | [],_,_,_=>rfl
 | y::r,ds,os,h=>by
  obtain⟨d,o,ds',os',h1,h2,rfl,rfl⟩:=kJ h;simp only[TB,KV];refine⟨?_,mQ h2⟩
  cases y<;>first | rfl | simp[mv]at h1
theorem rY:∀{cs:List (Kv F)} {ds:List (ND F)} {os:List (Option Nat)},dt mm cs=some (ds,os)→∀id,some id∈os→∃t l,mm id=some (.row t l)
 | [],ds,os,h,id,hid=>by simp only[dt,K3]at h;cases h;simp at hid
 | y::r,ds,os,h,id,hid=>by
  obtain⟨d,o,ds',os',h1,h2,rfl,rfl⟩:=kJ h;rcases Lr.1 hid with rfl | hid
  ·obtain⟨t,l,_,_,h3⟩:=vu h1;exact⟨t,l,h3⟩
  ·exact rY h2 id hid
theorem B6(hm:Jl own g w m)(hle:Na mm m){y:Kv F}{d0 d:ND F}{o:Option Nat}(h:mv mm y=some (d0,o))(hd:Rs d0 d){x:Value}(hr:Ka g w y x)(hnn:d≠.nl):LJ w g.I7 d x (U1 g o):=by
 cases o with
 | some nm=>
  obtain⟨t,l,rfl,rfl,hrow⟩:=vu h;cases hd;rcases hm.ok nm _ (hle _ _ hrow)with⟨k1,k2⟩ | ⟨b,cap,cur,e,k1,k2,k3,k4,k5,k6⟩
  ·subst k2;rcases a_ hr with⟨hi,p,rfl⟩ | ⟨b,c,n,hi,h1,h2,rfl⟩
   ·simp only[U1,k1];exact⟨rfl,p,rfl⟩
   ·rw[k1]at hi;cases hi
  ·rcases a_ hr with⟨hi,p,rfl⟩ | ⟨b',c',n,hi,h1,h2,rfl⟩
   ·rw[k1]at hi;cases hi
   ·rw[k1]at hi;cases hi;simp only[U1,k1];exact⟨⟨rfl,k3,k4,cur,e,k2,k5,k6⟩,rfl⟩
 | none=>
  unfold mv at h;split at h
  ·split at h<;>cases h
  ·rename_i d1;split at h
   ·cases h
    cases hd with
    | refl=>exact absurd rfl hnn
    | nl t ht=>obtain⟨p,rfl⟩:=mu (P:=default) (.c hr);exact⟨rfl,p,rfl⟩
   ·split at h
    ·rename_i hf;cases h
     cases hd with
     | refl=>
      cases d0 with
      | sl t l=>simp[NV.flat]at hf
      | nl=>exact absurd rfl hnn
      | _=>exact⟨rfl,rfl,b7 hr⟩
     | nl=>simp[NV.flat]at hf
    ·cases h
  ·cases h
theorem sZ(hm:Jl own g w m)(hle:Na mm m):∀{os:List (Option Nat)},(∀id,some id∈os→∃t l,mm id=some (.row t l))→Kr (os.map (U1 g))=I5 (os.map (Kc g))
 | [],_=>rfl
 | none::os,h=>by
  simp only[K7,U1,Kc,Kr,I5]
  exact sZ hm hle (λid hid=>h id (by simp[hid]))
 | some nm::os,h=>by
  have ih:=sZ hm hle (os:=os) (λid hid=>h id (by simp[hid]))
  obtain⟨t,l,hrow⟩:=h nm (by simp)
  rcases hm.ok nm _ (hle _ _ hrow)with⟨k1,k2⟩ | ⟨b,cap,cur,e,k1,k2,k3,k4,k5,k6⟩
  ·simp only[K7,U1,Kc,k1,Ta,Kr,I5];exact ih
  ·simp only[K7,U1,Kc,k1,Ta,Kr,I5,O7];rw[ih]
theorem Am(hm:Jl own g w m)(hle:Na mm m)(hall:∀b,w.heap.size≤b→own.o b){t:Ty}{id i off p:Nat}(hp:p=i*Jm F t+off){l:List (ET F t)}{x y:ET F t}{C:Nat→ND F→Value→Option (Nat×Nat×Nat)→Prop}{C':World→Nat→ND F→Value→Option (Nat×Nat×Nat)→Prop}{B0 B':J8 F}{b cap:Nat}{n:Nat×NS}
  (hB:m id=some B0) (hB0:B0.owned=true) (hid:g.ids id=some (some (b,cap,n))) (hO:Nk w t l C (some (b,cap,n))) (hx:l[i]? = some x) {cs:List (Kv F)} {ds:List (ND F)} {os:List (Option Nat)} (hst:dt mm cs=some (ds,os))
  (hnd:cv (id::Km os)=true) (h3:off+ds.length≤Jm F t) (hy:Ml F t ((Jj F t x).take off++ds++(Jj F t x).drop (off+ds.length))=some y) (hnn:∀d∈Jj F t y,d≠.nl)
  {vs:List Value} (hvl:vs.length=cs.length) (hv:∀(k:Nat)(c:Kv F)(z:Value),cs[k]? = some c→vs[k]? = some z→Ka g w c z) {cur:List Value} {e:TypeId} (hb:w.heap[b]? = some (.cells ⟨cur⟩ e (0,0))) (hf:g.ids c=none)
  (hB1:∀g' w',g'.ids c=some (some (b,cap,n.1,n.2.take (p)++os.map (U1 g)++n.2.drop (p+ds.length)))→g'.I7=g.I7→Nk w' t (l.set i y) (C' w') (some (b,cap,n.1,n.2.take (p)++os.map (U1 g)++n.2.drop (p+ds.length)))→KQ g' w' c B') (hB2:B'.owned=true)
  (hC1:∀(w':World) k d z pl,(∀b',g.I7 b'→w'.heap[b']? = w.heap[b']?)→(∀b' c',pl=some (b',c')→w'.heap[b']? = w.heap[b']?)→p≤k→k<p+ds.length→LJ w g.I7 d z pl→C' w' k d z pl)
  (hC2:∀(w':World) k d0 d z pl,(∀b',g.I7 b'→w'.heap[b']? = w.heap[b']?)→(∀b' c',pl=some (b',c')→w'.heap[b']? = w.heap[b']?)→(k<p∨p+ds.length≤k)→(cells F t l)[k]? = some d0→Rs d0 d→C k d0 z pl→C' w' k d z pl) :
  ∃g',Jl own g' (w.setRow b ⟨cur.take (p)++vs++cur.drop (p+ds.length)⟩) (Ki m (Ve id c l.length os B'))∧Stp m g w g' (w.setRow b ⟨cur.take (p)++vs++cur.drop (p+ds.length)⟩)∧∀y,y≠c→g'.ids y=g.ids y:=by
 obtain⟨w',hw'⟩:∃w',w'=w.setRow b ⟨cur.take p++vs++cur.drop (p+ds.length)⟩:=⟨_,rfl⟩;obtain⟨ns,hns⟩:∃ns,ns=n.2.take p++os.map (U1 g)++n.2.drop (p+ds.length):=⟨_,rfl⟩;rw[← hw'];rw[← hns]at hB1;obtain⟨q1,q2,q3,q4,q5,cur',e',q6,q7,q8⟩:=hO;rw[hb]at q6;cases q6;obtain⟨hdl,hol⟩:=lQ hst
 have anP:os.length=ds.length:=by omega
 have anI:vs.length=ds.length:=by omega
 have hile:i<l.length:=(I0.1 hx).1
 have hbig:p+ds.length≤(cells F t l).length:=by rw[dL];have:(i+1)*Jm F t≤l.length*Jm F t:=M5 _ hile;rw[Ro]at this;omega
 have hcur:(cells F t l).length≤cur.length:=by rw[q7,dL];exact M5 _ q2
 have hsame:∀b',b'≠b→w'.heap[b']? = w.heap[b']?:=λb' h=>by rw[hw'];exact setRow_other w b b' _ h
 have hnew:w'.heap[b]? = some (.cells ⟨cur.take p++vs++cur.drop (p+ds.length)⟩ e (0,0)):=by rw[hw'];exact setRow_heap w b _ _ _ _ hb
 have hsz:w'.heap.size=w.heap.size:=by rw[hw'];simp[World.setRow]
 have hrows:=rY hst;have ajq:g.blk id b:=G.Kt hid
 have aag:∀id',some id'∈some id::os→∃B,m id'=some B∧B.owned=true:=by
  intro id' h;rcases Lr.1 h with h | h
  ·cases h;exact⟨_,hB,hB0⟩
  ·obtain⟨t',l',h'⟩:=hrows id' h;exact⟨_,hle _ _ h',rfl⟩
 have Tk:I5 ((some id::os).map (Kc g))=b::(Kr n.2++I5 (os.map (Kc g))):=by simp[Kc,hid,I5]
 have hN0:=fg (os:=some id::os) hm (eC hnd) aag
 have Ri:∀b',b'∈I5 ((some id::os).map (Kc g))→own.o b'∧¬ g.I7 b'∧b'<w.heap.size∧¬ g.len b':=by intro b' h;obtain⟨id',h1,h2⟩:=bC.1 h;obtain⟨B,h4,h5⟩:=aag id' h1;have:=hm.own id' B b' h4 h5 h2;exact⟨this.1,this.2,(hm.ok id' B h4).place hm.I7 (J8.MX h5) h2,λhl=>(hm.len b' hl).1 this.1⟩
 have aar:b∈I5 ((some id::os).map (Kc g)):=by rw[Tk];simp
 have Kl:∀b',g.I7 b'→w'.heap[b']? = w.heap[b']?:=λb' h=>hsame b' (λe=>(Ri b aar).2.1 (e▸h))
 have hlns:p+ds.length≤n.2.length:=by rw[q4];exact hbig
 have hsplit:Kr n.2=Kr (n.2.take p)++(Kr ((n.2.drop p).take ds.length)++Kr (n.2.drop (p+ds.length))):=by rw[← dY,← dY,← Zy,Uw,Uw]
 have anV:Kr ns=Kr (n.2.take p)++(I5 (os.map (Kc g))++Kr (n.2.drop (p+ds.length))):=by rw[hns,dY,dY,sZ hm hle hrows,MK]
 have hperm:(b::(Kr n.2++I5 (os.map (Kc g)))).Perm ((b::Kr ns)++Kr ((n.2.drop p).take ds.length)):=by rw[hsplit,anV];simp only[SS,MK];refine List.Perm.cons _ (QdX _ ?_);refine(List.perm_append_comm_assoc _ _ _).trans ?_;refine((QcN (l₁:=Kr ((n.2.drop p).take ds.length))).append_left _).trans ?_;rw[← MK,← MK];exact List.perm_append_comm.append_right _
 have Wy:(b::Kr ns).Nodup:=by have:=hperm.nodup_iff.1 (Tk▸hN0);exact(WI.1 this).1
 have hsub:∀b',b'∈b::Kr ns→b'∈I5 ((some id::os).map (Kc g)):=by intro b' h;rw[Tk];exact hperm.mem_iff.2 (WJ _ h)
 have aje:ns.length=(cells F t (l.set i y)).length:=by rw[hns,dL,RJ,← dL];simp only[I3,Lj,Nh,OD];omega
 have hOw:Nk w' t (l.set i y) (C' w') (some (b,cap,n.1,ns)):=by
  refine⟨by rw[RJ];exact q1,by rw[RJ];exact q2,q3,aje,Wy,_,e,hnew,by simp only[I3,Lj,Nh];omega,?_⟩
  intro k d z pl p1 p2 p3
  have Y_:=uu (l:=cur) (v:=vs) (p:=p) (by omega) k
  have ach:=uu (l:=n.2) (v:=os.map (U1 g)) (p:=p) (by rw[OD];omega) k
  rw[OD,anP]at ach;rw[anI]at Y_;rw[Y_]at p2;dsimp only at p3;rw[hns,ach]at p3;rcases DW hx h3 hy p1 with⟨j,d0,j1,j2,j3,j4⟩ | ⟨j1,d0,j2,j3⟩
  ·rw[← hp]at j2
   rw[if_pos (by omega)]at p2 p3
   have ej:k - p=j:=by omega
   rw[ej]at p2 p3;rw[MU]at p3;obtain⟨o',ho',rfl⟩:=RN.1 p3;obtain⟨cc,hcc,hce⟩:=ua hst j3 ho'
   have aod:d≠.nl:=by
    rcases mG hx p1 with⟨jj,hjj,hd⟩ | ⟨hout,_⟩
    ·exact hnn d (Rq hd)
    ·omega
   have hC:=B6 hm hle hce j4 (hv j cc z hcc p2) aod
   refine hC1 w' k d z _ Kl ?_ (by omega) (by omega) hC
   rintro b' c' hpl;refine hsame b' ?_;rintro rfl
   have hin:b'∈I5 (os.map (Kc g)):=by
    rw[← sZ hm hle hrows]
    exact fa (k:=j) (by rw[MU,ho'];exact congrArg some hpl)
   rw[Tk]at hN0;exact(PI.1 hN0).1 (WK _ hin)
  ·rw[← hp]at j1
   rw[if_neg (by omega)]at p2 p3
   refine hC2 w' k d0 d z pl Kl ?_ j1 j2 j3 (q8 k d0 z pl j2 p2 p3);rintro b' c' rfl;refine hsame b' ?_;rintro rfl;exact(PI.1 q5).1 (fa p3)
 have Vn:Le g w (g.back c [some (b,cap,n.1,ns)] g.I7) w':=by
  refine⟨λy r hy=>?_,λ_ h=>h,Kl,λ_ h=>h,λb' hl=>hsame b' (λe=>(Ri b aar).2.2.2 (e▸hl))⟩
  have hyc:¬ (c≤y∧y<c + [(some (b,cap,n.1,ns):Pl)].length):=by
   intro hc
   have:y=c:=by simp only[QdW]at hc;omega
   subst this;rw[hf]at hy;cases hy
  rw[cA hyc];exact hy
 have hc0:(g.back c [some (b,cap,n.1,ns)] g.I7).ids c=some (some (b,cap,n.1,ns)):=by have:=sJ (g:=g) (c:=c) (Jg:=[some (b,cap,n.1,ns)]) (I:=g.I7) 0 _ rfl;simpa using this
 have Xp:I5 ([]:List Pl)++I5 [some (b,cap,n.1,ns)]=b::Kr ns:=by simp[I5]
 have hfk:∀k,k < [(some (b,cap,n.1,ns):Pl)].length→g.ids (c+k)=none:=by
  intro k hk
  have:k=0:=by simp only[QdW]at hk;omega
  subst this;exact hf
 have hM:=qM (g1:=g) (m1:=m) (os:=some id::os) (bx:=[]) (Jv:=[]) (Kg:=[some (b,cap,n.1,ns)]) (bs:=[(c,B')]) (PU:=g.I7) (Jo:=g.I7) (I:=g.I7) (w':=w') hm hm rfl rfl hall rfl
  hfk
  (λid' h=>by obtain⟨B,h1,h2⟩:=aag id' h;exact⟨B,h1,h1,h2⟩) (λid' h=>by simp at h) rfl ⟨hN0,λb' h=>(Ri b' h).2.1,λb' h=>(Ri b' h).2.2.1⟩ (λ_ h=>h) (by rw[hsz];exact KC _) (λb' _ hno=>hsame b' (λe=>hno (e▸aar))) (λ_ h=>h) (λ_ h=>h) (λb h=>.inl h) (λb' h=>by rw[hsz];exact hm.I7 b' h)
  ⟨by rw[Xp];exact Wy,λb' h=>(Ri b' (hsub b' (Xp▸h))).2.1,λb' h=>by rw[hsz];exact(Ri b' (hsub b' (Xp▸h))).2.2.1⟩
  (λb' h=>.inl (hsub b' (Xp▸h))) (λp hp=>by rw[I4]at hp;subst hp;exact⟨hB2,hB1 _ _ hc0 rfl hOw,.inl ⟨0,rfl,by simp⟩⟩)
 refine⟨g.back c [some (b,cap,n.1,ns)] g.I7,?_,⟨Vn,by rw[hw'];rfl,by rw[hw'];rfl,by rw[hw'];rfl,by rw[hsz];exact KC _,λb' _ hno=>hsame b' (λe=>hno id B0 hB hB0 (e▸ajq)),by rw[hw'];exact KC _⟩,λy hy=>cA (by simp only[QdW];omega)⟩
 have:=hM.MJ (id:=id) (k:=c) (n:=l.length) (.inl ⟨b,cap,n,(n.1,ns),Vn.ids _ _ hid,hc0,rfl,q1⟩)
 have e1:Ve id c l.length os B'=(nones (Km (some id::os))++blks [(c,B')])++[(id,some (.MJ c l.length))]:=by simp[Ve,Km,blks]
 rw[e1,dC];exact this
theorem Pv(hT:J5 P T){ty:TypeId}{X Y:Operand}(ho:o.op = .store ty X Y){id sz i off:Nat}{v:Dat F}(hv:vals = [.c (.Mg id sz i off),v]){t:Ty}{l:List (ET F t)}{i0:Nat}{ks:List Nat}
  (hk:(mm id=some (.KR t l)∧ks = [])∨mm id=some (.Oa t l i0 ks)):Rule P o vals mm c K (TG T mm c K ty id sz i off v t l i0 ks):=by
 subst hv;unfold TG;split
 ·exact ah
 ·rename_i ti hti
  have key:∀{w:World}{a:Act}{b q:Nat}{cur:List Value} {e:TypeId} {vs:List Value},a.eval X = .pointer (some ⟨b,q,none⟩)→w.heap[b]? = some (.cells ⟨cur⟩ e (0,0))→(a.eval Y).cells.toList=vs→vs.length=ti.size→
    (∀v∈vs,v.oneCell'=true)→q+vs.length≤cur.length→(execOp a.eval o).run P w = .ok .skip (w.setRow b ⟨cur.take q++vs++cur.drop (q+vs.length)⟩):=by
   intro w a b q cur e vs e1 hb e2 hl h1 hle;have hsz:=bA hT hti w
   have hs:=run_storeCells_at (P:=P) b q e vs 0 ⟨cur⟩ w hb (by simpa using hle) h1
   simp only[R4]at hs
   have hsize:(a.eval Y).cells.size=ti.size:=by rw[← SV,e2,hl]
   simp only[execOp,ho,e1,Instr.storeAt,Instr.sureAddr,LM,MO,L8,storeVar,hsz,hsize,ne_eq,not_true_eq_false,if_false,e2,hs]
  split
  ·exact ah
  ·rename_i ds os hst;refine au (λhc=>?_) (λ_=>ah);simp only[KV,decide_eq_true_eq,beq_iff_eq,M4]at hc;obtain⟨⟨⟨⟨⟨h1,h2⟩,h3⟩,h4⟩,h5⟩,h6⟩:=hc;have h3:=P9 h3;subst h2
   cases hcb:(ks.isEmpty||Nat.beq i i0)with
   | false=>exact ah
   | true=>
   simp only[cond_true];refine aC λx hx=>?_;split
   ·rename_i y hy;intro r hr;refine⟨_,hr,?_⟩;intro own g w a m u hle hm U2 hall hfr hrep;rw[ho]at hrep;simp only[Op.operands,K7,LG]at hrep;obtain⟨hxr,hyr⟩:=KM hrep;obtain⟨b,cn,hi,e1⟩:=eu hxr;obtain⟨cap,n⟩:=cn;obtain⟨hdl,hol⟩:=lQ hst;have hlt:i<l.length:=(I0.1 hx).1
    obtain⟨r1,r2,r3⟩:=ia hyr (mQ hst) (by omega)
    have hf:g.ids c=none:=U2 c (hfr 0 (by simp))
    have hrow:∃(B0:J8 F)(C:Nat→ND F→Value→Option (Nat×Nat×Nat)→Prop),m id=some B0∧B0.owned=true∧Nk w t l C (some (b,cap,n))∧
      ∀k d z pl,(k<i*Jm F t+off∨i*Jm F t+off+ds.length≤k)→C k d z pl→LJ w g.I7 d z pl:=by
     rcases hk with⟨hk,rfl⟩ | hk
     ·obtain⟨pl,k1,k2⟩:=hm.ok id _ (hle _ _ hk);rw[hi]at k1;cases k1;exact⟨_,λ_=>LJ w g.I7,hle _ _ hk,rfl,k2,λ_ _ _ _ _ h=>h⟩
     ·obtain⟨pl,k1,k2⟩:=hm.ok id _ (hle _ _ hk);rw[hi]at k1;cases k1;refine⟨_,_,hle _ _ hk,rfl,k2,λk d z pl hout hC=>hC.2 ?_⟩;rintro⟨q,hq,hkq⟩
      have hii:i=i0:=by
       rw[PE]at hcb;rcases hcb with hcb | hcb
       ·rw[QeG]at hcb;subst hcb;simp at hq
       ·exact M_ hcb
      subst hii;have:=Oe.1 h6 q hq;simp only[KV,M4]at this;have h7:=P9 this.1;omega
    obtain⟨B0,C,hB,hBo,hO,hC⟩:=hrow;have hO':=hO;obtain⟨q1,q2,q3,q4,q5,cur,e,q6,q7,q8⟩:=hO'
    have hbig:i*Jm F t+off+ds.length≤cur.length:=by
     have h8:(i+1)*Jm F t≤cap*Jm F t:=M5 _ (by omega)
     rw[Ro]at h8;omega
    have hrun:=key (vs:=(a.eval Y).cells.toList) e1 q6 rfl (by rw[r1,← hdl,h1]) r3 (by rw[r1,← hdl];exact hbig)
    rw[r1,← hdl]at hrun;obtain⟨g',s1,s2,s3⟩:=Am (c:=c) (C:=C) (C':=λw' _=>LJ w' g.I7) (B':=.KR t (l.set i y)) hm hle hall (p:=i*Jm F t+off) rfl hB hBo hi hO hx hst h5 h3 hy (qr hy) r1 r2 q6 hf
     (λg'' w' k1 k2 k3=>⟨_,k1,by rw[k2];exact k3⟩) rfl (λw' k d z pl k1 k2 _ _ k3=>k3.Mv (λ_ h=>h) k1 k2) (λw' k d0 d z pl k1 k2 k3 k4 k5 k6=>by have h9:=hC k d0 z pl k3 k6;rw[uK k5 h9];exact h9.Mv (λ_ h=>h) k1 k2)
    intro next Q hn;unfold Oper.wp;rw[hrun]
    exact hn undef _ g' (.c .any) s1 s2 (λid' hu hr=>by
     have hr:id'<c∨c+1≤id':=hr
     rw[s3 id' (by omega)]
     exact U2 id' hu)
   ·exact ah
theorem Tz(hT:J5 P T){ty:TypeId}{X Y:Operand}(ho:o.op = .store ty X Y){id sz i off:Nat}{v:Dat F}(hv:vals = [.c (.Mg id sz i off),v]){t:Ty}{l:List (ET F t)}{j:Nat}
  (hk:mm id=some (.La t l j)):Rule P o vals mm c K (Vu T mm c K ty id sz i off v t l j):=by
 subst hv;unfold Vu;split
 ·exact ah
 ·rename_i ti hti
  have key:∀{w:World}{a:Act}{b q:Nat}{cur:List Value} {e:TypeId} {vs:List Value},a.eval X = .pointer (some ⟨b,q,none⟩)→w.heap[b]? = some (.cells ⟨cur⟩ e (0,0))→(a.eval Y).cells.toList=vs→vs.length=ti.size→
    (∀v∈vs,v.oneCell'=true)→q+vs.length≤cur.length→(execOp a.eval o).run P w = .ok .skip (w.setRow b ⟨cur.take q++vs++cur.drop (q+vs.length)⟩):=by
   intro w a b q cur e vs e1 hb e2 hl h1 hle;have hsz:=bA hT hti w
   have hs:=run_storeCells_at (P:=P) b q e vs 0 ⟨cur⟩ w hb (by simpa using hle) h1
   simp only[R4]at hs
   have hsize:(a.eval Y).cells.size=ti.size:=by rw[← SV,e2,hl]
   simp only[execOp,ho,e1,Instr.storeAt,Instr.sureAddr,LM,MO,L8,storeVar,hsz,hsize,ne_eq,not_true_eq_false,if_false,e2,hs]
  split
  ·exact ah
  ·rename_i ds os hst;refine au (λhc=>?_) (λ_=>ah);simp only[KV,decide_eq_true_eq,beq_iff_eq,M4]at hc;obtain⟨⟨⟨⟨h1,h2⟩,h3⟩,h4⟩,h5⟩:=hc;have h3:=P9 h3;subst h2
   cases hcb:Nat.beq i j with
   | false=>exact ah
   | true=>
   simp only[cond_true];have hij:=M_ hcb;subst hij;refine aC λx hx=>?_;refine au (λhfl=>?_) (λ_=>ah);split
   ·rename_i y hy;intro r hr;refine⟨_,hr,?_⟩;intro own g w a m u hle hm U2 hall hfr hrep;rw[ho]at hrep;simp only[Op.operands,K7,LG]at hrep;obtain⟨hxr,hyr⟩:=KM hrep;obtain⟨b,cn,hi,e1⟩:=eu hxr;obtain⟨cap,n⟩:=cn;obtain⟨hdl,hol⟩:=lQ hst;have hlt:i<l.length:=(I0.1 hx).1
    obtain⟨r1,r2,r3⟩:=ia hyr (mQ hst) (by omega)
    have hf:g.ids c=none:=U2 c (hfr 0 (by simp))
    obtain⟨pl,k1,hO⟩:=hm.ok id _ (hle _ _ hk);rw[hi]at k1;cases k1;have hB:=hle _ _ hk;have hO':=hO;obtain⟨q1,q2,q3,q4,q5,cur,e,q6,q7,q8⟩:=hO'
    have hbig:i*Jm F t+off+ds.length≤cur.length:=by
     have h8:(i+1)*Jm F t≤cap*Jm F t:=M5 _ (by omega)
     rw[Ro]at h8;omega
    have hrun:=key (vs:=(a.eval Y).cells.toList) e1 q6 rfl (by rw[r1,← hdl,h1]) r3 (by rw[r1,← hdl];exact hbig)
    rw[r1,← hdl]at hrun
    have ajk:∀q d0,(Jj F t x)[q]? = some d0→(q<off∨off+ds.length≤q)→d0.flat=true:=by
     intro q d0 hq hout;refine Oe.1 hfl d0 ?_;rcases hout with hout | hout
     ·exact WJ _ (Rq (i:=q) (by rw[MV,if_pos hout];exact hq))
     ·exact WK _ (Rq (i:=q - (off+ds.length)) (by rw[OC];rw[← hq];congr 1;omega))
    have hsz1:(i+1)*Jm F t=i*Jm F t+Jm F t:=Ro _ _;obtain⟨g',s1,s2,s3⟩:=Am (c:=c) (C:=RD w g.I7 (Jm F t) i) (C':=λw'=>RD w' g.I7 (Jm F t) (i+1)) (B':=.La t (l.set i y) (i+1)) hm hle hall (p:=i*Jm F t+off) rfl hB rfl hi hO hx hst h5 h3 hy (qr hy) r1 r2 q6 hf
     (λg'' w' k1 k2 k3=>⟨_,k1,by rw[k2];exact k3⟩) rfl (λw' k d z pl k1 k2 p1 p2 k3=>⟨λ_=>k3.Mv (λ_ h=>h) k1 k2,λhno=>absurd (by omega) hno⟩) (λw' k d0 d z pl k1 k2 k3 k4 k5 k6=>by
      by_cases hk1:k<i*Jm F t
      ·have h9:=k6.1 hk1
       refine⟨λ_=>?_,λhno=>absurd (by omega) hno⟩
       rw[uK k5 h9];exact h9.Mv (λ_ h=>h) k1 k2
      ·have h9:=k6.2 hk1;refine⟨λhlt2=>?_,λ_=>⟨h9.1,(h9.2.mono (λ_ h=>h) k1).Un k5⟩⟩
       obtain⟨d1,hq⟩:∃d1,(Jj F t x)[k - i*Jm F t]? = some d1:=⟨_,IZ (by rw[aT];omega)⟩
       have hcg:=aS hx hq
       rw[show i*Jm F t+(k - i*Jm F t)=k by omega,k4]at hcg
       have hfd:=ajk _ _ hq (by omega)
       rw[← Option.some.inj hcg]at hfd
       have hd:d=d0:=by
        cases k5 with
        | refl=>rfl
        | nl=>simp[NV.flat]at hfd
       subst hd;obtain⟨rfl,hrI⟩:=h9
       cases d with
       | sl=>simp[NV.flat]at hfd
       | nl=>simp[NV.flat]at hfd
       | _=>exact⟨rfl,rfl,hrI.mono (λ_ h=>h) k1⟩)
    intro next Q hn;unfold Oper.wp;rw[hrun]
    exact hn undef _ g' (.c .any) s1 s2 (λid' hu hr=>by
     have hr:id'<c∨c+1≤id':=hr
     rw[s3 id' (by omega)]
     exact U2 id' hu)
   ·exact ah
theorem oC:∀{cs:List (ND F)} {k0:Nat} {j:Nat} {q:Nat} {B:J8 F},(bz F k0 cs)[j]? = some (q,B)→∃k t l,q=k0+k∧cs[k]? = some (.sl t l)∧B = .row t l
 | [],k0,j,q,B,h=>by simp[bz]at h
 | d::r,k0,j,q,B,h=>by
  have rest:∀{j:Nat},(bz F (k0+1) r)[j]? = some (q,B)→∃k t l,q=k0+k∧(d::r)[k]? = some (.sl t l)∧B = .row t l:=by
   intro j h;obtain⟨k,t,l,h1,h2,h3⟩:=oC h
   exact⟨k+1,t,l,by omega,by simpa using h2,h3⟩
  cases d with
  | sl t l=>
   simp only[bz]at h
   cases j with
   | zero=>
    simp only[M9,K3,Prod.mk.injEq]at h
    exact⟨0,t,l,by omega,rfl,h.2.symm⟩
   | succ j=>exact rest (by simpa using h)
  | _=>exact rest h
theorem uY:∀{cs:List (ND F)} {k0:Nat},∀q∈(bz F k0 cs).map (·.1),k0≤q∧q<k0+cs.length:=by intro cs k0 q hq;obtain⟨p,hp,rfl⟩:=Oz.1 hq;obtain⟨j,hj⟩:=RL hp;obtain⟨k,t,l,h1,h2,_⟩:=oC (q:=p.1) (B:=p.2) hj;have:=(I0.1 h2).1;omega
theorem mL:∀{cs:List (ND F)} {k0:Nat},((bz F k0 cs).map (·.1)).Nodup
 | [],k0=>by simp[bz]
 | d::r,k0=>by
  cases d with
  | sl t l=>
   simp only[bz,K7,PI]
   exact⟨λh=>by have:=uY _ h;omega,mL (cs:=r)⟩
  | _=>exact mL (cs:=r) (k0:=k0+1)
theorem qJ:∀{cs:List (ND F)} {k0 c k:Nat} {y:Kv F},(takeC F c cs)[k]? = some y→
  (∃t l j,cs[k]? = some (.sl t l)∧y = .KU (c+j)∧(bz F k0 cs)[j]? = some (k0+k,.row t l))∨(∃d,cs[k]? = some d∧(∀t l,d≠.sl t l)∧y = .im d)
 | [],k0,c,k,y,h=>by simp[takeC]at h
 | d::r,k0,c,k,y,h=>by
  cases d with
  | sl t l=>
   simp only[takeC]at h
   cases k with
   | zero=>
    simp only[M9,K3]at h
    exact .inl ⟨t,l,0,rfl,h.symm,by simp[bz]⟩
   | succ k=>
    rcases qJ (k0:=k0+1) (cs:=r) (by simpa using h)with⟨t',l',j,h1,h2,h3⟩ | ⟨d,h1,h2,h3⟩
    ·exact .inl ⟨t',l',j+1,by simpa using h1,by rw[h2];congr 1;omega,by simp only[bz,W_];rw[h3];congr 2;omega⟩
    ·exact .inr ⟨d,by simpa using h1,h2,h3⟩
  | _=>
   simp only[takeC]at h
   cases k with
   | zero=>
    simp only[M9,K3]at h
    exact .inr ⟨_,rfl,by simp,h.symm⟩
   | succ k=>
    rcases qJ (k0:=k0+1) (cs:=r) (by simpa using h)with⟨t',l',j,h1,h2,h3⟩ | ⟨d,h1,h2,h3⟩
    ·exact .inl ⟨t',l',j,by simpa using h1,h2,by simp only[bz];rw[h3];congr 2;omega⟩
    ·exact .inr ⟨d,by simpa using h1,h2,h3⟩
theorem Fm{w:World}{I7:Nat→Prop}{g2:G}{id:Nat}{t:Ty}{l:List (ET F t)}{pl:Option (Nat×Nat×Nat)}{v:Value}(hi:g2.ids id=some (KW pl))(hO:bD w I7 t l (KW pl))(hv:Ll (KW pl) v):Ka (F:=F) g2 w (.KU id) v:=by
 cases pl with
 | none=>obtain⟨p,rfl⟩:=hv;exact .MR p hi
 | some q=>obtain⟨b2,cap2,n2⟩:=q;simp only[KW,Ll]at hv;subst hv;obtain⟨r1,r2,r3,_⟩:=hO;cases r1;exact .KU hi r2 r3
theorem z8(hT:J5 P T){ty:TypeId}{X:Operand}(ho:o.op = .load ty X){id sz i off:Nat}(hv:vals = [.c (.Mg id sz i off)]){t:Ty}{l:List (ET F t)}(hrow:mm id=some (.KR t l)):Rule P o vals mm c K (zw T c K ty id sz i off t l):=by
 subst hv;unfold zw
 have key:∀{w:World}{a:Act}{b q:Nat}{v:Value},a.eval X = .pointer (some ⟨b,q,none⟩)→(loadVar ty ⟨b,q,none⟩).run P w = .ok v w→(execOp a.eval o).run P w = .ok (.value v) w:=by intro w a b q v e hr;simp[execOp,ho,e,Instr.loadAt,Instr.sureAddr,hr]
 split
 ·exact ah
 ·rename_i ti hti;refine au (λhc=>?_) (λ_=>ah);simp only[KV,beq_iff_eq]at hc;obtain⟨rfl,hag⟩:=hc;refine aC λx hx=>?_;refine au (λhfl=>?_) (λ_=>?_)
  ·refine jH λd hd=>?_;intro own g w a m hle hm hr;rw[ho]at hr;obtain⟨b,cn,hi,e⟩:=eu (KY hr);obtain⟨_,_,_,hcell⟩:=fp hm (hle _ _ hrow) (c:=cn.1) (n:=cn.2) hi
   obtain⟨v,hrun,hrep⟩:=cE (P:=P) (g:=g) (w:=w) hT hti hd (b:=b) (q:=i*Jm F t) (by
    intro k c hk;rw[MU]at hk;obtain⟨d',hd',rfl⟩:=RN.1 hk;obtain⟨y,pl,k1,k2,k3⟩:=hcell _ _ (aS hx hd');refine⟨y,k1,?_⟩
    cases hf:d'.flat with
    | true=>
     cases d' with
     | sl=>simp[NV.flat]at hf
     | _=>exact .im k3.2.2
    | false=>
     refine .one ?_
     cases d' with
     | sl t2 l2=>
      have hv:=k3.2
      cases pl with
      | none=>obtain⟨p,rfl⟩:=hv;rfl
      | some q=>simp only[KW,Ll]at hv;subst hv;rfl
     | _=>exact k3.2.2.oneCell)
   exact⟨v,key e hrun,hrep⟩
  ·refine au (λhok=>?_) (λ_=>ah);split
   ·rename_i d hd;intro r hr;refine⟨_,hr,?_⟩;intro own g w a m u hle hm U2 hall hfr hrep;rw[ho]at hrep;obtain⟨b,cn,hi,e⟩:=eu (KY hrep);obtain⟨cap,n⟩:=cn;obtain⟨sl,hsl⟩:∃sl,sl=bz F 0 (Jj F t x):=⟨_,rfl⟩
    have Y3:(sl.map (·.1)).length=sl.length:=by simp
    have hfree:∀j,j<(sl.map (·.1)).length+1→g.ids (c+j)=none:=λj hj=>U2 _ (hfr j (by simp only[← hsl];rw[Y3]at hj;omega))
    obtain⟨g2,b',cap',n',k1,k2,k3,k4,k5,k6,k7,k8,k9,k10⟩:=xd (c:=c) (ks:=sl.map (·.1)) (rs:=sl.map (·.2)) hm hall (hle _ _ hrow) hx (by rw[hsl];exact mL) (by simp) (λj B hj=>by
     rw[MU]at hj;obtain⟨p,hp,rfl⟩:=RN.1 hj;rw[hsl]at hp;obtain⟨k,t2,l2,h1,h2,h3⟩:=oC (q:=p.1) (B:=p.2) hp;rw[L_]at h1;subst h1
     exact⟨p.1,t2,l2,by rw[MU,hsl,hp];rfl,h3,h2⟩) (λq hq=>by
      have:=uY (cs:=Jj F t x) (k0:=0) q (by rw[← hsl];exact hq)
      rw[aT]at this;omega) hfree
    rw[hi]at k6;cases k6;obtain⟨_,_,_,hcell⟩:=fp hm (hle _ _ hrow) (c:=cap) (n:=n) hi
    obtain⟨v,hrun,hrv⟩:=cE (P:=P) (g:=g2) (w:=w) hT hti hd (b:=b) (q:=i*Jm F t) (by
     intro k cc hk;rcases qJ (k0:=0) hk with⟨t2,l2,j,h1,h2,h3⟩ | ⟨d',h1,h2,h3⟩
     ·obtain⟨y,pl,q1,q2,q3⟩:=hcell _ _ (aS hx h1);refine⟨y,q1,?_⟩;subst h2
      have hname:=k8 j k (by rw[MU,hsl,h3];simp)
      have q2:n.2[i*Jm F t+k]? = some pl:=q2;rw[q2,Ta]at hname;exact Fm hname q3.1 q3.2
     ·obtain⟨y,pl,q1,q2,q3⟩:=hcell _ _ (aS hx h1);refine⟨y,q1,?_⟩;subst h3;refine .im ?_
      cases d' with
      | sl t2 l2=>exact absurd rfl (h2 t2 l2)
      | _=>exact(q3.2.2:Ju w g.I7 _ y).mono (λb h=>by rw[k3];exact h) (λ_ _=>rfl))
    intro next Q hn;unfold Oper.wp;rw[key e hrun]
    have hmw:Ki m (Nr id c t l i (sl.map (·.1)) (sl.map (·.2)))=Ki m (Nr id c t l i ((bz F 0 (Jj F t x)).map (·.1)) ((bz F 0 (Jj F t x)).map (·.2))):=by rw[hsl]
    refine hn v w g2 hrv (hmw▸k2) ⟨k1,rfl,rfl,rfl,KC _,λ_ _ _=>rfl,KC _⟩ ?_;intro y hu hy;have hy:y<c∨c+(1+(bz F 0 (Jj F t x)).length)≤y:=hy;rw[← hsl]at hy
    rw[k5 y (by rw[Y3];omega)]
    exact U2 y hu
   ·exact ah
theorem SH(hT:J5 P T){ty:TypeId}{X:Operand}(ho:o.op = .load ty X){id sz i off:Nat}(hv:vals = [.c (.Mg id sz i off)]){t:Ty}{l:List (ET F t)}{j:Nat}(hrow:mm id=some (.La t l j)):Rule P o vals mm c K (yB T K ty sz i off t l j):=by
 subst hv;unfold yB
 have key:∀{w:World}{a:Act}{b q:Nat}{v:Value},a.eval X = .pointer (some ⟨b,q,none⟩)→(loadVar ty ⟨b,q,none⟩).run P w = .ok v w→(execOp a.eval o).run P w = .ok (.value v) w:=by intro w a b q v e hr;simp[execOp,ho,e,Instr.loadAt,Instr.sureAddr,hr]
 split
 ·exact ah
 ·rename_i ti hti;refine au (λhc=>?_) (λ_=>ah);simp only[beq_iff_eq]at hc;subst hc
  cases hji:Nat.ble j i with
  | false=>exact ah
  | true=>
  simp only[cond_true];have hji:=P9 hji;refine aC λx hx=>jH λd hd=>?_;intro own g w a m hle hm hr;rw[ho]at hr;obtain⟨b,cn,hi,e⟩:=eu (KY hr);obtain⟨pl,k1,k2⟩:=hm.ok id _ (hle _ _ hrow);rw[hi]at k1;cases k1;obtain⟨cap,n⟩:=cn;obtain⟨q1,q2,q3,q4,q5,cur,e0,q6,q7,q8⟩:=k2;have hlt:i<l.length:=(I0.1 hx).1
  obtain⟨v,hrun,hrep⟩:=cE (P:=P) (g:=g) (w:=w) hT hti hd (b:=b) (q:=i*Jm F t) (by
   intro k c hk;obtain⟨d',hd',rfl⟩:=fD hk;have hc:=aS hx hd'
   have hks:k<Jm F t:=by rw[← aT F t x];exact(I0.1 hd').1
   have h1:i*Jm F t+k<(cells F t l).length:=(I0.1 hc).1
   have h2:(cells F t l).length≤cur.length:=by rw[q7,dL];exact M5 _ q2
   have hC:=q8 _ _ _ _ hc (IZ (by omega:i*Jm F t+k<cur.length)) (IZ (by omega:i*Jm F t+k<n.2.length))
   refine⟨cur[i*Jm F t+k],?_,.im (hC.2 ?_).2⟩
   ·simp[World.cell?,q6]
   ·have:j*Jm F t≤i*Jm F t:=M5 _ hji;omega)
  exact⟨v,key e hrun,hrep⟩
theorem w_(hT:J5 P T)(hΓ : Kz P Γ):Rule P o vals mm c K (Xc T Γ vals mm c K o.op):=by
 unfold Xc;split
 ·exact BC hT hΓ rfl
 ·rename_i ho;split
  ·rename_i hrow;exact Pv hT ho rfl (.inl ⟨hrow,rfl⟩)
  ·rename_i hrow;exact Pv hT ho rfl (.inr hrow)
  ·rename_i hrow;exact Tz hT ho rfl hrow
  ·exact lH hT hΓ
 ·rename_i ho;split
  ·rename_i hrow;split
   ·rename_i ti hti;exact au (λ_=>z8 hT ho rfl hrow) (λ_=>lH hT hΓ)
   ·exact ah
  ·rename_i hrow;exact SH hT ho rfl hrow
  ·exact lH hT hΓ
 ·rename_i id kk n ho;split
  ·rename_i aas;split
   ·rename_i e _ _ _ _ _ ht;split
    ·rename_i te hte;refine aC λi hi=>ao ?_;intro own g w a m hle hm hr;rw[ho]at hr;simp only[Op.operands,K7,LG]at hr;obtain⟨h1,h2⟩:=KM hr;obtain⟨h3,h4,rfl⟩:=kn hi;have hS:=hm.ok _ _ (hle _ _ aas);rcases a_ (aV h1)with⟨hid,p,ev⟩ | ⟨b,c',len,hid,h5,h6,ev⟩
     ·rcases hS with⟨_,_,_,_,k1,_⟩ | ⟨_,_,k3⟩
      ·rw[hid]at k1;cases k1
      ·omega
     ·rcases hS with⟨_,_,_,_,k1,_,_,k4⟩ | ⟨k1,_⟩
      ·rw[hid]at k1;cases k1
       refine⟨.pointer (some ⟨b,0+n.toNat*te.size,none⟩),?_,by rw[L_];exact .c (.Mg (off:=0) hid)⟩
       have hu:=run_underlying (hT.und _ _ ht) w;have hs:=bA hT hte w;have e2:=bG h2
       have h7:0≤n∧n<len.1:=⟨h3,by omega⟩
       simp only[execOp,ho,ev,e2,LM,Instr.indexAt,asIntOf,hu,L8,MO,h7,and_self,if_true,hs,Addr.add_lit]
      ·rw[hid]at k1;cases k1
    ·exact ah
   ·exact ah
  ·exact lH hT hΓ
 ·exact lH hT hΓ
theorem DD(hT:J5 P T)(hΓ : Kz P Γ):Rule P o vals mm c K (ZK T Γ vals mm c K o.op):=by
 unfold ZK;split
 ·exact w_ hT hΓ
 ·exact Ev (w_ hT hΓ)
end
set_option linter.unusedVariables false
set_option linter.unusedSimpArgs false
section
variable{F:Fam}
def TS.st(s:TS F):St F:=⟨look s.E,look s.M,λid=>Nat.blt id s.c⟩
structure TR(F:Fam) where
 o:Oper
 s:St F
 c:Nat
 val:Dat F
 mw:List (Nat×Option (J8 F))
 nu:Nat
 run:Bool
 Ur:Nat
def St.upd(s:St F)(t:TR F):St F:=⟨λx=>if t.o.dst=some x then some t.val else s.e x,Ki s.m t.mw,λid=>(decide (t.c≤id)&&decide (id<t.c+t.nu))||s.u id⟩
def TR.next(t:TR F):St F:=t.s.upd t
section
variable(P:Program)(n:Nat)(ops:List Oper)
def Grd(o:Oper)(s:St F):Prop:=
 ∃j want d,o.guard=some (j,want)∧NH ops j=some d∧s.e d=some (.c (.im (.b want)))
def Skp(o:Oper)(s:St F):Prop:=
 ∃j want d,o.guard=some (j,want)∧NH ops j=some d∧(s.e d=some (.c (.im (.b (!want))))∨s.e d=some (.MI []))
def TR.gs(t:TR F):List Nat:=match t.o.guard with | some (j,_)=>(NH ops j).toList | none=>[]
def TR.vals(t:TR F):List (Dat F):=t.o.op.operands.toList.map (Zq t.s.e)
def TR.rs(t:TR F):List Nat:=if t.run then t.gs ops++oJ t.o.op.operands.toList else t.gs ops
def TR.tm(t:TR F):List Nat:=if t.run then Ao t.s.m t.o.op t.vals else[]
def TR.rc(t:TR F):Rec:=⟨t.rs ops,t.o.dst,t.tm,t.mw.map (·.1),t.Ur⟩
structure TR.ok(t:TR F):Prop where
 dst:∀d,t.o.dst=some d→d<n
 fresh:∀k,k<t.nu→t.s.u (t.c+k)=false
 ran:t.run=true→Does P t.o t.vals (TT t.s.m t.tm) t.c { val:=t.val,mw:=t.mw,nu:=t.nu }∧(t.o.guard=none∨Grd ops t.o t.s)
 skipped:t.run=false→t.val = .MI []∧t.mw = []∧t.nu=0∧Skp ops t.o t.s
def Chain:St F→List (TR F)→St F→Prop
 | s,[],s'=>s'=s
 | s,t::l,s'=>t.s=s∧Chain t.next l s'
def vp:List Rec→List (TR F)→Prop
 | _,[]=>True
 | rs,t::l=>t.Ur=Nf rs (KH t.o.after.toList)∧vp (rs++[t.rc ops]) l
end
theorem ar{α : Type}(x y:Nat)(a:α)(l:List (Nat×α)):look ((y,a)::l) x=if Nat.beq y x then some a else look l x:=rfl
theorem pC(E:List (Nat×Dat F))(dst:Option Nat)(d:Dat F)(x:Nat):look (Ru E dst d) x=if dst=some x then some d else look E x:=by
 cases dst with
 | none=>simp[Ru]
 | some y=>
  simp only[Ru,ar];by_cases h:y=x
  ·subst h;simp
  ·rw[aj h];simp[h]
theorem aI{α : Type}(q:Nat→Bool)(x:Nat):∀(l:List (Nat×α)),look (l.filter λp=>q p.1) x=if q x then look l x else none
 | []=>by simp[look]
 | (y,a)::l=>by
  by_cases hq:q y=true
  ·rw[List.filter_cons_of_pos (by simpa using hq),ar,ar,aI q x l]
   by_cases h:y=x
   ·subst h;simp[hq]
   ·rw[aj h];simp
  ·rw[List.filter_cons_of_neg (by simpa using hq),aI q x l,ar]
   by_cases h:y=x
   ·subst h;simp[hq]
   ·rw[aj h];simp
theorem aZ{α : Type}(x:Nat):∀(l r:List (Nat×α)),look (l++r) x=(look l x).or (look r x)
 | [],r=>by simp[look]
 | (y,a)::l,r=>by
  simp only[SS,ar,aZ x l r]
  split<;>simp
theorem qL:∀(mw:List (Nat×Option (J8 F))) {m m':Nat→Option (J8 F)},(∀x,m x=m' x)→∀x,Ki m mw x=Ki m' mw x
 | [],_,_,h,x=>h x
 | (id,B)::r,m,m',h,x=>by
  simp only[Ki]
  exact qL r (λy=>by rw[h y]) x
theorem en:∀(mw:List (Nat×Option (J8 F))) (M:List (Nat×J8 F)) (x:Nat),look (NQ M mw) x=Ki (look M) mw x
 | [],M,x=>rfl
 | (id,none)::r,M,x=>by
  simp only[NQ,Ki];rw[en r];refine qL r (λy=>?_) x;rw[aI (λp=>!(Nat.beq id p))]
  cases Nat.beq id y<;>simp
 | (id,some B)::r,M,x=>by
  simp only[NQ,Ki];rw[en r];refine qL r (λy=>?_) x;rw[ar,aI (λp=>!(Nat.beq id p))]
  cases Nat.beq id y<;>simp
structure Fr(nv:Nat)(s s':TS F):Prop where
 e:∀x,x<nv→x∉s'.dE→look s'.E x=look s.E x
 m:∀id,id<s.c→id∉s'.dM→look s'.M id=look s.M id
 c:s.c≤s'.c
 dE:∀x∈s.dE,x∈s'.dE
 dM:∀x∈s.dM,x∈s'.dM
theorem Fr.refl(nv:Nat)(s:TS F):Fr nv s s:=⟨λ_ _ _=>rfl,λ_ _ _=>rfl,KC _,λ_ h=>h,λ_ h=>h⟩
theorem Fr.trans{nv:Nat}{s s' s'':TS F}(h:Fr nv s s')(k:Fr nv s' s''):Fr nv s s'':=
 ⟨λx hx hn=>(k.e x hx hn).trans (h.e x hx (λhd=>hn (k.dE x hd))),λid hi hn=>(k.m id (O8 hi h.c) hn).trans (h.m id hi (λhd=>hn (k.dM id hd))),
  MP h.c k.c,λx hx=>k.dE x (h.dE x hx),λx hx=>k.dM x (h.dM x hx)⟩
section
variable{P:Program}{T:TypeId→Option (TI F)}{Γ : Ctx F}{nv n:Nat}{ops:List Oper}{R:Type}
def ro(P:Program)(nv n:Nat)(ops:List Oper)(o:Oper)(s:TS F)(recs:List Rec)(K:TS F→List Rec→Option R)(r:R):Prop:=
 ∃s' t,K s' (recs++[t.rc ops])=some r∧t.o=o∧t.s=s.st∧t.next=s'.st∧TR.ok P n ops t∧t.Ur=Nf recs (KH o.after.toList)∧Fr nv s s'
theorem AX{o:Oper}(h:(match o.dst with | some d=>Nat.blt d n | none=>true)=true):∀d,o.dst=some d→d<n:=by intro d hd;rw[hd]at h;exact M4.mp h
theorem xm{dE:List Nat}{dst:Option Nat}{x:Nat}(hx:x<nv)(h:x∉dirty nv dE dst):dst≠some x∧x∉dE:=by
 cases dst with
 | none=>exact⟨by simp,h⟩
 | some y=>
  simp only[dirty]at h;split at h
  ·simp only[Lr,not_or]at h
   exact⟨λe=>by cases e;exact h.1 rfl,h.2⟩
  ·rename_i hb;refine⟨λe=>?_,h⟩;cases e;exact hb (M4.mpr hx)
theorem xi{dE:List Nat}{dst:Option Nat}{x:Nat}(h:x∈dE):x∈dirty nv dE dst:=by
 cases dst with
 | none=>exact h
 | some y=>
  simp only[dirty];split
  ·simp[h]
  ·exact h
theorem Bo{s s':St F}(h1:∀x,s.e x=s'.e x)(h2:∀x,s.m x=s'.m x)(h3:∀x,s.u x=s'.u x):s=s':=by
 cases s;cases s'
 simp only[St.mk.injEq];exact⟨funext h1,funext h2,funext h3⟩
theorem br(a b:Nat):Nat.blt a b=decide (a<b):=by rw[Bool.eq_iff_iff];simp[M4]
theorem aL{p:Prop}[Decidable p]{x:Option R}{r:R}(h:(if p then x else none)=some r):p∧x=some r:=by
 split at h
 ·exact⟨by assumption,h⟩
 ·cases h
theorem uJ{o:Oper}{gs:List Nat}{s:TS F}{recs:List Rec}{K:TS F→List Rec→Option R}{r:R}(h:Sd nv n o gs s recs K=some r)
  (hgs:gs=(match o.guard with | some (j,_)=>(NH ops j).toList | none=>[])) (hsk:Skp ops o s.st):ro P nv n ops o s recs K r:=by
 unfold Sd at h;obtain⟨hd,h⟩:=aL h
 ·refine⟨⟨Ru s.E o.dst (.MI []),s.M,s.c,dirty nv s.dE o.dst,s.dM⟩,⟨o,s.st,s.c,.MI [],[],0,false,Nf recs (KH o.after.toList)⟩,?_,rfl,rfl,?_,⟨AX (n:=n) (o:=o) hd,λk hk=>absurd hk (Nat.not_lt_zero k),λhr=>(by cases hr),λ_=>⟨rfl,rfl,rfl,hsk⟩⟩,rfl,?_⟩
  ·rw[hgs]at h;exact h
  ·refine Bo (λx=>?_) (λx=>rfl) (λx=>?_)
   ·simp only[TR.next,St.upd,TS.st];rw[pC]
   ·simp only[TR.next,St.upd,TS.st,R4];by_cases hx:s.c≤x
    ·have:¬ x<s.c:=by omega
     simp[this,br]
    ·simp[hx]
  ·refine⟨λx hx hn=>?_,λ_ _ _=>rfl,KC _,λx hx=>xi hx,λ_ hx=>hx⟩;show look (Ru s.E o.dst (.MI [])) x=_;rw[pC,if_neg (xm hx hn).1]
theorem zh(hT:J5 P T)(hΓ : Kz P Γ){o:Oper}{gs:List Nat}{s:TS F}{recs:List Rec}{K:TS F→List Rec→Option R}{r:R}(h:tGo T Γ nv n o gs s recs K=some r)
  (hgs:gs=(match o.guard with | some (j,_)=>(NH ops j).toList | none=>[])) (hgr:o.guard=none∨Grd ops o s.st):ro P nv n ops o s recs K r:=by
 unfold tGo at h;obtain⟨res,h1,h2⟩:=DD hT hΓ r h;obtain⟨hd,h1⟩:=aL h1
 ·refine⟨⟨Ru s.E o.dst res.val,NQ s.M res.mw,s.c+res.nu,dirty nv s.dE o.dst,res.mw.map (·.1)++s.dM⟩,⟨o,s.st,s.c,res.val,res.mw,res.nu,true,Nf recs (KH o.after.toList)⟩,?_,rfl,rfl,?_,⟨AX (n:=n) (o:=o) hd,λk hk=>?_,λ_=>⟨h2,hgr⟩,λhr=>(by cases hr)⟩,rfl,?_⟩
  ·rw[hgs]at h1;exact h1
  ·refine Bo (λx=>?_) (λx=>?_) (λx=>?_)
   ·simp only[TR.next,St.upd,TS.st];rw[pC]
   ·simp only[TR.next,St.upd,TS.st];rw[en]
   ·simp only[TR.next,St.upd,TS.st,br];rw[Bool.eq_iff_iff];simp only[PE,KV,decide_eq_true_eq];omega
  ·simp only[TS.st,br];simp
  ·refine⟨λx hx hn=>?_,λid hi hn=>?_,Nat.le_add_right _ _,λx hx=>xi hx,λ_ hx=>WK _ hx⟩
   ·show look (Ru s.E o.dst res.val) x=_;rw[pC,if_neg (xm hx hn).1]
   ·show look (NQ s.M res.mw) id=_;rw[en,cu];intro hm;exact hn (WJ _ hm)
theorem Iw{s:TS F}{d:Nat}{v:Dat F}(h:look s.E d=some v):(⟨(d,v)::s.E,s.M,s.c,s.dE,s.dM⟩:TS F).st=s.st:=by
 refine Bo (λx=>?_) (λx=>rfl) (λx=>rfl);simp only[TS.st,ar];by_cases hx:d=x
 ·subst hx;simp[h]
 ·rw[aj hx];simp
theorem C0{s:TS F}{d:Nat}{v:Dat F}(hv:look s.E d=some v){o:Oper}{recs:List Rec}{K:TS F→List Rec→Option R}{r:R}(h:ro P nv n ops o ⟨(d,v)::s.E,s.M,s.c,s.dE,s.dM⟩ recs K r):ro P nv n ops o s recs K r:=by
 obtain⟨s',t,h1,h2,h3,h4,h5,h6,h7⟩:=h;rw[Iw hv]at h3;refine⟨s',t,h1,h2,h3,h4,h5,h6,⟨λx hx hn=>?_,h7.m,h7.c,h7.dE,h7.dM⟩⟩;rw[h7.e x hx hn,ar];by_cases hdx:d=x
 ·subst hdx;simp[hv]
 ·rw[aj hdx];simp
theorem Ey(hT:J5 P T)(hΓ : Kz P Γ){o:Oper}{s:TS F}{recs:List Rec}{K:TS F→List Rec→Option R}{r:R}(h:Vv T Γ nv n ops o s recs K=some r):ro P nv n ops o s recs K r:=by
 unfold Vv at h;split at h
 ·rename_i hg
  exact zh hT hΓ h (by rw[hg]) (.inl hg)
 ·rename_i j want hg;split at h
  ·cases h
  ·rename_i d hd
   have hgs:[d]=(match o.guard with | some (j,_)=>(NH ops j).toList | none=>[]):=by rw[hg];simp[hd]
   split at h
   ·rename_i x hx
    have hx':∀b,x=b→look s.E d=some (.c (.im (.b b))):=λb e=>by rw[hx,e]
    have self:∀b,(⟨(d,.c (.im (.b b)))::s.E,s.M,s.c,s.dE,s.dM⟩:TS F).st.e d=some (.c (.im (.b b))):=λb=>by simp[TS.st,ar]
    cases x with
    | true=>
     refine C0 (hx' true rfl) ?_;simp only[cond_true]at h;split at h
     ·rename_i hw
      exact zh hT hΓ h hgs (.inr ⟨j,want,d,hg,hd,by rw[hw];exact self true⟩)
     ·rename_i hw
      exact uJ h hgs ⟨j,want,d,hg,hd,.inl (by rw[Bool.not_eq_true]at hw;rw[hw];exact self true)⟩
    | false=>
     refine C0 (hx' false rfl) ?_;simp only[cond_false]at h;split at h
     ·rename_i hw
      exact uJ h hgs ⟨j,want,d,hg,hd,.inl (by rw[hw];exact self false)⟩
     ·rename_i hw
      exact zh hT hΓ h hgs (.inr ⟨j,want,d,hg,hd,by rw[Bool.not_eq_true]at hw;rw[hw];exact self false⟩)
   ·rename_i hx;exact uJ h hgs ⟨j,want,d,hg,hd,.inr hx⟩
   ·cases h
theorem nE(hT:J5 P T)(hΓ : Kz P Γ):∀{l:List Oper}{s:TS F}{recs:List Rec}{K:TS F→List Rec→Option R} {r:R},Td T Γ nv n ops l s recs K=some r→
  ∃s' tr,K s' (recs++tr.map (·.rc ops))=some r∧tr.map (·.o)=l∧Chain s.st tr s'.st∧(∀t∈tr,TR.ok P n ops t)∧vp ops recs tr∧Fr nv s s'
 | [],s,recs,K,r,h=>⟨s,[],by simpa[Td]using h,rfl,rfl,by simp,trivial,.refl _ _⟩
 | o::l,s,recs,K,r,h=>by
  simp only[Td]at h;obtain⟨s1,t,h1,h2,h3,h4,h5,h6,h7⟩:=Ey hT hΓ h;obtain⟨s',tr,k1,k2,k3,k4,k5,k6⟩:=nE hT hΓ h1
  refine⟨s',t::tr,by simpa using k1,by simp[h2,k2],⟨h3,by rw[h4];exact k3⟩,?_,⟨by rw[h2];exact h6,k5⟩,h7.trans k6⟩
  intro x hx;rcases Lr.1 hx with rfl | hx
  ·exact h5
  ·exact k4 x hx
end
section
variable{P:Program}{n:Nat}{ops:List Oper}{own:Ow}{W0:World}
theorem uZ{x:Nat}:∀{l:List Operand},Operand.tmp x∈l→x∈oJ l
 | [],h=>by simp at h
 | y::l,h=>by
  rcases Lr.1 h with rfl | h
  ·simp[oJ]
  ·have:=uZ h
   cases y<;>simp[oJ,this]
theorem zL{s:St F}{g g':G}{a:Act}{w w':World}{t:TR F}{v:Value}(h:Good P own W0 n s g a w)(hd:∀d,t.o.dst=some d→d<n)(hv:J4 P g' w' t.val v)
  (hm:Jl own g' w' (Ki s.m t.mw)) (hst:Stp s.m g w g' w') (hu:∀id,s.u id=false→(id<t.c∨t.c+t.nu≤id)→g'.ids id=none):Good P own W0 n (s.upd t) g' (a.put t.o.dst v) w':=by
 have htm:(a.put t.o.dst v).tmps.size=n:=by
  rw[← h.OP]
  cases t.o.dst<;>simp[Act.put]
 have hdf:(a.put t.o.dst v).defers = []:=by
  rw[← h.Py]
  cases t.o.dst<;>rfl
 refine⟨hdf,htm,?_,hm,?_,λb hb=>hst.le.I7 b (h.O5 b hb),h.Lc.stp h.mem hst,λid p hp=>hst.le.ids id p (h.N8 id p hp)⟩
 ·intro x d hx;simp only[St.upd]at hx;split at hx
  ·rename_i hdst;cases hx;have hlt:=hd x hdst;rw[hdst];simp only[Act.put];rw[Q_,XL]
   rw[if_pos rfl,if_pos (by rw[h.OP];exact hlt)]
   exact hv
  ·rename_i hdst;have:=(h.env x d hx).le hst.le
   cases hdd:t.o.dst with
   | none=>exact this
   | some y=>
    have hne:y≠x:=λe=>hdst (by rw[hdd,e])
    simp only[Act.put];rw[Q_,XL,if_neg hne,← Q_];exact this
 ·intro id hid;simp only[St.upd,UU,QeO,decide_eq_false_iff_not]at hid
  exact hu id hid.2 (by omega)
theorem CT{Kw:Array Oper}(hops:Kw.toList=ops){s:St F}{g:G}{a:Act}{w:World}(h:Good P own W0 n s g a w){j d:Nat}{b:Bool}(hd:NH ops j=some d)(he:s.e d=some (.c (.im (.b b)))) :
  yielded Kw a.tmps j=some b:=by
 have hv:=nc (h.env d _ he)
 have hj:(Kw[j]?).bind (·.dst)=some d:=by rw[← hd];simp only[NH,← hops];simp
 have ht:a.tmps[d]? = some (.bool b):=by
  rw[Q_]at hv
  cases hx:a.tmps[d]? with
  | none=>rw[hx]at hv;simp[undef]at hv
  | some x=>rw[hx]at hv;simp only[Ta]at hv;rw[hv]
 simp only[yielded,hj,IY,ht]
theorem GG{Kw:Array Oper}(hops:Kw.toList=ops){s:St F}{g:G}{a:Act}{w:World}(h:Good P own W0 n s g a w){j d:Nat}(hd:NH ops j=some d)(he:s.e d=some (.MI [])) :
  yielded Kw a.tmps j=none:=by
 obtain⟨vs,hv,hl,_⟩:=AS (h.env d _ he)
 have hj:(Kw[j]?).bind (·.dst)=some d:=by rw[← hd];simp only[NH,← hops];simp
 simp only[yielded,hj,IY];rw[Q_]at hv
 cases hx:a.tmps[d]? with
 | none=>rfl
 | some x=>rw[hx]at hv;simp only[Ta]at hv;rw[hv]
theorem wt{t:TR F}(ok:TR.ok P n ops t){s:St F}(hge:∀x∈t.rs ops,s.e x=t.s.e x)(hgm:∀id,id∈t.tm→s.m id=t.s.m id)
  (hfr:∀k,k<t.nu→s.u (t.c+k)=false) {g:G} {a:Act} {w:World} (hgood:Good P own W0 n s g a w) {Kw:Array Oper} (hops:Kw.toList=ops) {i:Nat} (hi:Kw[i]? = some t.o)
  {K:Act→World→Prop} {Q:Exit→Act→World→Prop} (hK:∀g' a' w',Good P own W0 n (s.upd t) g' a' w'→K a' w'):wpOp P Kw Q i K a w:=by
 unfold wpOp;rw[hi];dsimp only
 cases hrun:t.run with
 | false=>
  obtain⟨h1,h2,h3,j,want,d,hgd,hdd,hlk⟩:=ok.skipped hrun
  have hmem:d∈t.rs ops:=by simp[TR.rs,hrun,TR.gs,hgd,hdd]
  have hw:Region.wanted t.o (yielded Kw a.tmps)=false:=by
   rcases hlk with hlk | hlk
   ·have he:s.e d=some (.c (.im (.b (!want)))):=by rw[hge d hmem,hlk]
    have hy:=CT hops hgood hdd he;simp only[Region.wanted,hgd,hy]
    cases want<;>rfl
   ·have he:s.e d=some (.MI []):=by rw[hge d hmem,hlk]
    have hy:=GG hops hgood hdd he;simp only[Region.wanted,hgd,hy];rfl
  rw[hw];simp only[Ni,if_false]
  refine hK g _ w (zL hgood ok.dst (by rw[h1];exact .MI rfl (by simp)) (by rw[h2];exact hgood.mem) (.refl _ _ _) ?_)
  intro id hu _;exact hgood.dom id hu
 | true=>
  obtain⟨h1,h6⟩:=ok.ran hrun
  have hw:Region.wanted t.o (yielded Kw a.tmps)=true:=by
   rcases h6 with h6 | ⟨j,want,d,hgd,hdd,hlk⟩
   ·simp[Region.wanted,h6]
   ·have hmem:d∈t.rs ops:=by simp[TR.rs,hrun,TR.gs,hgd,hdd]
    have he:s.e d=some (.c (.im (.b want))):=by rw[hge d hmem,hlk]
    have hy:=CT hops hgood hdd he;simp[Region.wanted,hgd,hy]
  rw[hw,if_pos rfl];left
  have hv:t.vals=t.o.op.operands.toList.map (Zq s.e):=by
   unfold TR.vals;apply QdP;intro x hx
   cases x with
   | tmp y=>simp only[Zq];rw[hge y (by simp[TR.rs,hrun,uZ hx])]
   | _=>rfl
  have hle:Na (TT t.s.m t.tm) s.m:=by
   intro id B hB;unfold TT at hB;split at hB
   ·rename_i hm;rw[hgm id (aK.1 hm)];exact hB
   ·cases hB
  refine h1 own g w a s.m s.u hle hgood.mem hgood.dom (λb hb=>hgood.Lc.fresh b (MP hgood.Lc.size hb)) hfr (by rw[hv];exact D9 hgood.env _) K Q ?_
  intro v w' g' k1 k2 k3 k4;exact hK g' _ w' (zL hgood ok.dst k1 k2 k3 k4)
theorem mD{Kw:Array Oper}(hops:Kw.toList=ops){Q:Exit→Act→World→Prop}:∀(tr:List (TR F)) (k:Nat) (s s':St F),(∀j,tr[j]?.map (·.o)=Kw[k+j]?)→Chain s tr s'→(∀t∈tr,TR.ok P n ops t)→
  ∀{g:G}{a:Act}{w:World},Good P own W0 n s g a w→(∀g' a' w',Good P own W0 n s' g' a' w'→Q .normal a' w')→wpOps P Kw Q (List.range' k tr.length) a w
 | [],k,s,s',_,hc,_,g,a,w,hgood,hQ=>by have hc':s'=s:=hc;subst hc';exact hQ g a w hgood
 | t::tr,k,s,s',ho,hc,hok,g,a,w,hgood,hQ=>by
  obtain⟨hts,hc⟩:=hc;simp only[P8,List.range'_succ];rw[wpOps_cons]
  have hi:Kw[k]? = some t.o:=by have:=ho 0;simpa using this.symm
  refine wt (hok t (by simp)) (s:=s) ?_ ?_ ?_ hgood hops hi ?_
  ·intro x _;rw[hts]
  ·intro id _;rw[hts]
  ·intro j hj
   have:=(hok t (by simp)).fresh j hj
   rw[hts]at this;exact this
  ·intro g' a' w' hg'
   refine mD hops tr (k+1) t.next s' ?_ hc (λx hx=>hok x (by simp[hx])) (by unfold TR.next;rw[hts];exact hg') hQ
   intro j;have:=ho (j+1);simpa[PD,XG 1 j]using this
end
end
set_option linter.unusedVariables false
set_option linter.unusedSimpArgs false
section
variable{F:Fam}
def TR.nm(t:TR F)(x:Nat):Bool:=decide (t.c≤x)&&decide (x<t.c+t.nu)
theorem zD{t:TR F}(h:∀k,k<t.nu→t.s.u (t.c+k)=false){x:Nat}(hx:t.nm x=true):t.s.u x=false:=by
 simp only[TR.nm,KV,decide_eq_true_eq]at hx
 have:=h (x - t.c) (by omega)
 rwa [QdO hx.1]at this
def KF(on:Nat→Bool):Nat→List (TR F)→(St F)→(St F)
 | _,[],s=>s
 | k,t::l,s=>KF on (k+1) l (if on k then s.upd t else s)
theorem sQ:∀(mw:List (Nat×Option (J8 F))) (m m':Nat→Option (J8 F)) (x:Nat),x∈mw.map (·.1)→Ki m mw x=Ki m' mw x
 | [],m,m',x,h=>by simp at h
 | (id,B)::r,m,m',x,h=>by
  simp only[Ki];by_cases hr:x∈r.map (·.1)
  ·exact sQ r _ _ x hr
  ·rw[cu r _ x hr,cu r _ x hr];simp only[K7,Lr]at h;rcases h with rfl | h
   ·simp
   ·exact absurd h hr
theorem tc(on on':Nat→Bool)(x:Nat):∀(l:List (TR F)) (k:Nat) (s s':(St F)),s.e x=s'.e x→(∀j t,l[j]? = some t→t.o.dst=some x→on (k+j)=on' (k+j))→(KF on k l s).e x=(KF on' k l s').e x
 | [],k,s,s',h,_=>h
 | t::l,k,s,s',h,hw=>by
  simp only[KF]
  refine tc on on' x l (k+1) _ _ ?_ (λj t' hj hd=>by have:=hw (j+1) t' (by simpa using hj) hd;simpa[PD,XG 1 j]using this)
  by_cases hd:t.o.dst=some x
  ·have:=hw 0 t rfl hd;simp only[R4]at this;rw[this];split
   ·simp[St.upd,hd]
   ·exact h
  ·have e1:∀s:(St F),(s.upd t).e x=s.e x:=λs=>by simp[St.upd,hd]
   split<;>split<;>simp only[e1,h]
theorem sO(on on':Nat→Bool)(x:Nat):∀(l:List (TR F)) (k:Nat) (s s':(St F)),s.m x=s'.m x→(∀j t,l[j]? = some t→x∈t.mw.map (·.1)→on (k+j)=on' (k+j))→(KF on k l s).m x=(KF on' k l s').m x
 | [],k,s,s',h,_=>h
 | t::l,k,s,s',h,hw=>by
  simp only[KF]
  refine sO on on' x l (k+1) _ _ ?_ (λj t' hj hd=>by have:=hw (j+1) t' (by simpa using hj) hd;simpa[PD,XG 1 j]using this)
  by_cases hd:x∈t.mw.map (·.1)
  ·have:=hw 0 t rfl hd;simp only[R4]at this;rw[this];split
   ·exact sQ _ _ _ x hd
   ·exact h
  ·have e1:∀s:(St F),(s.upd t).m x=s.m x:=λs=>cu _ _ x hd
   split<;>split<;>simp only[e1,h]
theorem yi(on:Nat→Bool)(x:Nat)(l:List (TR F))(k:Nat)(s:(St F))(h:∀j t,l[j]? = some t→t.o.dst=some x→on (k+j)=false):(KF on k l s).e x=s.e x:=by
 have:∀(l:List (TR F)) (k:Nat) (s:(St F)),(KF (λ_=>false) k l s)=s:=by
  intro l
  induction l with
  | nil=>intro k s;rfl
  | cons t l ih=>intro k s;simp only[KF];exact ih (k+1) s
 rw[tc on (λ_=>false) x l k s s rfl h,this]
theorem y7(on:Nat→Bool)(x:Nat)(l:List (TR F))(k:Nat)(s:(St F))(h:∀j t,l[j]? = some t→x∈t.mw.map (·.1)→on (k+j)=false):(KF on k l s).m x=s.m x:=by
 have:∀(l:List (TR F)) (k:Nat) (s:(St F)),(KF (λ_=>false) k l s)=s:=by
  intro l
  induction l with
  | nil=>intro k s;rfl
  | cons t l ih=>intro k s;simp only[KF];exact ih (k+1) s
 rw[sO on (λ_=>false) x l k s s rfl h,this]
theorem li(on:Nat→Bool)(x:Nat):∀(l:List (TR F)) (k:Nat) (s:(St F)),(KF on k l s).u x=true↔s.u x=true∨∃j t,l[j]? = some t∧on (k+j)=true∧t.nm x=true
 | [],k,s=>by simp[KF]
 | t::l,k,s=>by
  simp only[KF];rw[li on x l (k+1)];constructor
  ·rintro(h | ⟨j,t',h1,h2,h3⟩)
   ·split at h
    ·rename_i hk;simp only[St.upd,PE]at h;rcases h with h | h
     ·exact .inr ⟨0,t,rfl,by simpa using hk,h⟩
     ·exact .inl h
    ·exact .inl h
   ·exact .inr ⟨j+1,t',by simpa using h1,by rw[← h2];congr 1;omega,h3⟩
  ·rintro(h | ⟨j,t',h1,h2,h3⟩)
   ·left;split
    ·simp[St.upd,h]
    ·exact h
   ·cases j with
    | zero=>
     left;simp only[M9,K3]at h1;subst h1
     rw[if_pos (by simpa using h2)]
     simp[St.upd,TR.nm]at h3 ⊢;simp[h3]
    | succ j=>exact .inr ⟨j,t',by simpa using h1,by rw[← h2];congr 1;omega,h3⟩
theorem Bu(on:Nat→Bool)(i:Nat):∀(l:List (TR F)) (k:Nat) (s:(St F)) (t:TR F),l[i]? = some t→on (k+i)=false→
  (∀j t',l[j]? = some t'→i<j→on (k+j)=true→(∀x,t.o.dst=some x→t'.o.dst≠some x)∧(∀x,x∈t.mw.map (·.1)→x∉t'.mw.map (·.1)))→
  KF (λj=>on j||j == k+i) k l s=(KF on k l s).upd t:=by
 intro l k s t hi hoff Y8
 have hon:∀j,j≠i→(λj=>on j||j == k+i) (k+j)=on (k+j):=by
  intro j hj
  have:(k+j == k+i)=false:=by simp;exact hj
  simp[this]
 have e1:∀x,(KF (λj=>on j||j == k+i) k l s).e x=((KF on k l s).upd t).e x:=by
  intro x;by_cases hd:t.o.dst=some x
  ·
   have key:∀(l:List (TR F)) (k i:Nat) (s:(St F)) (on:Nat→Bool),l[i]? = some t→on (k+i)=true→(∀j t',l[j]? = some t'→i<j→on (k+j)=true→t'.o.dst≠some x)→(KF on k l s).e x=some t.val:=by
    intro l
    induction l with
    | nil=>intro k i s on h;simp at h
    | cons t0 l ih=>
     intro k i s on h1 h2 h3
     cases i with
     | zero=>
      simp only[M9,K3]at h1;subst h1;simp only[KF]
      rw[if_pos (by simpa using h2),yi]
      ·simp[St.upd,hd]
      ·intro j t' hj hdd
       cases hon:on (k+1+j)with
       | false=>rfl
       | true=>exact absurd hdd (h3 (j+1) t' (by simpa using hj) (by omega) (by rw[← hon];congr 1;omega))
     | succ i=>
      simp only[KF]
      exact ih (k+1) i _ on (by simpa using h1) (by rw[← h2];congr 1;omega) (λj t' hj hij ho=>h3 (j+1) t' (by simpa using hj) (by omega) (by rw[← ho];congr 1;omega))
   rw[key l k i s _ hi (by simp) (λj t' hj hij ho=>(Y8 j t' hj hij (by rw[← hon j (by omega)];exact ho)).1 x hd)]
   simp[St.upd,hd]
  ·rw[tc _ on x l k s s rfl]
   ·simp[St.upd,hd]
   ·intro j t' hj hdd;refine hon j (λe=>hd ?_);subst e;rw[hi]at hj;cases hj;exact hdd
 have e2:∀x,(KF (λj=>on j||j == k+i) k l s).m x=((KF on k l s).upd t).m x:=by
  intro x;by_cases hd:x∈t.mw.map (·.1)
  ·have key:∀(l:List (TR F)) (k i:Nat) (s:(St F)) (on:Nat→Bool),l[i]? = some t→on (k+i)=true→(∀j t',l[j]? = some t'→i<j→on (k+j)=true→x∉t'.mw.map (·.1))→(KF on k l s).m x=Ki (λ_=>none) t.mw x:=by
    intro l
    induction l with
    | nil=>intro k i s on h;simp at h
    | cons t0 l ih=>
     intro k i s on h1 h2 h3
     cases i with
     | zero=>
      simp only[M9,K3]at h1;subst h1;simp only[KF]
      rw[if_pos (by simpa using h2),y7]
      ·exact sQ _ _ _ x hd
      ·intro j t' hj hdd
       cases hon:on (k+1+j)with
       | false=>rfl
       | true=>exact absurd hdd (h3 (j+1) t' (by simpa using hj) (by omega) (by rw[← hon];congr 1;omega))
     | succ i=>
      simp only[KF]
      exact ih (k+1) i _ on (by simpa using h1) (by rw[← h2];congr 1;omega) (λj t' hj hij ho=>h3 (j+1) t' (by simpa using hj) (by omega) (by rw[← ho];congr 1;omega))
   rw[key l k i s _ hi (by simp) (λj t' hj hij ho=>(Y8 j t' hj hij (by rw[← hon j (by omega)];exact ho)).2 x hd)]
   exact sQ _ _ _ x hd
  ·rw[sO _ on x l k s s rfl]
   ·exact(cu _ _ x hd).symm
   ·intro j t' hj hdd;refine hon j (λe=>hd ?_);subst e;rw[hi]at hj;cases hj;exact hdd
 have e3:∀x,(KF (λj=>on j||j == k+i) k l s).u x=((KF on k l s).upd t).u x:=by
  intro x;rw[Bool.eq_iff_iff,li];simp only[St.upd,PE];rw[li];constructor
  ·rintro(h | ⟨j,t',h1,h2,h3⟩)
   ·exact .inr (.inl h)
   ·by_cases hj:j=i
    ·subst hj;rw[hi]at h1;cases h1;exact .inl h3
    ·have h2':on (k+j)=true:=by
      rw[← hon j hj];simpa using h2
     exact .inr (.inr ⟨j,t',h1,h2',h3⟩)
  ·rintro(h | h | ⟨j,t',h1,h2,h3⟩)
   ·exact .inr ⟨i,t,hi,by simp,h⟩
   ·exact .inl h
   ·exact .inr ⟨j,t',h1,by simp[h2],h3⟩
 cases hA:KF (λj=>on j||j == k+i) k l s
 cases hB:(KF on k l s).upd t
 rw[hA,hB]at e1 e2 e3;simp only[St.mk.injEq];exact⟨funext e1,funext e2,funext e3⟩
theorem pJ:∀(l:List (TR F)) (k:Nat) (s s':St F) (on:Nat→Bool),Chain s l s'→(∀j,j<l.length→on (k+j)=true)→KF on k l s=s'
 | [],k,s,s',on,h,_=>by have h':s'=s:=h;subst h';rfl
 | t::l,k,s,s',on,h,ho=>by
  obtain⟨h1,h2⟩:=h;simp only[KF]
  rw[if_pos (by simpa using ho 0 (by simp)),← h1]
  exact pJ l (k+1) t.next s' on h2 (λj hj=>by have:=ho (j+1) (by simp;omega);rw[← this];congr 1;omega)
theorem uG:∀(l:List (TR F)) (k:Nat) (s s':St F) (i:Nat) (t:TR F),Chain s l s'→l[i]? = some t→t.s=KF (λj=>decide (j<k+i)) k l s
 | [],k,s,s',i,t,_,hi=>by simp at hi
 | t0::l,k,s,s',i,t,h,hi=>by
  obtain⟨h1,h2⟩:=h
  cases i with
  | zero=>
   simp only[M9,K3]at hi;subst hi
   have:∀(l:List (TR F)) (k':Nat) (s:(St F)),k≤k'→(KF (λj=>decide (j<k+0)) k' l s)=s:=by
    intro l
    induction l with
    | nil=>intro k' s _;rfl
    | cons t l ih=>intro k' s hk;simp only[KF];rw[if_neg (by simp;omega)];exact ih (k'+1) s (by omega)
   rw[this _ k _ (KC _),h1]
  | succ i=>
   simp only[KF]
   rw[if_pos (by simp),← h1]
   have:=uG l (k+1) t0.next s' i t h2 (by simpa using hi)
   rw[this]
   congr 1
   funext j
   congr 1
   apply propext
   constructor<;>intro h<;>omega
variable{P:Program}{n:Nat}{ops:List Oper}{own:Ow}{W0:World}
def K8(listed:Array Bool):Nat→Bool:=λk=>listed.getD k false
theorem Ab{l:List Edge}{e:Edge}(h:e∈l)(hb:Region.binds .any e=true):e.on∈KH l:=by
 induction l with
 | nil=>simp at h
 | cons x l ih=>
  simp only[KH];rcases Lr.1 h with rfl | h
  ·rw[if_pos hb];simp
  ·split
   ·exact PG _ (ih h)
   ·exact ih h
theorem zW{l:List Edge}{k:Nat}(h:k∈KH l):∃e∈l,Region.binds .any e=true∧e.on=k:=by
 induction l with
 | nil=>simp[KH]at h
 | cons x l ih=>
  simp only[KH]at h;split at h
  ·rename_i hb;rcases Lr.1 h with rfl | h
   ·exact⟨x,by simp,hb,rfl⟩
   ·obtain⟨e,h1,h2⟩:=ih h
    exact⟨e,by simp[h1],h2⟩
  ·obtain⟨e,h1,h2⟩:=ih h
   exact⟨e,by simp[h1],h2⟩
theorem Dg(on:Nat→Bool)(tr:List (TR F))(hrec:∀i t,tr[i]? = some t→t.Ur=Nf ((tr.map (·.rc ops)).take i) (KH t.o.after.toList))
  (ajn:∀i t,tr[i]? = some t→∀k∈KH t.o.after.toList,k<i) (hclosed:∀i t,tr[i]? = some t→on i=true→∀k∈KH t.o.after.toList,on k=true) :
  ∀(i:Nat)(t:TR F),tr[i]? = some t→(∀k∈KH t.o.after.toList,on k=true)→∀k,Nat.testBit t.Ur k=true→on k=true:=by
 intro i
 induction i using Nat.strongRecOn with
 | _ i ih=>
  intro t hi hon k hk;rw[hrec i t hi]at hk;have aob:=ajn i t hi
  have key:∀(es:List Nat),(∀k∈es,k<i∧on k=true)→∀k,Nat.testBit (Nf ((tr.map (·.rc ops)).take i) es) k=true→on k=true:=by
   intro es
   induction es with
   | nil=>intro _ k hk;simp[Nf]at hk
   | cons d es ihe=>
    intro hes k hk
    rw[Nf,show∀a b:Nat,Nat.lor a b=a ||| b fromλ_ _=>rfl,show∀a b:Nat,Nat.lor a b=a ||| b fromλ_ _=>rfl,Nat.testBit_or,Nat.testBit_or,Nat.testBit_two_pow]at hk
    simp only[PE,decide_eq_true_eq,or_assoc]at hk
    obtain⟨hd1,hd2⟩:=hes d (by simp)
    rcases hk with rfl | hk | hk
    ·exact hd2
    ·rw[MV,if_pos hd1,MU]at hk
     cases ht:tr[d]? with
     | none=>rw[ht]at hk;simp at hk
     | some td=>rw[ht]at hk;simp only[S_,Option.elim_some]at hk;exact ih d hd1 td ht (hclosed d td ht hd2) k hk
    ·exact ihe (λk hk=>hes k (by simp[hk])) k hk
  exact key _ (λk hk=>⟨aob k hk,hon k hk⟩) k hk
theorem rr{b:Rec}:∀{l:List Rec}{i:Nat},qe b i l=true→∀j a,l[j]? = some a→Nat.testBit b.Ur (i+j)=true∨a.conflict b=false
 | [],_,_,j,a,h=>by simp at h
 | x::l,i,ho,j,a,h=>by
  simp only[qe,KV,PE,Rp]at ho
  cases j with
  | zero=>simp only[M9,K3]at h;subst h;exact ho.1
  | succ j=>
   have:=rr ho.2 j a (by simpa using h)
   rw[show i+(j+1)=i+1+j by omega]
   exact this
theorem tE(all:List Rec):∀{l:List Rec}{k:Nat},all.drop k=l→k≤all.length→r9 all l=true→∀j b,l[j]? = some b→qe b 0 (all.take (k+j))=true
 | [],_,_,_,_,j,b,h=>by simp at h
 | x::l,k,hd,hk,ho,j,b,h=>by
  simp only[r9,KV]at ho
  have hlen:all.length=k+(x::l).length:=by have:=congrArg List.length hd;rw[Nh]at this;omega
  cases j with
  | zero=>
   simp only[M9,K3]at h;subst h;have h1:=ho.1
   rw[show all.length - (x::l).length=k+0 by omega]at h1
   exact h1
  | succ j=>
   have hd':all.drop (k+1)=l:=by rw[← Zy,hd];rfl
   have:=tE all hd' (by simp at hlen;omega) ho.2 j b (by simpa using h)
   rw[show k+(j+1)=k+1+j by omega]
   exact this
theorem rQ:∀{l:List Oper}{i:Nat},qm i l=true→∀j o,l[j]? = some o→∀k∈KH o.after.toList,k<i+j
 | [],_,_,j,o,h=>by simp at h
 | x::l,i,he,j,o,h=>by
  simp only[qm,KV]at he
  cases j with
  | zero=>simp only[M9,K3]at h;subst h;intro k hk;have:=Oe.1 he.1 k hk;simpa using this
  | succ j=>
   have:=rQ he.2 j o (by simpa using h)
   intro k hk;have:=this k hk;omega
theorem xp:∀{tr:List (TR F)} {rs:List Rec},vp ops rs tr→∀i t,tr[i]? = some t→t.Ur=Nf (rs++(tr.map (·.rc ops)).take i) (KH t.o.after.toList)
 | [],_,_,i,t,h=>by simp at h
 | x::tr,rs,hr,i,t,h=>by
  obtain⟨h1,h2⟩:=hr
  cases i with
  | zero=>simp only[M9,K3]at h;subst h;simpa using h1
  | succ i=>
   have:=xp h2 i t (by simpa using h)
   rw[this]
   congr 1
   simp
theorem ss{a b:List Nat}(h:meets a b=false){x:Nat}(ha:x∈a):x∉b:=by
 induction a with
 | nil=>simp at ha
 | cons y a ih=>
  simp only[meets,UU]at h;rcases Lr.1 ha with rfl | ha
  ·intro hb;rw[aK.2 hb]at h;cases h.1
  ·exact ih h.2 ha
theorem jq{a b:Rec}(h:a.conflict b=false):(∀x,a.d=some x→x∉b.rs∧b.d≠some x)∧(∀x,b.d=some x→x∉a.rs)∧(∀x,x∈a.wm→x∉b.tm∧x∉b.wm)∧(∀x,x∈b.wm→x∉a.tm):=by
 simp only[Rec.conflict,UU]at h;obtain⟨⟨⟨⟨h1,h2⟩,h3⟩,h4⟩,h5⟩:=h;refine⟨?_,?_,λx hx=>⟨ss h3 hx,ss h4 hx⟩,λx hx=>ss h5 hx⟩
 ·intro x hx;rw[hx]at h1;simp only[UU]at h1;refine⟨λhb=>?_,λhb=>?_⟩
  ·rw[aK.2 hb]at h1;cases h1.1
  ·rw[hb]at h1;simp at h1
 ·intro x hx ha;rw[hx]at h2;simp only at h2;rw[aK.2 ha]at h2;cases h2
theorem vv{Kw:Array Oper}(hops:Kw.toList=ops){Q:Exit→Act→World→Prop}{tr:List (TR F)}{s s':St F}(htr:tr.map (·.o)=ops)(hc:Chain s tr s')(hok:∀t∈tr,TR.ok P n ops t)
  (hrec:vp ops [] tr) (aaD:qm 0 ops=true) (PV:r9 (tr.map (·.rc ops)) (tr.map (·.rc ops))=true) {g:G} {a:Act} {w:World} (hgood:Good P own W0 n s g a w)
  (hQ:∀g' a' w',Good P own W0 n s' g' a' w'→Q .normal a' w'):wpAny P .any Kw Q Kw.size (Array.replicate Kw.size false) a w:=by
 have hsize:Kw.size=tr.length:=by rw[← SV,hops,← htr,OD]
 have hat:∀(i:Nat)(t:TR F),tr[i]? = some t→Kw[i]? = some t.o:=by
  intro i t hi
  have:ops[i]? = some t.o:=by rw[← htr,MU,hi];rfl
  rw[← hops]at this;simpa using this
 have Y4:∀(i:Nat)(t:TR F),tr[i]? = some t→t.Ur=Nf ((tr.map (·.rc ops)).take i) (KH t.o.after.toList):=by intro i t hi;simpa using xp hrec i t hi
 have Tv:∀(i:Nat)(t:TR F),tr[i]? = some t→∀k∈KH t.o.after.toList,k<i:=by
  intro i t hi k hk
  have:ops[i]? = some t.o:=by rw[← htr,MU,hi];rfl
  have:=rQ aaD i t.o this k hk;omega
 have Za:∀(i j:Nat)(t u:TR F),tr[i]? = some t→tr[j]? = some u→j<i→Nat.testBit t.Ur j=true∨(u.rc ops).conflict (t.rc ops)=false:=by
  intro i j t u hi hj hji
  have h1:=tE (tr.map (·.rc ops)) (l:=tr.map (·.rc ops)) (k:=0) rfl (U8 _) PV i (t.rc ops) (by rw[MU,hi];rfl)
  have:=rr h1 j (u.rc ops) (by rw[L_,MV,if_pos hji,MU,hj];rfl)
  rwa [L_]at this
 have main:∀(fuel:Nat)(listed:Array Bool),listed.size=tr.length→(List.range tr.length).countP (λk=>!K8 listed k)≤fuel→
   (∀(i:Nat)(t:TR F),tr[i]? = some t→K8 listed i=true→∀k∈KH t.o.after.toList,K8 listed k=true)→
   ∀{g:G}{a:Act}{w:World},Good P own W0 n (KF (K8 listed) 0 tr s) g a w→wpAny P .any Kw Q fuel listed a w:=by
  intro fuel
  induction fuel with
  | zero=>
   intro listed hls hcnt hcl g a w hg
   have hall:∀k,k<tr.length→K8 listed k=true:=by
    intro k hk
    cases hon:K8 listed k with
    | true=>rfl
    | false=>
     have:0<(List.range tr.length).countP (λk=>!K8 listed k):=List.countP_pos_iff.2 ⟨k,by simpa using hk,by simp[hon]⟩
     omega
   refine⟨?_,?_⟩
   ·cases hr:Region.ready .any Kw listed with
    | nil=>rfl
    | cons i l=>
     have hi:i∈Region.ready .any Kw listed:=by rw[hr];simp
     obtain⟨h1,o,ho,_⟩:=mem_ready.1 hi
     have hlt:i<tr.length:=by rw[← hsize];exact(P_.1 ho).1
     have h2:=hall i hlt;simp only[K8,Q_]at h1 h2
     rw[QcY (by rw[hls];exact hlt)]at h1 h2
     simp only[Ta]at h1 h2;rw[h1]at h2;cases h2
   ·rw[pJ tr 0 s s' (K8 listed) hc (λj hj=>by rw[L_];exact hall j hj)]at hg
    exact hQ g a w hg
  | succ fuel ih=>
   intro listed hls hcnt hcl g a w hg;refine⟨?_,?_⟩
   ·intro hr
    have hall:∀k,k<tr.length→K8 listed k=true:=by
     intro k
     induction k using Nat.strongRecOn with
     | _ k ihk=>
      intro hk
      cases hon:K8 listed k with
      | true=>rfl
      | false=>
       exfalso;have hk':=IZ hk
       have:k∈Region.ready .any Kw listed:=by
        refine mem_ready.2 ⟨?_,tr[k].o,hat k _ hk',?_⟩
        ·simp only[K8,Q_]at hon ⊢
         rw[QcY (by rw[hls];exact hk)]at hon ⊢
         exact hon
        ·intro e he hb
         have hmem:e.on∈KH tr[k].o.after.toList:=Ab (by simpa using he) hb
         have hlt:=Tv k _ hk' e.on hmem
         exact ihk e.on hlt (by omega)
       rw[hr]at this;simp at this
    rw[pJ tr 0 s s' (K8 listed) hc (λj hj=>by rw[L_];exact hall j hj)]at hg
    exact hQ g a w hg
   ·intro i hi;obtain⟨h1,o,ho,ajo⟩:=mem_ready.1 hi
    have hlt:i<tr.length:=by rw[← hsize];exact(P_.1 ho).1
    have hti:=IZ hlt;generalize htdef:tr[i]=t at hti;have WA:Kw[i]? = some t.o:=hat i t hti;rw[ho]at WA;cases WA
    have hoff:K8 listed i=false:=by
     simp only[K8,Q_]at h1 ⊢
     rw[QcY (by rw[hls];exact hlt)]at h1 ⊢
     exact h1
    have acr:∀k∈KH t.o.after.toList,K8 listed k=true:=by
     intro k hk;obtain⟨e,he,hb,rfl⟩:=zW hk
     exact ajo e (by simpa using he) hb
    have aol:=Dg (ops:=ops) (K8 listed) tr Y4 Tv hcl i t hti acr;have aaG:∀(j:Nat)(u:TR F),tr[j]? = some u→K8 listed j=true→∀k,Nat.testBit u.Ur k=true→K8 listed k=true:=λj u hj hon=>Dg (ops:=ops) (K8 listed) tr Y4 Tv hcl j u hj (hcl j u hj hon)
    have ahead:∀(j:Nat)(u:TR F),tr[j]? = some u→j<i→(u.rc ops).conflict (t.rc ops)=true→K8 listed j=true:=by
     intro j u hj hji hcf;rcases Za i j t u hti hj hji with h | h
     ·exact aol j h
     ·rw[hcf]at h;cases h
    have behind:∀(j:Nat)(u:TR F),tr[j]? = some u→i<j→(t.rc ops).conflict (u.rc ops)=true→K8 listed j=false:=by
     intro j u hj hij hcf
     cases hon:K8 listed j with
     | false=>rfl
     | true=>
      rcases Za j i u t hj hti hij with h | h
      ·have:=aaG j u hj hon i h;rw[hoff]at this;cases this
      ·rw[hcf]at h;cases h
    have okt:=hok t (Rq hti);have hst:=uG tr 0 s s' i t hc hti;simp only[L_]at hst
    have agree:∀(j:Nat)(u:TR F),tr[j]? = some u→((u.rc ops).conflict (t.rc ops)=true∨(t.rc ops).conflict (u.rc ops)=true)→j≠i→K8 listed j=decide (j<i):=by
     intro j u hj hcf hne
     have symm:∀a b:Rec,a.conflict b=true→b.conflict a=true:=by
      intro a b h
      cases hba:b.conflict a with
      | true=>rfl
      | false=>
       obtain⟨k1,k2,k3,k4⟩:=jq hba;exfalso
       have:a.conflict b=false:=by
        simp only[Rec.conflict,UU]
        have mt:∀l r:List Nat,(∀x∈l,x∉r)→meets l r=false:=by
         intro l
         induction l with
         | nil=>intro r _;rfl
         | cons y l ihl=>
          intro r hr;simp only[meets,UU]
          refine⟨?_,ihl r (λx hx=>hr x (by simp[hx]))⟩
          cases hm:Jw y r with
          | false=>rfl
          | true=>exact absurd (aK.1 hm) (hr y (by simp))
        have nm:∀x (l:List Nat),x∉l→Jw x l=false:=by
         intro x l hx
         cases hm:Jw x l with
         | false=>rfl
         | true=>exact absurd (aK.1 hm) hx
        refine⟨⟨⟨⟨?_,?_⟩,mt _ _ (λx hx=>?_)⟩,mt _ _ (λx hx=>?_)⟩,mt _ _ (λx hx=>?_)⟩
        ·cases hd:a.d with
         | none=>rfl
         | some x=>
          simp only[UU];refine⟨nm x _ (k2 x hd),?_⟩
          cases hd2:b.d with
          | none=>rfl
          | some y=>
           have:=(k1 y hd2).2;rw[hd]at this
           exact aj (λe=>this (by rw[e]))
        ·cases hd:b.d with
         | none=>rfl
         | some x=>exact nm x _ (k1 x hd).1
        ·exact k4 x hx
        ·intro hb;exact(k3 x hb).2 hx
        ·exact(k3 x hx).1
       rw[this]at h;cases h
     rcases Nat.lt_trichotomy j i with hji | hji | hji
     ·rw[decide_eq_true hji];exact ahead j u hj hji (hcf.elim id (symm _ _))
     ·exact absurd hji hne
     ·rw[decide_eq_false (by omega)]
      exact behind j u hj hji (hcf.elim (symm _ _) id)
    refine wt okt (s:=KF (K8 listed) 0 tr s) ?_ ?_ ?_ hg hops (hat i t hti) ?_
    ·
     intro x hx;show _=t.s.e x;rw[hst];refine tc _ _ x tr 0 _ _ rfl ?_;intro j u hj hdst;rw[L_];by_cases hne:j=i
     ·subst hne
      rw[hoff,decide_eq_false (by omega)]
     ·refine agree j u hj (.inl ?_) hne
      cases hcf:(u.rc ops).conflict (t.rc ops)with
      | true=>rfl
      | false=>exact absurd hx ((jq hcf).1 x hdst).1
    ·intro id hid;show _=t.s.m id;rw[hst];refine sO _ _ id tr 0 _ _ rfl ?_;intro j u hj hmem;rw[L_];by_cases hne:j=i
     ·subst hne
      rw[hoff,decide_eq_false (by omega)]
     ·refine agree j u hj (.inl ?_) hne
      cases hcf:(u.rc ops).conflict (t.rc ops)with
      | true=>rfl
      | false=>exact absurd hid ((jq hcf).2.2.1 id hmem).1
    ·
     intro kk hkk
     have hid:t.nm (t.c+kk)=true:=by simp only[TR.nm,KV,decide_eq_true_eq];omega
     generalize t.c+kk=id at hid ⊢
     cases hu:(KF (K8 listed) 0 tr s).u id with
     | false=>rfl
     | true=>
      exfalso;rw[li]at hu;have hfr:=zD okt.fresh hid;have Tn:t.s.u id=false:=hfr
      have hnot:¬ (t.s.u id=true):=by rw[Tn];simp
      rcases hu with h | ⟨j,u,h1,h2,h3⟩
      ·refine hnot ?_;rw[hst,li];exact .inl h
      ·rw[L_]at h2;rcases Nat.lt_trichotomy j i with hji | hji | hji
       ·refine hnot ?_;rw[hst,li]
        exact .inr ⟨j,u,h1,by simpa using hji,h3⟩
       ·subst hji;rw[hoff]at h2;cases h2
       ·have oku:=hok u (Rq h1);have hfu:u.s.u id=false:=zD oku.fresh h3
        have:u.s.u id=true:=by
         have hsu:=uG tr 0 s s' j u hc h1;simp only[L_]at hsu;rw[hsu,li]
         exact .inr ⟨i,t,hti,by simpa using hji,hid⟩
        rw[hfu]at this;cases this
    ·intro g' a' w' hg'
     have hmore:=Bu (K8 listed) i tr 0 s t hti (by rw[L_];exact hoff) (by
      intro j u hj hij hon;rw[L_]at hon
      cases hcf:(t.rc ops).conflict (u.rc ops)with
      | true=>rw[behind j u hj hij hcf]at hon;cases hon
      | false=>obtain⟨k1,_,k3,_⟩:=jq hcf;exact⟨λx hx=>(k1 x hx).2,λx hx=>(k3 x hx).2⟩)
     rw[L_]at hmore;rw[← hmore]at hg'
     have aah:K8 (listed.setIfInBounds i true) = λj=>K8 listed j||j == i:=by
      funext j
      simp only[K8];by_cases hj:i=j
      ·subst hj
       have:(listed.setIfInBounds i true).getD i false=true:=by
        rw[Q_,XL,if_pos rfl,if_pos (by rw[hls];exact hlt)]
        rfl
       rw[this];simp
      ·rw[getD_set_ne false hj]
       have:(j == i)=false:=by simp;exactλe=>hj e.symm
       rw[this,Bool.or_false]
     refine ih (listed.setIfInBounds i true) (by simp[hls]) ?_ ?_ (by rw[aah];exact hg')
     ·rw[aah]
      have hcount:(List.range tr.length).countP (λk=>!(K8 listed k||k == i))+1=(List.range tr.length).countP (λk=>!K8 listed k):=by
       have gen:∀(l:List Nat),l.Nodup→i∈l→l.countP (λk=>!(K8 listed k||k == i))+1=l.countP (λk=>!K8 listed k):=by
        intro l
        induction l with
        | nil=>intro _ h;simp at h
        | cons y l ihl=>
         intro hnd hmem;rw[PI]at hnd;by_cases hy:y=i
         ·subst hy
          have heq:l.countP (λk=>!(K8 listed k||k == y))=l.countP (λk=>!K8 listed k):=by
           apply List.countP_congr;intro x hx
           have:(x == y)=false:=by simp;rintro rfl;exact hnd.1 hx
           simp[this]
          rw[QfG,QfG,heq,hoff];simp
         ·have hmem':i∈l:=by
           rcases Lr.1 hmem with h | h
           ·exact absurd h.symm hy
           ·exact h
          have:=ihl hnd.2 hmem';rw[QfG,QfG,← this]
          have hyi:(y == i)=false:=by simp;exact hy
          rw[hyi,Bool.or_false];omega
       exact gen _ QfH (by simpa using hlt)
      show(List.range tr.length).countP (λk=>!(K8 listed k||k == i))≤fuel;omega
     ·rw[aah];intro j u hj hon k hk;simp only[PE,beq_iff_eq]at hon ⊢;rcases hon with hon | rfl
      ·exact .inl (hcl j u hj hon k hk)
      ·rw[hti]at hj;cases hj;exact .inl (acr k hk)
 refine main Kw.size (Array.replicate Kw.size false) (by simp[hsize]) ?_ ?_ (g:=g) ?_
 ·rw[hsize]
  exact MP List.countP_le_length (by simp)
 ·intro i t hi hon;simp only[K8]at hon;simp[Q_,Array.getElem?_replicate]at hon
  split at hon<;>simp at hon
 ·have:KF (K8 (Array.replicate Kw.size false)) 0 tr s=s:=by
   have gen:∀(l:List (TR F)) (k:Nat) (s:(St F)),KF (K8 (Array.replicate Kw.size false)) k l s=s:=by
    intro l
    induction l with
    | nil=>intro k s;rfl
    | cons t l ihl=>
     intro k s;simp only[KF];rw[if_neg]
     ·exact ihl (k+1) s
     ·simp only[K8,Q_,Array.getElem?_replicate]
      split<;>simp
   exact gen tr 0 s
  rw[this];exact hgood
end
set_option linter.unusedVariables false
set_option linter.unusedSimpArgs false
section
variable{F:Fam}{P:Program}{T:TypeId→Option (TI F)}{Γ : Ctx F}{nv n:Nat}{R:Type}{own:Ow}{W0:World}{a:Act}{w:World}{g:G}
theorem rG{s:St F}(hg:Good P own W0 n s g a w):Good P own W0 n s g a w.drew:=by have hle:Le g w g w.drew:=⟨λ_ _ h=>h,λ_ h=>h,λ_ _=>rfl,λ_ h=>h,λ_ _=>rfl⟩;exact⟨hg.Py,hg.OP,λx d h=>(hg.env x d h).le hle,⟨λid B h=>(hg.mem.ok id B h).le hle (λ_ _ _=>rfl),hg.mem.OB,hg.mem.own,hg.mem.I7,hg.mem.io,hg.mem.len⟩,hg.dom,hg.O5,⟨hg.Lc.os,hg.Lc.tape,hg.Lc.output,hg.Lc.size,hg.Lc.fresh,hg.Lc.block,Nat.le_succ_of_le hg.Lc.drawn⟩,hg.N8⟩
theorem Good.sub{s s':St F}(h:Good P own W0 n s g a w)(he:∀x d,s'.e x=some d→s.e x=some d)(hm:∀id B,s'.m id=some B→s.m id=some B)(hu:∀id,s'.u id=false→s.u id=false):Good P own W0 n s' g a w:=
 ⟨h.Py,h.OP,λx d hx=>h.env x d (he x d hx),h.mem.sub hm,λid hi=>h.dom id (hu id hi),h.O5,h.Lc,h.N8⟩
theorem jF{kp:List Nat}:∀{E:List (Nat×Dat F)} {seen:List Nat} {K:List (Nat×Dat F)→Option R} {r:R},pT nv kp E seen K=some r→
  ∃E',K E'=some r∧∀y,look E' y=if(Nat.blt y nv||Jw y kp)&&!(Jw y seen)then look E y else none
 | [],seen,K,r,h=>⟨[],h,λy=>by simp[look]⟩
 | (x,d)::E,seen,K,r,h=>by
  simp only[pT]at h;split at h
  ·rename_i hc;obtain⟨E',h1,h2⟩:=jF h;refine⟨_,h1,λy=>?_⟩;rw[ar,ar,h2];by_cases hxy:x=y
   ·subst hxy;rw[ba,if_pos rfl,if_pos rfl,if_pos hc]
   ·rw[aj hxy];simp[Jw,aj hxy]
  ·rename_i hc;obtain⟨E',h1,h2⟩:=jF h;refine⟨E',h1,λy=>?_⟩;rw[h2,ar];by_cases hxy:x=y
   ·subst hxy;rw[if_neg hc,if_neg hc]
   ·rw[aj hxy];simp
theorem Iu(hT:J5 P T)(hΓ : Kz P Γ)(K5:P.follows .mixedOrders=true){id:Nat}{Kw:Array Oper}{draw:Bool}{kp:List Nat}{s:TS F}{K:TS F→Option R}{r:R}
  (h:OU T Γ nv n kp Kw.toList draw s K=some r) {Q:Exit→Act→World→Prop} (hg:Good P own W0 n s.st g a w)
  (hQ:∀s' g' a' w',K s'=some r→Fr nv s s'→Good P own W0 n s'.st g' a' w'→Q .normal a' w'):(Code.region id Kw draw).wp P Q a w:=by
 unfold OU at h;obtain⟨z,tr,h1,t1,t2,t3,t4,t5⟩:=nE hT hΓ h;obtain⟨PV,h1⟩:=aL h1;obtain⟨E',h2,h3⟩:=jF h1
 have hQ':∀g' a' w',Good P own W0 n z.st g' a' w'→Q .normal a' w':=by
  intro g' a' w' hg';refine hQ _ g' a' w' h2 ⟨λx hx hn=>?_,t5.m,t5.c,t5.dE,t5.dM⟩ (hg'.sub ?_ (λ_ _ h=>h) (λ_ h=>h))
  ·show look E' x=_
   rw[h3,if_pos (by simp[Jw,M4.mpr hx])]
   exact t5.e x hx hn
  ·intro x d hx;simp only[TS.st]at hx ⊢;rw[h3]at hx;split at hx
   ·exact hx
   ·cases hx
 cases draw with
 | false=>
  have hlen:Kw.size=tr.length:=by rw[← SV,← t1,OD]
  refine wp_region ?_
  have:=mD (Kw:=Kw) rfl (Q:=Q) tr 0 s.st z.st (by
   intro j
   have:Kw.toList[j]? = (tr.map (·.o))[j]?:=by rw[t1]
   rw[MU]at this;rw[← this];simp) t2 t3 hg hQ'
  rw[← hlen]at this;rw[QdZ];exact this
 | true=>simp only[if_true,KV,O7]at PV;refine wp_region_any K5 ?_;exact vv (Kw:=Kw) rfl t1 t2 t3 t4 PV.1 PV.2 (rG hg) hQ'
inductive LC(p:Nat→Prop):Kv F→Prop where
 | im (d:ND F):LC p (.im d)
 | pt (cs:List (ND F)) (off:Nat):LC p (.pt cs off)
 | ptr {id:Nat} (off:Nat) (h:p id):LC p (.ptr id off)
 | Mg {id:Nat} (sz i off:Nat) (h:p id):LC p (.Mg id sz i off)
 | KU {id:Nat} (h:p id):LC p (.KU id)
 | Ny {id:Nat} (sz off n:Nat) (h:p id):LC p (.Ny id sz off n)
 | O4 {id:Nat} (sz i off:Nat) (h:p id):LC p (.O4 id sz i off)
 | Px {id:Nat} (sz i off sz' j off':Nat) (h:p id):LC p (.Px id sz i off sz' j off')
 | O6 {id:Nat} (n:Nat) (h:p id):LC p (.O6 id n)
 | Og {id:Nat} (h:p id):LC p (.Og id)
 | P5 (cs:List (ND F)):LC p (.P5 cs)
 | ln (d:ND F):LC p (.ln d)
 | UN (cs:List (ND F)) (off:Nat):LC p (.UN cs off)
 | any:LC p .any
 | one:LC p .one
inductive NK(p:Nat→Prop):Dat F→Prop where
 | c {x:Kv F} (h:LC p x):NK p (.c x)
 | agg {cs:List (Kv F)} (h:∀(k:Nat)(c:Kv F),cs[k]? = some c→LC p c):NK p (.agg cs)
 | MI {ds:List (Dat F)} (h:∀(k:Nat)(d:Dat F),ds[k]? = some d→NK p d):NK p (.MI ds)
 | NM {fn:Fn} {fs cs:List (Dat F)} (h:∀(k:Nat)(d:Dat F),fs[k]? = some d→NK p d) (h':∀(k:Nat)(d:Dat F),cs[k]? = some d→NK p d):NK p (.NM fn fs cs)
 | fv {ks:List Ty} {r:Ty} (φ : Js F ks→Option (ET F r)):NK p (.fv ks r φ)
 | gh {id:Nat} (h:p id):NK p (.gh id)
theorem Ka.inn{c:Kv F}{x:Value}(h:Ka g w c x):LC (λid=>g.ids id≠none) c:=by
 cases h with
 | im=>exact .im _
 | pt=>exact .pt _ _
 | ptr h=>exact .ptr _ (by rw[h];simp)
 | Mg h=>exact .Mg _ _ _ (by rw[h];simp)
 | MR p h=>exact .KU (by rw[h];simp)
 | KU h=>exact .KU (by rw[h];simp)
 | OW p h=>exact .Ny _ _ _ (by rw[h];simp)
 | Ny h=>exact .Ny _ _ _ (by rw[h];simp)
 | O4 h=>exact .O4 _ _ _ (by rw[h];simp)
 | Px h=>exact .Px _ _ _ _ _ _ (by rw[h];simp)
 | O6 h=>exact .O6 _ (by rw[h];simp)
 | Og h=>exact .Og (by rw[h];simp)
 | P5=>exact .P5 _
 | ln=>exact .ln _
 | UN=>exact .UN _ _
 | any=>exact .any
 | one=>exact .one
theorem J4.inn{d:Dat F}{x:Value}(h:J4 P g w d x):NK (λid=>g.ids id≠none) d:=by
 induction h with
 | c h=>exact .c h.inn
 | agg hl h=>
  refine .agg λk c hk=>?_;have hlt:=(I0.1 hk).1
  exact(h k c _ hk (IZ (by rw[hl];exact hlt))).inn
 | MI hl h ih=>
  refine .MI λk c hk=>?_;have hlt:=(I0.1 hk).1
  exact ih k c _ hk (IZ (by rw[hl];exact hlt))
 | NM h1 h2 hf hc i1 i2=>
  refine .NM (λk c hk=>?_) (λk c hk=>?_)
  ·have hlt:=(I0.1 hk).1
   exact i1 k c _ hk (IZ (by rw[h1];exact hlt))
  ·have hlt:=(I0.1 hk).1
   exact i2 k c _ hk (IZ (by rw[h2];exact hlt))
 | fv=>exact .fv _
 | gh h=>exact .gh (by rw[h];simp)
theorem Ka.ren{p:Nat→Prop}{g':G}(Lv:∀id,p id→g'.ids id=g.ids id)(Kl:∀b,g.I7 b→g'.I7 b)(hlen:∀b,g.len b→g'.len b){c:Kv F}(hc:LC p c){x:Value}(h:Ka g w c x):Ka g' w c x:=by
 have hle:∀{d:ND F}{x:Value},Ju w g.I7 d x→Ju w g'.I7 d x:=λh=>h.mono Kl (λ_ _=>rfl)
 cases h with
 | im h=>exact .im (hle h)
 | pt cs off b o f hb hcc hr=>exact .pt cs off b o f (Kl b hb) hcc (λk d hk=>hle (hr k d hk))
 | ptr h=>cases hc with | ptr _ hp=>exact .ptr (by rw[Lv _ hp];exact h)
 | Mg h=>cases hc with | Mg _ _ _ hp=>exact .Mg (by rw[Lv _ hp];exact h)
 | MR p h=>cases hc with | KU hp=>exact .MR p (by rw[Lv _ hp];exact h)
 | KU h h1 h2=>cases hc with | KU hp=>exact .KU (by rw[Lv _ hp];exact h) h1 h2
 | OW p h=>cases hc with | Ny _ _ _ hp=>exact .OW p (by rw[Lv _ hp];exact h)
 | Ny h h1 h2 h3 h4=>cases hc with | Ny _ _ _ hp=>exact .Ny (by rw[Lv _ hp];exact h) h1 h2 h3 h4
 | O4 h h1 h2=>cases hc with | O4 _ _ _ hp=>exact .O4 (by rw[Lv _ hp];exact h) h1 h2
 | Px h h1=>cases hc with | Px _ _ _ _ _ _ hp=>exact .Px (by rw[Lv _ hp];exact h) h1
 | O6 h hm=>cases hc with | O6 _ hp=>exact .O6 (by rw[Lv _ hp];exact h) hm
 | Og h=>cases hc with | Og hp=>exact .Og (by rw[Lv _ hp];exact h)
 | P5 cs b o b2 o2 f hb hv hb2 hcc hr=>exact .P5 cs b o b2 o2 f (Kl b hb) hv (Kl b2 hb2) hcc (λk d hk=>hle (hr k d hk))
 | ln h=>exact .ln (h.mono (λb hb=>hb.imp (Kl b) (hlen b)) (λ_ _=>rfl))
 | UN cs off b o f hb hcc hr=>exact .UN cs off b o f (hb.imp (Kl b) (hlen b)) hcc (λk d hk=>(hr k d hk).mono (λb hb=>hb.imp (Kl b) (hlen b)) (λ_ _=>rfl))
 | any=>exact .any
 | one h=>exact .one h
theorem J4.ren{p:Nat→Prop}{g':G}(Lv:∀id,p id→g'.ids id=g.ids id)(Kl:∀b,g.I7 b→g'.I7 b)(hlen:∀b,g.len b→g'.len b){d:Dat F}{x:Value}(h:J4 P g w d x):NK p d→J4 P g' w d x:=by
 induction h with
 | c h=>intro hd;cases hd with | c hc=>exact .c (h.ren Lv Kl hlen hc)
 | agg hl h=>intro hd;cases hd with | agg hc=>exact .agg hl (λk c x a b=>(h k c x a b).ren Lv Kl hlen (hc k c a))
 | MI hl h ih=>intro hd;cases hd with | MI hc=>exact .MI hl (λk c x a b=>ih k c x a b (hc k c a))
 | NM h1 h2 hf hc i1 i2=>intro hd;cases hd with | NM k1 k2=>exact .NM h1 h2 (λk c x a b=>i1 k c x a b (k1 k c a)) (λk c x a b=>i2 k c x a b (k2 k c a))
 | fv h=>intro _;obtain⟨fid,bound,captured,h1,h0,h2,h3⟩:=h;exact .fv ⟨fid,bound,captured,h1,h0,h2,λw2 Z5 k1 k2=>h3 w2 Z5 (λb hb=>k1 b (Kl b hb)) k2⟩
 | gh h=>intro hd;cases hd with | gh hp=>exact .gh (by rw[Lv _ hp];exact h)
theorem KQ.ren{p:Nat→Prop}{g':G}(Lv:∀id,p id→g'.ids id=g.ids id)(Kl:∀b,g.I7 b→g'.I7 b)(hlen:∀b,g.len b→g'.len b){id:Nat}(hp:p id){B:J8 F}(hB:∀(cs:List (Kv F)),B = .box cs→∀(k:Nat)(c:Kv F),cs[k]? = some c→LC p c)(hA:∀k n,B = .MJ k n→p k)(h:KQ g w id B):KQ g' w id B:=by
 have hle:∀{d:ND F}{x:Value},Ju w g.I7 d x→Ju w g'.I7 d x:=λh=>h.mono Kl (λ_ _=>rfl);have hi:=Lv id hp
 cases B with
 | box cs=>
  obtain⟨b,c,arr,t,h1,h2,h3,h4⟩:=h
  exact⟨b,c,arr,t,by rw[hi];exact h1,h2,h3,λk c x a b=>(h4 k c x a b).ren Lv Kl hlen (hB cs rfl k c a)⟩
 | row t l=>
  rcases h with⟨h1,h2⟩ | ⟨b,cap,cur,e,h1,h2,h3,h4,h5,h6⟩
  ·exact .inl ⟨by rw[hi];exact h1,h2⟩
  ·exact .inr ⟨b,cap,cur,e,by rw[hi];exact h1,h2,h3,h4,h5,λk d x a b=>hle (h6 k d x a b)⟩
 | KR t l=>
  obtain⟨pl,h1,h2⟩:=h
  exact⟨pl,by rw[hi];exact h1,h2.Mv Kl (λ_ _=>rfl) (λ_ _ _ _ _=>rfl)⟩
 | OG t l=>
  rcases h with⟨h1,h2⟩ | ⟨b,cap,ns,h1,hn,h2,h3,h4,h5⟩
  ·exact .inl ⟨by rw[hi];exact h1,h2⟩
  ·exact .inr ⟨b,cap,ns,by rw[hi];exact h1,λb' hb'=>Kl b' (hn b' hb'),Kl b h2,h3,h4,λk d hk=>by obtain⟨x,k1,k2⟩:=h5 k d hk;exact⟨x,k1,hle k2⟩⟩
 | WC cs=>
  obtain⟨b,c,h1,h2,h5⟩:=h
  exact⟨b,c,by rw[hi];exact h1,Kl b h2,λk d hk=>by obtain⟨x,k1,k2⟩:=h5 k d hk;exact⟨x,k1,hle k2⟩⟩
 | mp t l=>
  obtain⟨b,h1,h2⟩:=h
  exact⟨b,by rw[hi];exact h1,h2.Mv Kl (λ_ _=>rfl) rfl⟩
 | it ob=>
  obtain⟨b,h1,h2⟩:=h
  exact⟨b,by rw[hi];exact h1,h2⟩
 | MJ k n=>exact Lh.mono (λr hr=>by rw[hi];exact hr) (λr hr=>by rw[Lv k (hA k n rfl)];exact hr) h
 | Oa t l i ks=>
  obtain⟨pl,h1,h2⟩:=h
  exact⟨pl,by rw[hi];exact h1,h2.Mv (λ_ _ _ _ _=>rfl) λk d x p hp hc=>hc.Mv Kl (λ_ _=>rfl) hp⟩
 | La t l j=>
  obtain⟨pl,h1,h2⟩:=h
  exact⟨pl,by rw[hi];exact h1,h2.Mv (λ_ _ _ _ _=>rfl) λk d x p hp hc=>hc.Mv Kl (λ_ _=>rfl) hp⟩
theorem KQ.ab6{id:Nat}{B:J8 F}(h:KQ g w id B):∀k n,B = .MJ k n→g.ids k≠none:=by
 rintro k n rfl
 rcases h with⟨_,_,_,_,_,h,_⟩ | ⟨_,h,_⟩<;>(rw[h];simp)
theorem KQ.inn{id:Nat}{B:J8 F}(h:KQ g w id B):∀(cs:List (Kv F)),B = .box cs→∀(k:Nat)(c:Kv F),cs[k]? = some c→LC (λid=>g.ids id≠none) c:=by
 rintro cs rfl k c hk;obtain⟨b,_,arr,t,h1,h2,h3,h4⟩:=h;have hlt:=(I0.1 hk).1
 exact(h4 k c _ hk (IZ (by rw[h3];exact hlt))).inn
def UG(o:Option Nat)(bx:Pl)(v v':Value):Prop:=
 match o with
 | some n=>if Nat.beq n 4997=true then∃b c,bx=some (b,c)else n≤maxLen∧∃b c,bx=some (b,c)∧v = .slice (some ⟨b,0,none⟩) n n
 | none=>v=v'
def AsB(k:Kd)(bx:Pl)(v v':Value):Prop:=
 match k with
 | .box _ ow=>UG (PL ow) bx v v'
 | _=>v=v'
def mz(P:Program)(w:World)(I7:Nat→Prop)(e:Option Nat)(k:Kd)(x:k.El F)(v:Value)(Jg:List Pl)(sb:List (Nat×Pl)):Prop:=
 match e with
 | some id=>∃bx v',sb = [(id,bx)]∧Held P w I7 k x v' (bx::Jg) [bx]∧k.KT=true∧AsB k bx v v'
 | none=>sb = []∧∃Jv,Held P w I7 k x v Jg Jv
def Ww(P:Program)(w:World)(I7:Nat→Prop)(val:Nat→Value)(s0:TS F):(ks:Ks)→TLS F ks→List Pl→List (Nat×Pl)→Prop
 | [],_,Jg,sb=>Jg = []∧sb = []
 | [k],x,Jg,sb=>mz P w I7 (dH k.2 (look s0.E k.1)) k.2 x (val k.1) Jg sb
 | k::l::r,a,Jg,sb=>∃p1 p2 b1 b2,Jg=p1++p2∧sb=b1++b2∧mz P w I7 (dH k.2 (look s0.E k.1)) k.2 a.1 (val k.1) p1 b1∧Ww P w I7 val s0 (l::r) a.2 p2 b2
def acD(g:G)(s0:TS F)(sb:List (Nat×Pl)):Prop:=∀q∈sb,g.ids q.1=some q.2∧∃x k,dH k (look s0.E x)=some q.1
theorem ep{k:Kd}{d:Option (Dat F)}{id:Nat}(h:dH k d=some id):(∃t ow,k = .box t ow∧d=some (U5 ow id))∨∃t arr,k = .row t arr∧d=some (MC t arr id):=by
 unfold dH at h;split at h
 ·split at h
  ·rename_i hs;cases h;exact .inl ⟨_,_,rfl,by simp[U5,hs]⟩
  ·cases h
 ·split at h
  ·rename_i hs;obtain⟨h1,h⟩:=aL h;cases h;simp only[KV,Rp]at h1;have:=M_ h1.1;subst this
   exact .inl ⟨_,_,rfl,by simp[U5,hs,h1.2]⟩
  ·cases h
 ·split at h
  ·rename_i hs;obtain⟨h1,h⟩:=aL h;cases h
   exact .inl ⟨_,_,rfl,by simp[U5,hs,h1]⟩
  ·cases h
 ·exact .inr ⟨_,_,rfl,congrArg some (rB h)⟩
 ·cases h
theorem AR{ow:List Nat}{id:Nat}{v:Value}(h:J4 (F:=F) P g w (U5 ow id) v):∃v',J4 P g w (Sc (U5 (F:=F) ow id)) v'∧(∃b c,g.ids id=some (some (b,c)))∧∀(bx:Pl),g.ids id=some bx→UG (PL ow) bx v v':=by
 unfold U5 at h ⊢;generalize PL ow=o at h ⊢
 cases o with
 | none=>obtain⟨b,c,h1,h2⟩:=bo h;exact⟨v,h,⟨b,c,h1⟩,λ_ _=>rfl⟩
 | some n=>
  dsimp only at h ⊢
  cases hn:Nat.beq n 4997 with
  | false=>
   rw[hn]at h;obtain⟨b,c,h1,hm,h2⟩:=wq h;refine⟨_,.c (.ptr h1),⟨b,c,h1⟩,λbx hb=>?_⟩;unfold UG;dsimp only
   rw[if_neg (by rw[hn];simp)]
   refine⟨hm,b,c,?_,h2⟩;rw[h1]at hb;exact(Option.some.inj hb).symm
  | true=>
   rw[hn]at h;have h:J4 (F:=F) P g w (.gh id) v:=h
   cases h with
   | gh h1=>refine⟨_,.c (.ptr h1),⟨_,_,h1⟩,λbx hb=>?_⟩;unfold UG;dsimp only;rw[if_pos hn];rw[h1]at hb;exact⟨_,_,(Option.some.inj hb).symm⟩
theorem Fj{ow:List Nat}{id:Nat}{v v':Value}{bx:Nat×Nat×Nat}(hv':v' = .pointer (some ⟨bx.1,0,none⟩))(h:UG (PL ow) (some (RU bx)) v v')(hid:g.ids id=some (some (RU bx))):J4 (F:=F) P g w (U5 ow id) v:=by
 unfold U5;generalize PL ow=o at h ⊢
 cases o with
 | none=>have h:v=v':=h;subst h;subst hv';exact .c (.ptr hid)
 | some n=>
  dsimp only;unfold UG at h;dsimp only at h
  cases hn:Nat.beq n 4997 with
  | false=>
   rw[if_neg (by rw[hn];simp)]at h
   obtain⟨hm,b,c,e,rfl⟩:=h;cases e;exact .c (.O6 hid hm)
  | true=>exact .gh hid
theorem tP{s0 s:TS F}(hΓ : Kz P Γ)(hm:Jl own g w (look s.M)){val:Nat→Value}(hv:∀x d,look s.E x=some d→J4 P g w d (val x)){x:Nat}{k:Kd}{p:Pk (k.El F)}(h:vF Γ s0 s x k=some p){I7:Nat→Prop}(hi:Pd g p.fz I7) :
  ∃Jg sb,mz P w I7 (dH k (look s0.E x)) k p.x (val x) Jg sb∧acD g s0 sb∧(∀q∈sb,some q.1∈p.os)∧(I5 (p.os.map (Kc g))).Perm (I5 (sb.map (·.2))++I5 Jg)∧NP (look s.M) p.fz∧(∀id,some id∈p.os→∃B,look s.M id=some B∧B.owned=true):=by
 unfold vF at h;split at h
 ·rename_i id hs;split at h
  ·cases h
  ·rename_i d hd;split at h
   ·rename_i id' hs';obtain⟨hb,h'⟩:=aL h;have:=M_ hb;subst this;rcases ep hs with⟨t,ow,rfl,hs0⟩ | ⟨t,arr,rfl,hs0⟩
    ·rcases ep hs' with⟨t',ow',e1,e2⟩ | ⟨t',arr',e1,e2⟩
     ·cases e1;cases e2
      obtain⟨v',p1,p2,p3⟩:=AR (hv x _ hd);obtain⟨q,bx,os,h1,h2,h3,h4,h5,h6,h7,h8⟩:=kM (t:=t) (ow:=ow) hm (λ_ _ h=>h) h' hi p1
      have hq:q=id:=by
       unfold U5 at h3
       cases hsl:PL ow with
       | none=>rw[hsl]at h3;simp only[Sc,Dat.c.injEq,Kv.ptr.injEq,and_true]at h3;exact h3.symm
       | some n=>
        rw[hsl]at h3;dsimp only at h3
        cases hn:Nat.beq n 4997<;>rw[hn]at h3<;>simp only[cond_true,cond_false,Sc,Dat.c.injEq,Kv.ptr.injEq,and_true]at h3<;>exact h3.symm
      subst hq
      refine⟨os.map (Kc g),[(q,some (RU bx))],by unfold mz;rw[hs];exact⟨some (RU bx),v',rfl,⟨bx,_,rfl,rfl,h5,h6⟩,rfl,p3 _ h4⟩,?_,?_,?_,NP.MH h7,h8⟩
      ·intro q hq;rw[I4]at hq;subst hq;exact⟨h4,x,_,hs⟩
      ·intro q hq;rw[I4]at hq;subst hq;rw[h1];simp
      ·rw[h1];simp[Kc,h4,I5]
     ·cases e1
    ·have etp:Sc d=d:=by
      rcases ep hs' with⟨t',ow',e1,e2⟩ | ⟨t',arr',e1,e2⟩
      ·cases e1
      ·cases e2;unfold MC;cases t'.KX<;>cases arr'<;>rfl
     rw[etp]at h';obtain⟨q,pl,h1,h2,h3,h4,h5,h6,h7,l,h8⟩:=rz (t:=t) (arr:=arr) hm (λ_ _ h=>h) h' hi.I7 (hv x _ hd);rcases ep hs' with⟨t',ow',e1,e2⟩ | ⟨t',arr',e1,e2⟩
     ·cases e1
     ·cases e1
      have hq:q=id:=by
       have e3:MC (F:=F) t arr q=MC t arr id:=by rw[← h4];exact Option.some.inj e2
       unfold MC at e3
       cases hmp:t.KX<;>rw[hmp]at e3<;>cases arr<;>simpa using e3
      subst hq
      refine⟨[],[(q,pl)],by unfold mz;rw[hs];exact⟨pl,_,rfl,⟨pl,rfl,rfl,h6,h7⟩,rfl,rfl⟩,?_,?_,?_,λid hid=>by rw[h3]at hid;simp at hid,?_⟩
      ·intro q' hq;rw[I4]at hq;subst hq;exact⟨h5,x,_,hs⟩
      ·intro q' hq;rw[I4]at hq;subst hq;rw[h1];simp
      ·rw[h1];simp only[K7,LG,Kc,h5,Ta,I5,XI];exact .refl _
      ·intro id' Ld;rw[h1]at Ld;simp only[I4,K3]at Ld;subst Ld;exact⟨_,h8,fH⟩
   ·cases h
 ·rename_i hs;split at h
  ·cases h
  ·rename_i d hd;obtain⟨Jv,h1,h2,h3,h4,h5⟩:=qI hΓ hm (λ_ _ h=>h) h hi (hv x d hd)
   refine⟨p.os.map (Kc g),[],by unfold mz;rw[hs];exact⟨rfl,Jv,h1⟩,λq hq=>by simp at hq,λq hq=>by simp at hq,by simp[I5],h3,h4⟩
theorem Ea{α : Type}{a b c d:List α}{x y:List α}(h1:x.Perm (a++b))(h2:y.Perm (c++d)):(x++y).Perm ((a++c)++(b++d)):=by refine(h1.append h2).trans ?_;rw[MK,MK];refine QdX a ?_;rw[← MK,← MK];exact QfE d QcN
theorem u4{s0 s:TS F}(hΓ : Kz P Γ)(hm:Jl own g w (look s.M)){val:Nat→Value}(hv:∀x d,look s.E x=some d→J4 P g w d (val x)):∀{ks:Ks}{p:Pk (TLS F ks)},Pm Γ s0 s ks=some p→∀{I7:Nat→Prop},Pd g p.fz I7→
  ∃Jg sb,Ww P w I7 val s0 ks p.x Jg sb∧acD g s0 sb∧(∀q∈sb,some q.1∈p.os)∧(I5 (p.os.map (Kc g))).Perm (I5 (sb.map (·.2))++I5 Jg)∧NP (look s.M) p.fz∧(∀id,some id∈p.os→∃B,look s.M id=some B∧B.owned=true)
 | [],p,h,I7,hi=>by
  simp only[Pm,K3]at h;subst h
  exact⟨[],[],⟨rfl,rfl⟩,λq hq=>by simp at hq,by simp,by simp[I5],λid hid=>by simp at hid,by simp⟩
 | [k],p,h,I7,hi=>tP hΓ hm hv h hi
 | k::l::r,p,h,I7,hi=>by
  simp only[Pm]at h;split at h
  ·cases h
  ·rename_i p1 hp1;split at h
   ·cases h
   ·rename_i p2 hp2;cases h
    obtain⟨l1,b1,h1,h2,h3,h4,h5,h6⟩:=tP hΓ hm hv hp1 (hi.sub (λid hid=>by simp[hid]))
    obtain⟨l2,b2,k1,k2,k3,k4,k5,k6⟩:=u4 hΓ hm hv hp2 (hi.sub (λid hid=>by simp[hid]))
    refine⟨l1++l2,b1++b2,⟨l1,l2,b1,b2,rfl,rfl,h1,k1⟩,?_,?_,?_,h5.append k5,?_⟩
    ·intro q hq;rcases Mr.1 hq with hq | hq
     ·exact h2 q hq
     ·exact k2 q hq
    ·intro q hq;rcases Mr.1 hq with hq | hq
     ·exact WJ _ (h3 q hq)
     ·exact WK _ (k3 q hq)
    ·show(I5 ((p1.os++p2.os).map (Kc g))).Perm _;rw[SQ,av,av,SQ,av];exact Ea h4 k4
    ·intro id hid;rcases Mr.1 hid with hid | hid
     ·exact h6 id hid
     ·exact k6 id hid
theorem xU{s0:TS F}{x:Nat}{k:Kd}{y:k.El F}{v:Value}{Jg:List Pl}{sb:List (Nat×Pl)}{c:Nat}(h:mz P w g.I7 (dH k (look s0.E x)) k y v Jg sb)(hn:MG g c Jg)(hsb:∀q∈sb,g.ids q.1=some q.2) :
  J4 P g w (NW s0.E x k y c).1 v∧Oo g w c Jg.length (sb.map (·.1)) (NW s0.E x k y c).2.1∧(NW s0.E x k y c).2.2=c+Jg.length:=by
 unfold NW;unfold mz at h
 cases hs:dH k (look s0.E x)with
 | none=>rw[hs]at h;dsimp only at h ⊢;obtain⟨rfl,Jv,h⟩:=h;obtain⟨h1,h2,h3⟩:=cg (c:=c) h hn;exact⟨h1,h2.back,h3⟩
 | some id=>
  rw[hs]at h;dsimp only at h ⊢;rcases ep hs with⟨t,ow,rfl,_⟩ | ⟨t,arr,rfl,_⟩
  ·obtain⟨bx,v',rfl,⟨bx',rest,e1,e2,hv',hB⟩,_,has⟩:=h;cases e1;cases e2
   have hid:=hsb (id,some (RU bx')) (by simp)
   obtain⟨k1,k2⟩:=uC (c:=c) hB hid hn;exact⟨Fj hv' has hid,k1,k2⟩
  ·obtain⟨bx,v',rfl,⟨pl,e1,e2,h1,h2⟩,_,has⟩:=h;cases e1;cases e2;cases has
   have hid:g.ids id=some bx:=hsb (id,bx) (by simp)
   refine⟨yr h1 hid h2,?_,rfl⟩;intro p hp;simp only[Uy,I4]at hp;subst hp
   exact⟨fH,nO h1 hid,.inr (by simp)⟩
theorem AL{s0:TS F}{val:Nat→Value}:∀{ks:Ks}{x:TLS F ks}{Jg:List Pl}{sb:List (Nat×Pl)} {c:Nat},Ww P w g.I7 val s0 ks x Jg sb→MG g c Jg→(∀q∈sb,g.ids q.1=some q.2)→
  (∀y d,look (KO s0.E ks x c).1 y=some d→J4 P g w d (val y))∧Oo g w c Jg.length (sb.map (·.1)) (KO s0.E ks x c).2.1∧(KO s0.E ks x c).2.2=c+Jg.length∧(∀y,y∉keysOf ks→look (KO s0.E ks x c).1 y=none)
 | [],x,Jg,sb,c,h,hn,hsb=>by
  obtain⟨rfl,rfl⟩:=h
  exact⟨λy d h=>by simp[KO,look]at h,λp hp=>by simp[KO]at hp,rfl,λ_ _=>rfl⟩
 | [k],x,Jg,sb,c,h,hn,hsb=>by
  obtain⟨h1,h2,h3⟩:=xU (c:=c) h hn hsb;simp only[KO];refine⟨?_,h2,h3,?_⟩
  ·intro y d hy;rw[ar]at hy;split at hy
   ·rename_i hb;have:=M_ hb;subst this;cases hy;exact h1
   ·simp[look]at hy
  ·intro y hy;rw[ar,aj]
   ·rfl
   ·rintro rfl;simp[keysOf]at hy
 | k::l::r,x,Jg,sb,c,h,hn,hsb=>by
  obtain⟨p1,p2,b1,b2,rfl,rfl,h,h'⟩:=h
  obtain⟨h1,h2,h3⟩:=xU (c:=c) h hn.left (λq hq=>hsb q (by simp[hq]))
  obtain⟨k1,k2,k3,k4⟩:=AL (c:=c+p1.length) h' hn.right (λq hq=>hsb q (by simp[hq]))
  simp only[KO];rw[h3]
  refine⟨?_,by rw[I3,SQ];exact h2.append k2,by rw[k3,I3];omega,?_⟩
  ·intro y d hy;rw[ar]at hy;split at hy
   ·rename_i hb;have:=M_ hb;subst this;cases hy;exact h1
   ·exact k1 y d hy
  ·intro y hy
   rw[ar,aj (λe=>hy (by simp[keysOf,e]))]
   exact k4 y (λh=>hy (by simp only[keysOf,K7,Lr]at h ⊢;exact .inr h))
theorem ml{c0:Nat}{kill l:List Nat}(h:Ov c0 kill l=true){id:Nat}(hi:id∈l):c0≤id∨id∈kill:=by have:=Oe.1 h id hi;simp only[PE]at this;exact this.imp (λh=>P9 h) aK.1
def G.cut(g:G)(c0:Nat)(Jg:List Pl)(I:Nat→Prop):G:=⟨λx=>if x<c0 then g.ids x else if x<c0+Jg.length then Jg[x - c0]? else none,I,g.len⟩
theorem vB{c0:Nat}{Jg:List Pl}{I:Nat→Prop}{x:Nat}(h:x<c0):(g.cut c0 Jg I).ids x=g.ids x:=by simp only[G.cut];rw[if_pos h]
theorem H9{c0:Nat}{Jg:List Pl}{I:Nat→Prop}:MG (g.cut c0 Jg I) c0 Jg:=by
 intro j pl hj;have hlt:=(I0.1 hj).1;simp only[G.cut]
 rw[if_neg (by omega),if_pos (by omega),W9]
 exact hj
theorem zy{s:TS F}{dr kill:List Nat}{ks:Ks}{x:TLS F ks}(hk:∀y∈keysOf ks,y∈dr)(hks:∀y,y∉keysOf ks→look (KO s.E ks x s.c).1 y=none)(hb:∀q∈(KO s.E ks x s.c).2.1,s.c≤q.1∨q.1∈kill)(hc:s.c≤(KO s.E ks x s.c).2.2):Fr nv s (merge nv dr kill s ks x):=by
 refine⟨?_,?_,hc,λy hy=>WK _ hy,λy hy=>WK _ hy⟩
 ·intro y hy hn;have hnd:y∉dr:=λh=>hn (WJ _ h);show look ((KO s.E ks x s.c).1++s.E.filter λp=>Nat.blt p.1 nv&&!(Jw p.1 dr)) y=_;rw[aZ,hks y (λh=>hnd (hk y h)),TD,aI (λy=>Nat.blt y nv&&!(Jw y dr)),if_pos];rw[M4.mpr hy]
  cases hm:Jw y dr with
  | true=>exact absurd (aK.1 hm) hnd
  | false=>rfl
 ·intro id hid hn;have hnd:id∉kill:=λh=>hn (WJ _ h);show look ((KO s.E ks x s.c).2.1++s.M.filter λp=>!(Jw p.1 kill)) id=_
  have hnone:∀{l:List (Nat×J8 F)},(∀q∈l,s.c≤q.1∨q.1∈kill)→look l id=none:=by
   intro l
   induction l with
   | nil=>intro _;rfl
   | cons q l ih=>
    intro h;obtain⟨y,C⟩:=q
    have hne:y≠id:=by
     rintro rfl
     rcases h (y,C) (by simp)with h | h
     ·simp only at h;omega
     ·exact hnd h
    rw[ar,aj hne]
    exact ih (λq hq=>h q (by simp[hq]))
  rw[aZ,hnone hb,TD,aI (λy=>!(Jw y kill)),if_pos]
  cases hm:Jw id kill with
  | true=>exact absurd (aK.1 hm) hnd
  | false=>rfl
theorem uW(hΓ : Kz P Γ){s z:TS F}{gs:G}{as:Act}{ws W1:World}(hs:Good P own W1 n s.st gs as ws)(hz:Good P own W0 n z.st g a w){dr kill:List Nat}
  (he:∀x,x<nv→x∉dr→look z.E x=look s.E x) (hm:∀id,id<s.c→id∉kill→look z.M id=look s.M id) {ks:Ks} {p:Pk (TLS F ks)} (hp:Pm Γ s z ks=some p)
  (hnd:cv (Km p.os)=true) (hdj:NI (Km p.os) p.fz=true) (ho:Ov s.c kill (Km p.os)=true) (hf:Ov s.c kill p.fz=true) :
  (∃g',Good P own W0 n (merge nv dr kill s ks p.x).st g' a w)∧((∀y∈keysOf ks,y∈dr)→Fr nv s (merge nv dr kill s ks p.x)∧Fr nv (clean s) (merge nv dr kill (clean s) ks p.x))∧
  (∀q∈(KO s.E ks p.x s.c).2.1,s.c≤q.1∨q.1∈kill)∧(∀y,y∉keysOf ks→look (KO s.E ks p.x s.c).1 y=none)∧s.c≤(KO s.E ks p.x s.c).2.2:=by
 have hfz:Pd g p.fz (g.Nq p.fz).I7:=⟨λ_ h=>.inl h,λid hid b hb=>.inr ⟨id,hid,hb⟩⟩;obtain⟨Jg,sb,h1,hsb,Z_,hperm,h2,h3⟩:=u4 (s0:=s) (val:=λx=>a.tmps.getD x undef) hΓ hz.mem hz.env hp hfz;have hfr:=freeze hz.mem (λ_ _ h=>h) h2
 have Nl:∀{id:Nat},gs.ids id≠none→id<s.c:=by
  intro id hid;apply Nat.lt_of_not_le;intro hle
  exact hid (hs.dom id (by simp only[TS.st,br,decide_eq_false_iff_not];omega))
 let g':G:=g.cut s.c Jg (g.Nq p.fz).I7
 have Lv:∀id,gs.ids id≠none→g'.ids id=g.ids id:=λid hid=>vB (Nl hid);have Kl:∀b,g.I7 b→g'.I7 b:=λb hb=>.inl hb
 have anL:∀q∈sb,q.1<s.c:=by
  intro q hq;obtain⟨_,x,k,hx⟩:=hsb q hq;rcases ep hx with⟨t,ow,_,hx⟩ | ⟨t,arr,_,hx⟩
  ·obtain⟨_,_,⟨b,c,hi⟩,_⟩:=AR (hs.env x _ hx)
   exact Nl (by rw[hi];simp)
  ·obtain⟨⟨pl,hi⟩,_⟩:=wH (t:=t) (hs.env x _ hx)
   exact Nl (by rw[hi];simp)
 have ab9:∀q∈sb,g'.ids q.1=some q.2:=λq hq=>(vB (anL q hq)).trans (hsb q hq).1;obtain⟨k1,k2,k3,k4⟩:=AL (g:=g') (c:=s.c) h1 H9 ab9
 have hpl:∀{b:Nat},b∈I5 (sb.map (·.2))++I5 Jg→∃id B,id∈Km p.os∧look z.M id=some B∧B.owned=true∧g.blk id b:=by intro b hb;obtain⟨id,q1,q2⟩:=bC.1 (hperm.mem_iff.2 hb);obtain⟨B,q3,q4⟩:=h3 id q1;exact⟨id,B,dn.2 q1,q3,q4,q2⟩
 have aci:(I5 (sb.map (·.2))++I5 Jg).Nodup:=hperm.nodup_iff.1 (fg hz.mem (eC hnd) h3);have anO:(I5 Jg).Nodup:=(WI.1 aci).2.1
 have acd:∀{b:Nat},b∈I5 (sb.map (·.2))++I5 Jg→own.o b∧¬ (g.Nq p.fz).I7 b:=by
  intro b hb;obtain⟨id,B,q1,q2,q3,q4⟩:=hpl hb;refine⟨(hz.mem.own id B b q2 q3 q4).1,?_⟩;have hno:id∉p.fz:=jN hdj id q1
  exact(hfr.own id B b (by rw[gb,if_neg hno];exact q2) q3 q4).2
 have hmem:∀{id:Nat}{B:J8 F},look ((KO s.E ks p.x s.c).2.1++s.M.filter λq=>!(Jw q.1 kill)) id=some B→
   (KQ g' w id B∧s.c≤id∧∀b,g'.blk id b→∃b0 q,Jg[id - s.c]? = some (some (b0,q))∧b∈b0::Kr q.2.2)∨
   (KQ g' w id B∧∃bx,(id,bx)∈sb∧∀b,g'.blk id b→∃b0 q,bx=some (b0,q)∧b∈b0::Kr q.2.2)∨
   (id<s.c∧id∉kill∧look z.M id=some B∧KQ g' w id B∧∀b,g'.blk id b→g.blk id b):=by
  intro id B hB;rw[aZ]at hB
  cases hl:look (KO s.E ks p.x s.c).2.1 id with
  | some B'=>
   rw[hl]at hB;cases hB
   have hin:∀{l:List (Nat×J8 F)} {B:J8 F},look l id=some B→(id,B)∈l:=by
    intro l
    induction l with
    | nil=>intro B h;simp[look]at h
    | cons q l ih=>
     intro B h;obtain⟨y,C⟩:=q;rw[ar]at h;split at h
     ·rename_i hb;have:=M_ hb;subst this;cases h;simp
     ·exact PG _ (ih h)
   obtain⟨q3,q4,⟨j,q1,q2⟩ | q1⟩:=k2 _ (hin hl)
   ·simp only at q1 q4
    refine .inl ⟨q4,by omega,?_⟩
    rintro b ⟨b0,q,hq,hbb⟩;refine⟨b0,q,?_,hbb⟩
    have:¬ id<s.c:=by omega
    simp only[g',G.cut]at hq
    rw[if_neg this,if_pos (by omega)]at hq
    exact hq
   ·simp only at q1 q4;obtain⟨⟨i,bx⟩,r1,r2⟩:=Oz.1 q1;simp only at r2;subst r2;refine .inr (.inl ⟨q4,bx,r1,?_⟩);rintro b ⟨b0,q,hq,hbb⟩;rw[ab9 _ r1]at hq;cases hq;exact⟨_,_,rfl,hbb⟩
  | none=>
   rw[hl,TD]at hB;rw[aI (λy=>!(Jw y kill))]at hB;split at hB
   ·rename_i hk
    have hk':id∉kill:=λh=>by rw[aK.2 h]at hk;simp at hk
    have hok:=hs.mem.ok id B hB;have hlt:id<s.c:=Nl hok.named
    have hzB:look z.M id=some B:=by rw[hm id hlt hk'];exact hB
    refine .inr (.inr ⟨hlt,hk',hzB,(hz.mem.ok id B hzB).ren Lv Kl (λ_ h=>h) hok.named hok.inn hok.ab6,?_⟩);rintro b ⟨b0,q,hq,hbb⟩
    exact⟨b0,q,by rw[← vB (g:=g) (Jg:=Jg) (I:=(g.Nq p.fz).I7) hlt];exact hq,hbb⟩
   ·cases hB
 have hkept:∀{id:Nat}{B:J8 F}{b:Nat},id<s.c→id∉kill→look z.M id=some B→B.owned=true→g.blk id b→b∉I5 (sb.map (·.2))++I5 Jg∧¬ (g.Nq p.fz).I7 b:=by
  intro id B b q1 q2 q3 q4 q5;refine⟨λhb=>?_,?_⟩
  ·obtain⟨id',B',r1,r2,r3,r4⟩:=hpl hb;have:=hz.mem.OB id id' B B' b q3 r2 q4 r3 q5 r4;subst this;rcases ml ho r1 with h | h
   ·omega
   ·exact q2 h
  ·have hno:id∉p.fz:=λh=>by
    rcases ml hf h with h | h
    ·omega
    ·exact q2 h
   exact(hfr.own id B b (by rw[gb,if_neg hno];exact q3) q4 q5).2
 have Ms:∀{id b b0:Nat}{q:Nat×Nat×NS},(id,some (b0,q))∈sb→b∈b0::Kr q.2.2→b∈I5 (sb.map (·.2))++I5 Jg:=λh hb=>WJ _ (qO (Oz.2 ⟨_,h,rfl⟩) hb);have inP:∀{j b b0:Nat}{q:Nat×Nat×NS},Jg[j]? = some (some (b0,q))→b∈b0::Kr q.2.2→b∈I5 (sb.map (·.2))++I5 Jg:=λh hb=>WK _ (bQ.2 ⟨_,_,_,h,hb⟩)
 have apart:∀{id j b b1:Nat}{bx:Pl}{q:Nat×Nat×NS},(id,bx)∈sb→(∃b0 q,bx=some (b0,q)∧b∈b0::Kr q.2.2)→Jg[j]? = some (some (b1,q))→b∈b1::Kr q.2.2→False:=by rintro id j b b1 bx q h ⟨b0,q',rfl,hb⟩ h' hb';exact(WI.1 aci).2.2 b (qO (Oz.2 ⟨_,h,rfl⟩) hb) b (bQ.2 ⟨_,_,_,h',hb'⟩) rfl
 have hb:∀q∈(KO s.E ks p.x s.c).2.1,s.c≤q.1∨q.1∈kill:=λq hq=>by
  obtain⟨_,_,⟨j,q1,_⟩ | q1⟩:=k2 q hq
  ·exact .inl (by omega)
  ·obtain⟨⟨i,bx⟩,r1,r2⟩:=Oz.1 q1;simp only at r2;rw[← r2];rcases ml ho (dn.2 (Z_ _ r1))with h | h
   ·exact .inl h
   ·exact .inr h
 refine⟨⟨g',hz.Py,hz.OP,?_,⟨?_,?_,?_,hfr.I7,hfr.io,hz.mem.len⟩,?_,λb hb=>.inl (hz.O5 b hb),hz.Lc,λid q h=>(vB (Nl (by rw[hs.N8 id q h];simp))).trans (hz.N8 id q h)⟩,λhk=>?_,hb,k4,by rw[k3];omega⟩
 ·intro x d hx;simp only[TS.st,merge]at hx;rw[aZ]at hx
  cases hl:look (KO s.E ks p.x s.c).1 x with
  | some d'=>rw[hl]at hx;cases hx;exact k1 x d hl
  | none=>
   rw[hl,TD,aI (λy=>Nat.blt y nv&&!(Jw y dr))]at hx;split at hx
   ·rename_i hc;simp only[KV,Rp]at hc;have hlt:x<nv:=M4.mp hc.1
    have hnd:x∉dr:=λh=>by rw[aK.2 h]at hc;simp at hc
    have hzx:look z.E x=some d:=by rw[he x hlt hnd];exact hx
    exact(hz.env x d hzx).ren Lv Kl (λ_ h=>h) (hs.env x d hx).inn
   ·cases hx
 ·intro id B hB
  rcases hmem hB with⟨q,_⟩ | ⟨q,_⟩ | ⟨_,_,_,q,_⟩<;>exact q
 ·intro id id' B B' b hB hB' ob MQ hb hb';rcases hmem hB with⟨_,q1,q2⟩ | ⟨_,bx,q1,q2⟩ | ⟨q1,q2,q3,_,q4⟩
  ·obtain⟨x0,x,q3,q5⟩:=q2 b hb;rcases hmem hB' with⟨_,r1,r2⟩ | ⟨_,bx',r1,r2⟩ | ⟨r1,r2,r3,_,r4⟩
   ·obtain⟨y0,y,r3,r5⟩:=r2 b hb';have:=iM anO q3 q5 r3 r5;omega
   ·exact(apart r1 (r2 b hb') q3 q5).elim
   ·exact absurd (inP q3 q5) (hkept r1 r2 r3 MQ (r4 b hb')).1
  ·have e1:=q2 b hb;rcases hmem hB' with⟨_,r1,r2⟩ | ⟨_,bx',r1,r2⟩ | ⟨r1,r2,r3,_,r4⟩
   ·obtain⟨y0,y,r3,r5⟩:=r2 b hb';exact(apart q1 e1 r3 r5).elim
   ·have e2:=r2 b hb';obtain⟨B1,s1,s2⟩:=h3 id (Z_ _ q1);obtain⟨B2,t1,t2⟩:=h3 id' (Z_ _ r1);obtain⟨x0,x1,rfl,x2⟩:=e1;obtain⟨y0,y1,rfl,y2⟩:=e2;exact hz.mem.OB id id' B1 B2 b s1 t1 s2 t2 ⟨x0,x1,(hsb _ q1).1,x2⟩ ⟨y0,y1,(hsb _ r1).1,y2⟩
   ·obtain⟨x0,x1,rfl,x2⟩:=e1;have:=Ms q1 x2;exact absurd this (hkept r1 r2 r3 MQ (r4 b hb')).1
  ·rcases hmem hB' with⟨_,r1,r2⟩ | ⟨_,bx',r1,r2⟩ | ⟨r1,r2,r3,_,r4⟩
   ·obtain⟨y0,y,r3,r5⟩:=r2 b hb';exact absurd (inP r3 r5) (hkept q1 q2 q3 ob (q4 b hb)).1
   ·obtain⟨x0,x1,rfl,x2⟩:=r2 b hb';have:=Ms r1 x2;exact absurd this (hkept q1 q2 q3 ob (q4 b hb)).1
   ·exact hz.mem.OB id id' B B' b q3 r3 ob MQ (q4 b hb) (r4 b hb')
 ·intro id B b hB ob hb;rcases hmem hB with⟨_,q1,q2⟩ | ⟨_,bx,q1,q2⟩ | ⟨q1,q2,q3,_,q4⟩
  ·obtain⟨x0,x,q3,q5⟩:=q2 b hb;exact acd (inP q3 q5)
  ·obtain⟨x0,x1,rfl,x2⟩:=q2 b hb;exact acd (Ms q1 x2)
  ·exact⟨(hz.mem.own id B b q3 ob (q4 b hb)).1,(hkept q1 q2 q3 ob (q4 b hb)).2⟩
 ·intro id hid;simp only[TS.st,merge,br,decide_eq_false_iff_not]at hid;rw[k3]at hid;simp only[g',G.cut]
  rw[if_neg (by omega),if_neg (by omega)]
 ·exact⟨zy hk k4 hb (by rw[k3];omega),zy (s:=clean s) hk k4 hb (by show s.c≤(KO s.E ks p.x s.c).2.2;rw[k3];omega)⟩
end
set_option linter.unusedVariables false
set_option linter.unusedSimpArgs false
section
variable{F:Fam}{P:Program}{own:Ow}{W0:World}{n nv:Nat}
theorem sy{s z:TS F}{gs g:G}{a0 a:Act}{w0 w:World}(hs:Good P own W0 n s.st gs a0 w0)(hz:Good P own W0 n z.st g a w){id ix kk:Nat}{dr:List Nat}{B B':J8 F}{len:Nat}{nn:Int}(hid:id<s.c)
  (he:∀y,y<nv→y∉ix::dr→look z.E y=look s.E y) (hi:look z.E ix=some (.c (.im (.i .i64 nn)))) (hm:∀y,y<s.c→y≠id→look z.M y=look s.M y)
  (hB:look z.M kk=some B) (hBo:B.owned=true) (hkk:kk=id∨s.c≤kk) (hsame:Lh len (g.ids id) (g.ids kk)) (hB':∀g2:G,g2.ids s.c=g.ids kk→g2.I7=g.I7→KQ g2 w s.c B') (hBo':B'.owned=true) :
  ∃g2,Good P own W0 n (LY nv s id ix dr B' len nn).st g2 a w:=by
 have Nl:∀{y:Nat},gs.ids y≠none→y<s.c:=by
  intro y hy;by_cases h:y<s.c
  ·exact h
  ·exact absurd (hs.dom y (by simp only[TS.st,br];simpa using h)) hy
 obtain⟨g2,hg2⟩:∃g2:G,g2=⟨λy=>if y=s.c then g.ids kk else if y<s.c then g.ids y else none,g.I7,g.len⟩:=⟨_,rfl⟩
 have h2c:g2.ids s.c=g.ids kk:=by rw[hg2];simp
 have h2l:∀y,y<s.c→g2.ids y=g.ids y:=λy hy=>by rw[hg2];simp only;rw[if_neg (by omega),if_pos hy]
 have h2g:∀y,s.c<y→g2.ids y=none:=λy hy=>by rw[hg2];simp only;rw[if_neg (by omega),if_neg (by omega)]
 have h2i:g2.I7=g.I7:=by rw[hg2]
 have Zf:g2.len=g.len:=by rw[hg2]
 have Lv:∀y,gs.ids y≠none→g2.ids y=g.ids y:=λy hy=>h2l y (Nl hy)
 have Kl:∀b,g.I7 b→g2.I7 b:=λb h=>by rw[h2i];exact h
 have hlen:∀b,g.len b→g2.len b:=λb h=>by rw[Zf];exact h
 have hcase:∀y B0,look (LY nv s id ix dr B' len nn).M y=some B0→(y=id∧B0 = .MJ s.c len)∨(y=s.c∧B0=B')∨(y<s.c∧y≠id∧look s.M y=some B0∧look z.M y=some B0):=by
  intro y B0 h;simp only[LY]at h;rw[ar]at h;by_cases h1:id=y
  ·subst h1;rw[if_pos (WU _)]at h;cases h;exact .inl ⟨rfl,rfl⟩
  ·have hb1:Nat.beq id y=false:=aj h1
   rw[if_neg (by rw[hb1];simp),ar]at h
   by_cases h2:s.c=y
   ·subst h2;rw[if_pos (WU _)]at h;cases h;exact .inr (.inl ⟨rfl,rfl⟩)
   ·have hb2:Nat.beq s.c y=false:=aj h2
    rw[if_neg (by rw[hb2];simp),aI (λy=>!(Nat.beq id y))]at h
    rw[if_pos (by rw[hb1];rfl)]at h
    have hlt:y<s.c:=Nl (hs.mem.ok y B0 h).named
    exact .inr (.inr ⟨hlt,λe=>h1 e.symm,h,by rw[hm y hlt (λe=>h1 e.symm)];exact h⟩)
 have hback:∀y B0,look (LY nv s id ix dr B' len nn).M y=some B0→B0.owned=true→∀b,g2.blk y b→∃y' B1,look z.M y'=some B1∧B1.owned=true∧g.blk y' b∧((y=s.c∧y'=kk)∨(y<s.c∧y≠id∧y'=y)):=by
  intro y B0 h ho b hb;rcases hcase y B0 h with⟨_,rfl⟩ | ⟨rfl,rfl⟩ | ⟨h1,h2,h3,h4⟩
  ·cases ho
  ·obtain⟨b0,c,k1,k2⟩:=hb;rw[h2c]at k1;exact⟨kk,B,hB,hBo,⟨b0,c,k1,k2⟩,.inl ⟨rfl,rfl⟩⟩
  ·obtain⟨b0,c,k1,k2⟩:=hb;rw[h2l y h1]at k1;exact⟨y,B0,h4,ho,⟨b0,c,k1,k2⟩,.inr ⟨h1,h2,rfl⟩⟩
 refine⟨g2,hz.Py,hz.OP,?_,⟨?_,?_,?_,λb hb=>hz.mem.I7 b (by rw[← h2i];exact hb),λb hb=>hz.mem.io b (by rw[← h2i];exact hb),λb hb=>hz.mem.len b (by rw[← Zf];exact hb)⟩,?_,λb hb=>Kl b (hz.O5 b hb),hz.Lc,?_⟩
 ·intro x d hx;have hx:look ((ix,.c (.im (.i .i64 nn)))::s.E.filter (λp=>Nat.blt p.1 nv&&!(Jw p.1 (ix::dr)))) x=some d:=hx;rw[ar]at hx;by_cases h1:ix=x
  ·subst h1;rw[if_pos (WU _)]at hx;cases hx;have:=hz.env ix _ hi
   cases this with
   | c h=>cases h with
    | im h=>exact .c (.im (by rw[h2i];exact h))
  ·have hb1:Nat.beq ix x=false:=aj h1
   rw[if_neg (by rw[hb1];simp),aI (λy=>Nat.blt y nv&&!(Jw y (ix::dr)))]at hx
   split at hx
   ·rename_i hc;simp only[KV,br,decide_eq_true_eq,Rp]at hc
    have hn:x∉ix::dr:=λh=>by rw[aK.2 h]at hc;cases hc.2
    have hzx:look z.E x=some d:=by rw[he x hc.1 hn];exact hx
    exact(hz.env x d hzx).ren Lv Kl hlen (hs.env x d hx).inn
   ·cases hx
 ·intro y B0 h;rcases hcase y B0 h with⟨rfl,rfl⟩ | ⟨rfl,rfl⟩ | ⟨h1,h2,h3,h4⟩
  ·show Lh len (g2.ids y) (g2.ids s.c);rw[h2l y hid,h2c];exact hsame
  ·exact hB' g2 h2c h2i
  ·have hok:=hs.mem.ok y B0 h3;exact(hz.mem.ok y B0 h4).ren Lv Kl hlen hok.named hok.inn hok.ab6
 ·intro y y' B0 B1 b h h' ho ho' hb hb';obtain⟨q,C,k1,k2,k3,k4⟩:=hback y B0 h ho b hb;obtain⟨q',C',l1,l2,l3,l4⟩:=hback y' B1 h' ho' b hb';have:=hz.mem.OB q q' C C' b k1 l1 k2 l2 k3 l3;omega
 ·intro y B0 b h ho hb;obtain⟨q,C,k1,k2,k3,k4⟩:=hback y B0 h ho b hb;have:=hz.mem.own q C b k1 k2 k3
  exact⟨this.1,by rw[h2i];exact this.2⟩
 ·intro y hy;have hy:Nat.blt y (s.c+1)=false:=hy;rw[br]at hy
  have hy':¬ y<s.c+1:=by simpa using hy
  exact h2g y (by omega)
 ·intro y p hp;have h1:=hs.N8 y p hp
  rw[h2l y (Nl (by rw[h1];simp))]
  exact hz.N8 y p hp
theorem Lh.len{w:World}{t:Ty}{l:List (ET F t)}{C:Nat→ND F→Value→Option (Nat×Nat×Nat)→Prop}{x:Nat}{p q:Option Pl}(h:Lh x p q)(hq:∃pl,q=some pl∧Nk w t l C pl):Lh l.length p q:=by
 obtain⟨pl,h1,h2⟩:=hq;rcases h with⟨b,c,n,n',k1,k2,k3,k4⟩ | ⟨k1,k2,k3⟩
 ·rw[k2]at h1;cases h1;exact .inl ⟨b,c,n,n',k1,k2,k3,k3.symm.trans h2.1⟩
 ·rw[k2]at h1;cases h1;have:l = []:=h2;subst this;exact .inr ⟨k1,k2,rfl⟩
theorem D1{m:Nat→Option (J8 F)}{g:G}{w:World}(hm:Jl own g w m){id c:Nat}{t:Ty}{l:List (ET F t)}(hB:m id=some (.row t l))(hf:g.ids c=none) :
  ∃g',Jl own g' w (Ki m [(id,none),(c,some (.La t l 0)),(id,some (.MJ c l.length))])∧Stp m g w g' w∧∀y,y≠c→g'.ids y=g.ids y:=by
 have hnb:∀k:Nat,Kr (List.replicate k (none:Option (Nat×Nat×Nat))) = []:=by
  intro k
  induction k with
  | zero=>rfl
  | succ k ih=>rw[List.replicate_succ];exact ih
 obtain⟨pl,P6,hid,hO,hbl,hSm⟩:∃pl P6,g.ids id=some pl∧Nk w t l (RD w g.I7 (Jm F t) 0) P6∧(∀b0 c',P6=some (b0,c')→∀b∈b0::Kr c'.2.2,∃c2,pl=some (b,c2))∧Lh l.length (some pl) (some P6):=by
  rcases hm.ok id _ hB with⟨k1,k2⟩ | ⟨b,cap,cur,e,k1,k2,k3,k4,k5,k6⟩
  ·exact⟨none,none,k1,k2,λ_ _ h=>by simp at h,.inr ⟨rfl,rfl,by rw[k2];rfl⟩⟩
  ·refine⟨_,some (b,cap,l.length,List.replicate (cells F t l).length none),k1,⟨rfl,k3,k4,by simp,by rw[hnb];simp,cur,e,k2,k5,λk d y p h1 h2 h3=>⟨λh=>by omega,λ_=>⟨?_,k6 k d y h1 h2⟩⟩⟩,?_,.inl ⟨b,cap,_,_,rfl,rfl,rfl,rfl⟩⟩
   ·dsimp only at h3;rw[List.getElem?_replicate]at h3;split at h3
    ·cases h3;rfl
    ·cases h3
   ·rintro b0 c' h b' hb';cases h;rw[hnb]at hb';rw[I4]at hb';subst hb';exact⟨_,rfl⟩
 obtain⟨k1,k2⟩:=gj (rm:=[id]) (id:=c) (pl:=P6) (B:=.La t l 0) (w':=w) hm hf
  (λb0 c' e b hb=>by
   obtain⟨c2,hc2⟩:=hbl b0 c' e b hb
   exact .inr ⟨id,by simp,_,hB,rfl,b,c2,by rw[hid,hc2],WY⟩) rfl rfl rfl (KC _) (KC _) (λ_ _ _=>rfl) (λg' hle hi=>⟨P6,hi,hO.Mv (λ_ _ _ _ _=>rfl) λk d y p hp hc=>hc.Mv hle.I7 hle.heap hp⟩)
 refine⟨g.name c P6,?_,k2,λy hy=>bE _ _ _ hy⟩
 have h2:=k1.MJ (id:=id) (k:=c) (n:=l.length) (by rw[k2.le.ids _ _ hid,a9];exact hSm)
 have e:([(id,none),(c,some (.La t l 0)),(id,some (.MJ c l.length))]:List (Nat×Option (J8 F)))=([id].map (λr=>(r,none))++[(c,some (.La t l 0))])++[(id,some (.MJ c l.length))]:=rfl;rw[e,dC];exact h2
theorem CD{g:G}{w:World}{id:Nat}{t:Ty}{l:List (ET F t)}{j:Nat}(h:KQ g w id (.La t l j))(hj:l.length≤j):KQ g w id (.KR t l):=by
 obtain⟨pl,h1,h2⟩:=h;refine⟨pl,h1,?_⟩
 cases pl with
 | none=>exact h2
 | some q=>obtain⟨b,cap,n⟩:=q;obtain⟨q1,q2,q3,q4,q5,cur,e,q6,q7,q8⟩:=h2;refine⟨q1,q2,q3,q4,q5,cur,e,q6,q7,λk d x p p1 p2 p3=>(q8 k d x p p1 p2 p3).1 ?_⟩;have hk:k<(cells F t l).length:=(I0.1 p1).1;rw[dL]at hk;have:l.length*Jm F t≤j*Jm F t:=M5 _ hj;omega
end
set_option linter.unusedVariables false
set_option linter.unusedSimpArgs false
def exC:Nat→Exit
 | 0=>.normal
 | 1=>.ret
 | i+2=>.exit i
section
variable{F:Fam}{P:Program}{T:TypeId→Option (TI F)}{Γ : Ctx F}{nv n:Nat}{own:Ow}{W0:World}
def U_(P:Program)(own:Ow)(W0:World)(n nv:Nat)(s:TS F){R:Type}(K:Nat→TS F→Option R)(r:R):Exit→Act→World→Prop:=
 λe a w=>∃k s' g',exC k=e∧K k s'=some r∧Fr nv s s'∧Good P own W0 n s'.st g' a w
theorem U_.back{s s1:TS F}(h:Fr nv s s1){R:Type}{K:Nat→TS F→Option R}{r:R}{e:Exit}{a:Act}{w:World}(k:U_ P own W0 n nv s1 K r e a w):U_ P own W0 n nv s K r e a w:=by obtain⟨i,s',g',h1,h2,h3,h4⟩:=k;exact⟨i,s',g',h1,h2,h.trans h3,h4⟩
def aY(P:Program)(own:Ow)(W0:World)(n nv:Nat)(c:Code)(run:TS F→{R:Type}→(Nat→TS F→Option R)→Option R):Prop:=
 ∀(s:TS F){R:Type}(K:Nat→TS F→Option R)(r:R),run s K=some r→∀(g:G)(a:Act)(w:World),Good P own W0 n s.st g a w→c.wp P (U_ P own W0 n nv s K r) a w
theorem DE{x y:Code}{f k:TS F→{R:Type}→(Nat→TS F→Option R)→Option R}(hx:aY P own W0 n nv x f)(hy:aY P own W0 n nv y k) :
  aY P own W0 n nv (x.seq y) (λs R K=>f s λe s'=>match e with | 0=>k s' K | e=>K e s'):=by
 intro s R K r h g a w hg;refine wp_seq (wp_mono (hx s _ r h g a w hg) ?_);rintro e a' w' ⟨i,s',g',rfl,h2,h3,h4⟩
 match i,h2 with
 | 0,h2=>exact wp_mono (hy s' K r h2 g' a' w' h4) (λe a w hq=>hq.back h3)
 | 1,h2=>exact⟨1,s',g',rfl,h2,h3,h4⟩
 | i+2,h2=>exact⟨i+2,s',g',rfl,h2,h3,h4⟩
theorem AK{t:Nat}{x y:Code}{f k:TS F→{R:Type}→(Nat→TS F→Option R)→Option R}(hx:aY P own W0 n nv x f)(hy:aY P own W0 n nv y k) :
  aY P own W0 n nv (.cond (.tmp t) x y) (λs R K=>match look s.E t with
  | some (.c (.im (.b b)))=>cond b (f s K) (k s K)
  | _=>none):=by
 intro s R K r h g a w hg;dsimp only at h;split at h
 ·rename_i b hb;refine wp_cond_split (nc (hg.env t _ hb)) (λe=>?_) (λe=>?_)
  ·subst e;exact hx s K r h g a w hg
  ·subst e;exact hy s K r h g a w hg
 ·cases h
theorem yE{b:Bool}{x y:Code}{f k:TS F→{R:Type}→(Nat→TS F→Option R)→Option R}(hx:aY P own W0 n nv x f)(hy:aY P own W0 n nv y k) :
  aY P own W0 n nv (.cond (.const (.bool b)) x y) (λs R K=>cond b (f s K) (k s K)):=by
 intro s R K r h g a w hg;refine wp_cond_split (t:=b) rfl (λe=>?_) (λe=>?_)
 ·subst e;exact hx s K r h g a w hg
 ·subst e;exact hy s K r h g a w hg
theorem yj{i:Nat}{x:Code}{f:TS F→{R:Type}→(Nat→TS F→Option R)→Option R}(hx:aY P own W0 n nv x f) :
  aY P own W0 n nv (.block i x) (λs R K=>f s λe s'=>if Nat.beq e (i+2)then K 0 s' else K e s'):=by
 intro s R K r h g a w hg;refine wp_block (wp_mono (hx s _ r h g a w hg) ?_);rintro e a' w' ⟨j,s',g',rfl,h2,h3,h4⟩
 match j,h2 with
 | 0,h2=>exact⟨0,s',g',rfl,h2,h3,h4⟩
 | 1,h2=>exact⟨1,s',g',rfl,h2,h3,h4⟩
 | j+2,h2=>
  simp only at h2;show Exit.inBlock i _ (.exit j) a' w';simp only[Exit.inBlock];by_cases hij:j=i
  ·subst hij;rw[ba,if_pos rfl]at h2;rw[if_pos rfl];exact⟨0,s',g',rfl,h2,h3,h4⟩
  ·rw[aj (by omega)]at h2
   rw[if_neg hij];exact⟨j+2,s',g',rfl,h2,h3,h4⟩
theorem yo{x:Code}{f:TS F→{R:Type}→(Nat→TS F→Option R)→Option R}(hx:aY P own W0 n nv x f) :
  aY P own W0 n nv (.scope x) (λs R K=>f s K):=by
 intro s R K r h g a w hg;refine wp_scope_straight (wp_mono (hx s _ r h g a w hg) ?_);rintro e a' w' ⟨j,s',g',rfl,h2,h3,h4⟩
 match j,h2 with
 | 0,h2=>exact⟨0,s',g',rfl,h2,h3,h4⟩
 | 1,h2=>exact⟨1,s',g',rfl,h2,h3,h4⟩
 | j+2,h2=>exact⟨j+2,s',g',rfl,h2,h3,h4⟩
theorem xo(hT:J5 P T)(hΓ : Kz P Γ)(K5:P.follows .mixedOrders=true){id:Nat}{ops:Array Oper}{draw:Bool}{kp:List Nat} :
  aY P own W0 n nv (.region id ops draw) (λs R K=>OU T Γ nv n kp ops.toList draw s (K 0)):=by
 intro s R K r h g a w hg;refine Iu hT hΓ K5 h hg ?_;intro s' g' a' w' h1 h2 h3;exact⟨0,s',g',rfl,h1,h2,h3⟩
theorem CF{F:Fam}(Γ : Ctx F)(f:Nat):look (mark Γ) f=look Γ f:=by
 cases Γ with
 | nil=>rfl
 | cons a l=>
  simp only[mark,look]
  split<;>first | rfl | simp_all
theorem rU(hΓ : Kz P Γ){b:Bool}:Kz P (cond b (mark Γ) Γ):=by
 cases b with
 | false=>exact hΓ
 | true=>exactλf sp h=>hΓ f sp (by rw[← CF];exact h)
theorem z_{s:TS F}{g:G}{a:Act}{w:World}(hg:Good P own W0 n s.st g a w)(id:Nat):(∃g',Good P own W0 n (uP id s).st g' a w)∧Fr nv s (uP id s):=by
 unfold uP;split
 ·rename_i t l hB
  obtain⟨g',k1,k2,k3⟩:=DM (c:=s.c) hg.mem hB (hg.dom s.c (by simp only[TS.st,br];simp))
  refine⟨⟨g',hg.Py,hg.OP,λx d h=>(hg.env x d h).le k2.le,?_,λy hy=>?_,λb hb=>k2.le.I7 b (hg.O5 b hb),hg.Lc.stp hg.mem k2,λy p hp=>k2.le.ids _ _ (hg.N8 y p hp)⟩,?_⟩
  ·have e:(⟨s.E,NQ s.M [(id,none),(s.c,some (.KR t l)),(id,some (.MJ s.c l.length))],s.c+1,s.dE,id::s.c::s.dM⟩:TS F).st.m=Ki s.st.m [(id,none),(s.c,some (.KR t l)),(id,some (.MJ s.c l.length))]:=by
    funext x
    simp only[TS.st];rw[en]
   rw[e];exact k1
  ·have hy:Nat.blt y (s.c+1)=false:=hy;rw[br]at hy
   have hy':¬ y<s.c+1:=by simpa using hy
   rw[k3 y (by omega)]
   exact hg.dom y (by simp only[TS.st,br];simp;omega)
  ·refine⟨λ_ _ _=>rfl,λy hy hn=>?_,WT _,λ_ h=>h,λx hx=>by simp[hx]⟩
   show look (NQ s.M _) y=_;rw[en,cu];simp only[Lr,not_or]at hn;simp only[K7,LG,Lr,ZB,or_false,not_or];exact⟨hn.1,hn.2.1,hn.1⟩
 ·exact⟨⟨g,hg⟩,.refl _ _⟩
theorem BZ{s:TS F}{g:G}{a:Act}{w:World}(hg:Good P own W0 n s.st g a w)(x gs:Nat):Good P own W0 n (Ug x gs s).st g a w∧Fr nv s (Ug x gs s):=by
 unfold Ug;split
 ·rename_i fn y id hE;have hr:=hg.env x _ hE
  have hid:∃b c,g.ids id=some (some (b,c)):=by
   generalize a.tmps.getD x undef=v at hr
   cases hr with
   | NM h1 h2 h3 h4=>
    rename_i us
    match us,h2 with
    | [u0,u1],_=>obtain⟨b,c,q,_⟩:=bo (h4 1 _ u1 rfl rfl);exact⟨b,c,q⟩
  obtain⟨b,c,hid⟩:=hid;refine⟨⟨hg.Py,hg.OP,λz d h=>?_,hg.mem,hg.dom,hg.O5,hg.Lc,hg.N8⟩,λz hz hn=>?_,λ_ _ _=>rfl,KC _,λz hz=>PG _ hz,λ_ h=>h⟩
  ·have h:look ((gs,.gh id)::s.E) z=some d:=h;simp only[look]at h;split at h
   ·cases h;exact .gh hid
   ·exact hg.env z d h
  ·show look ((gs,.gh id)::s.E) z=_;simp only[look];split
   ·rename_i e;have:gs=z:=M_ e;subst this;exact absurd WY hn
   ·rfl
 ·exact⟨hg,.refl _ _⟩
theorem ja:∀(kp:List Nat){s:TS F}{g:G}{a:Act} {w:World},Good P own W0 n s.st g a w→(∃g',Good P own W0 n (jB kp s).st g' a w)∧Fr nv s (jB kp s)
 | [],s,g,a,w,hg=>⟨⟨g,hg⟩,.refl _ _⟩
 | x::r,s,g,a,w,hg=>by
  simp only[jB]
  cases Nat.ble 10000 x with
  | false=>exact ja r hg
  | true=>
   cases Nat.ble 1000000 x with
   | true=>obtain⟨h1,h2⟩:=BZ (nv:=nv) hg (x / 1000 - 1000) (x % 1000);obtain⟨h3,h4⟩:=ja r h1;exact⟨h3,h2.trans h4⟩
   | false=>obtain⟨⟨g1,h1⟩,h2⟩:=z_ (nv:=nv) hg (x - 10000);obtain⟨h3,h4⟩:=ja r h1;exact⟨h3,h2.trans h4⟩
theorem CH{c:Code}{f:TS F→{R:Type}→(Nat→TS F→Option R)→Option R}(hf:aY P own W0 n nv c f)(kp:List Nat):aY P own W0 n nv c (λs R K=>f (jB kp s) K):=by intro s R K r h g a w hg;obtain⟨⟨g',h1⟩,h2⟩:=ja (nv:=nv) kp hg;exact wp_mono (hf _ K r h g' a w h1) (λe a' w' hq=>hq.back h2)
theorem LZ(hT:J5 P T)(hΓ : Kz P Γ)(K5:P.follows .mixedOrders=true):∀(c:Code),aY P own W0 n nv c (KE T Γ nv n c)
 | .skip=>λs R K r h g a w hg=>wp_skip ⟨0,s,g,rfl,by simpa[KE]using h,.refl _ _,hg⟩
 | .exit i=>λs R K r h g a w hg=>wp_exit ⟨i+2,s,g,rfl,by simpa[KE]using h,.refl _ _,hg⟩
 | .ret=>λs R K r h g a w hg=>wp_ret ⟨1,s,g,rfl,by simpa[KE]using h,.refl _ _,hg⟩
 | .region id ops draw=>λs R K r h g a w hg=>xo (id:=id) (kp:=[]) hT hΓ K5 s K r (by simp only[KE]at h;exact h) g a w hg
 | .seq x y=>λs R K r h g a w hg=>DE (LZ hT hΓ K5 x) (LZ hT hΓ K5 y) s K r (by simp only[KE]at h;exact h) g a w hg
 | .cond (.tmp t) x y=>λs R K r h g a w hg=>AK (LZ hT hΓ K5 x) (LZ hT hΓ K5 y) s K r (by simp only[KE]at h;exact h) g a w hg
 | .cond (.const v) x y=>by
  cases v with
  | bool b=>exactλs R K r h g a w hg=>yE (LZ hT hΓ K5 x) (LZ hT hΓ K5 y) s K r (by simp only[KE]at h;exact h) g a w hg
  | _=>exactλs R K r h g a w hg=>by simp[KE]at h
 | .cond (.global _) x y=>λs R K r h g a w hg=>by simp[KE]at h
 | .cond (.func _) x y=>λs R K r h g a w hg=>by simp[KE]at h
 | .block i x=>λs R K r h g a w hg=>yj (LZ hT hΓ K5 x) s K r (by simp only[KE]at h;exact h) g a w hg
 | .loop x=>λs R K r h g a w hg=>by simp[KE]at h
 | .goto x=>λs R K r h g a w hg=>by simp[KE]at h
 | .label x=>λs R K r h g a w hg=>wp_label ⟨0,s,g,rfl,by simpa[KE]using h,.refl _ _,hg⟩
 | .rangeFunc _ _ _ _=>λs R K r h g a w hg=>by simp[KE]at h
 | .refuse _=>λs R K r h g a w hg=>by simp[KE]at h
 | .scope x=>λs R K r h g a w hg=>yo (LZ hT hΓ K5 x) s K r (by simp only[KE]at h;exact h) g a w hg
theorem zo{dr kill:List Nat}{c0:Nat}{ks:Ks}{s0 z:TS F}{v:TLS F ks}(h:LA Γ s0 dr c0 kill ks z=some v) :
  (∀x∈z.dE,x∈dr)∧Ov c0 kill z.dM=true∧∃p,Pm Γ s0 z ks=some p∧p.x=v∧cv (Km p.os)=true∧NI (Km p.os) p.fz=true∧Ov c0 kill (Km p.os)=true∧Ov c0 kill p.fz=true:=by
 unfold LA at h;obtain⟨h1,h⟩:=aL h;simp only[KV]at h1;split at h
 ·cases h
 ·rename_i p hp;obtain⟨h2,h⟩:=aL h;simp only[KV,and_assoc]at h2;cases h;exact⟨λx hx=>aK.1 (Oe.1 h1.1 x hx),h1.2,p,hp,rfl,h2⟩
theorem sM{dr kill:List Nat}{c0:Nat}{s0:TS F}:∀{xs:List (Nat×Ks)} {e:Nat} {z:TS F} {v:ExT F xs},Pg Γ s0 dr c0 kill xs e z=some v→
  ∃ks x,LA Γ s0 dr c0 kill ks z=some x∧(∀y∈keysOf ks,y∈MZ xs)∧∀{R:Type}(K:(e:Nat)→(ks:Ks)→TLS F ks→Option R),OM K xs v=K e ks x
 | [],e,z,v,h=>by cases h
 | [x],e,z,v,h=>by
  simp only[Pg]at h;obtain⟨h1,h⟩:=aL h;have:=M_ h1;subst this;rw[h1]at h
  exact⟨x.2,v,h,λy hy=>by simpa[MZ]using hy,λK=>rfl⟩
 | x::y::r,e,z,v,h=>by
  simp only[Pg]at h;split at h
  ·rename_i hb;have:=M_ hb;subst this;split at h
   ·rename_i v' hv';cases h
    exact⟨x.2,v',hv',λy hy=>by simp[MZ,hy],λK=>rfl⟩
   ·cases h
  ·split at h
   ·rename_i v' hv';cases h;obtain⟨ks,x',h1,h2,h3⟩:=sM hv'
    exact⟨ks,x',h1,λy hy=>by have:=h2 y hy;simp only[MZ,List.flatMap_cons,Mr]at this ⊢;exact .inr this,λK=>h3 K⟩
   ·cases h
theorem nf(hΓ : Kz P Γ){s z:TS F}{gs g:G}{as a:Act}{ws w W1:World}(hs:Good P own W1 n s.st gs as ws)(hz:Good P own W0 n z.st g a w){dr kill:List Nat}
  (hE:∀x,x<nv→x∉dr→x∉z.dE→look z.E x=look s.E x) (hM:∀id,id<s.c→id∉kill→id∉z.dM→look z.M id=look s.M id) {ks:Ks} (hk:∀y∈keysOf ks,y∈dr) {v:TLS F ks} (h:LA Γ s dr s.c kill ks z=some v) :
  (∃g',Good P own W0 n (merge nv dr kill s ks v).st g' a w)∧Fr nv s (merge nv dr kill s ks v)∧Fr nv (clean s) (merge nv dr kill (clean s) ks v):=by
 obtain⟨h1,h2,p,h3,rfl,h4,h5,h6,h7⟩:=zo h
 obtain⟨k1,k2,_⟩:=uW hΓ hs hz (dr:=dr) (kill:=kill) (λx hx hn=>hE x hx hn (λhd=>hn (h1 x hd))) (λid hi hn=>hM id hi hn (λhd=>by
  rcases ml h2 hd with h | h
  ·omega
  ·exact hn h)) h3 h4 h5 h6 h7
 exact⟨k1,k2 hk⟩
theorem vI(hΓ : Kz P Γ){s z:TS F}{gs g:G}{as a:Act}{ws w W1:World}(hs:Good P own W1 n s.st gs as ws)(hz:Good P own W0 n z.st g a w){dr kill:List Nat}
  (hE:∀x,x<nv→x∉dr→x∉z.dE→look z.E x=look s.E x) (hM:∀id,id<s.c→id∉kill→id∉z.dM→look z.M id=look s.M id) {ks:Ks} {v:TLS F ks} (h:LA Γ s dr s.c kill ks z=some v) :
  (∃g',Good P own W0 n (merge nv dr kill s ks v).st g' a w)∧(∀q∈(KO s.E ks v s.c).2.1,s.c≤q.1∨q.1∈kill)∧(∀y,y∉keysOf ks→look (KO s.E ks v s.c).1 y=none)∧s.c≤(KO s.E ks v s.c).2.2:=by
 obtain⟨h1,h2,p,h3,rfl,h4,h5,h6,h7⟩:=zo h
 obtain⟨k1,k2,k3,k4,k5⟩:=uW hΓ hs hz (dr:=dr) (kill:=kill) (λx hx hn=>hE x hx hn (λhd=>hn (h1 x hd))) (λid hi hn=>hM id hi hn (λhd=>by
  rcases ml h2 hd with h | h
  ·omega
  ·exact hn h)) h3 h4 h5 h6 h7
 exact⟨k1,k3,k4,k5⟩
theorem GY(hΓ : Kz P Γ){c:Code}{f:TS F→{R:Type}→(Nat→TS F→Option R)→Option R}(hf:aY P own W0 n nv c f){dr:List Nat}{xs:List (Nat×Ks)}(hx:∀y∈MZ xs,y∈dr) :
  aY P own W0 n nv c (λs R K=>(f (clean s) λe s'=>Pg Γ s dr s.c (aM s dr) xs e s').bind λv=>OM (λe ks x=>K e (merge nv dr (aM s dr) s ks x)) xs v):=by
 intro s R K r h g a w hg;rw[UW]at h;obtain⟨v,hv,he⟩:=h;refine wp_mono (hf (clean s) _ v hv g a w hg) ?_;rintro e a' w' ⟨i,s',g',rfl,h2,h3,h4⟩;obtain⟨ks,x,hp,hsub,hel⟩:=sM h2;rw[hel]at he;obtain⟨⟨g2,k1⟩,k2,_⟩:=nf hΓ hg h4 (λx hx _ hn=>h3.e x hx hn) (λid hi _ hn=>h3.m id hi hn) (λy hy=>hx y (hsub y hy)) hp;exact⟨i,_,g2,rfl,he,k2,k1⟩
def LW(P:Program)(c:Code)(Q:Exit→Act→World→Prop)(a:Act)(w:World):Prop:=
 ∀b tl cs,∃e a' w',Q e a' w'∧Arrives P (lone (b.at a (.code c::.inLoop c::tl)) cs w) b tl cs e a' w'
theorem LW.loop{c:Code}{Q:Exit→Act→World→Prop}{a:Act}{w:World}(h:LW P c Q a w):(Code.loop c).wp P Q a w:=by intro b tl cs;obtain⟨e,a',w',hq,harr⟩:=h b tl cs;exact⟨e,a',w',hq,.of_steps (.one step_loop) harr⟩
theorem LW.mono{c:Code}{Q Q':Exit→Act→World→Prop}{a:Act}{w:World}(h:LW P c Q a w)(hq:∀e a w,Q e a w→Q' e a w):LW P c Q' a w:=by intro b tl cs;obtain⟨e,a',w',h1,harr⟩:=h b tl cs;exact⟨e,a',w',hq _ _ _ h1,harr⟩
theorem LW.round{c:Code}{Q:Exit→Act→World→Prop}{a:Act}{w:World}(h:c.wp P (Exit.then (λa' w'=>LW P c Q a' w') Q) a w):LW P c Q a w:=by
 intro b tl cs;obtain⟨e,a₁,w₁,hq,harr⟩:=h b (.inLoop c::tl) cs
 cases e with
 | normal=>obtain⟨e₂,a₂,w₂,hq₂,harr₂⟩:=hq b tl cs;exact⟨e₂,a₂,w₂,hq₂,.of_steps (Steps.trans harr (.one step_inLoop)) harr₂⟩
 | exit id=>exact⟨_,a₁,w₁,hq,.pass (x:=.inLoop c) rfl (λ_ _=>.inl (by simp)) harr⟩
 | goto l=>exact⟨_,a₁,w₁,hq,.pass (x:=.inLoop c) rfl (λ_ _=>.inl (by simp)) harr⟩
 | ret=>exact⟨_,a₁,w₁,hq,.pass (x:=.inLoop c) rfl (λ_ _=>.inl (by simp)) harr⟩
 | panic ch=>exact⟨_,a₁,w₁,hq,.pass (x:=.inLoop c) rfl (λ_ _=>.inl (by simp)) harr⟩
 | outgrown=>exact⟨_,a₁,w₁,hq,.pass (x:=.inLoop c) rfl (λ_ _=>.inl (by simp)) harr⟩
theorem zG{c:Code}{Q:Exit→Act→World→Prop}(I:Nat→Act→World→Prop)(round:∀k a w,I k a w→c.wp P (Exit.then (λa' w'=>∃j,j<k∧I j a' w') Q) a w){k:Nat}{a:Act}{w:World}(h₀ : I k a w):LW P c Q a w:=by
 intro b tl cs
 have key:∀n a w,I n a w→∃e a' w',Q e a' w'∧Arrives P (lone (b.at a (.code c::.inLoop c::tl)) cs w) b tl cs e a' w':=by
  intro n
  induction n using Nat.strongRecOn with
  | _ n ih=>
   intro a w hI;obtain⟨e,a₁,w₁,hq,harr⟩:=round n a w hI b (.inLoop c::tl) cs
   cases e with
   | normal=>obtain⟨j,hlt,hI₁⟩:=hq;obtain⟨e₂,a₂,w₂,hq₂,harr₂⟩:=ih j hlt a₁ w₁ hI₁;exact⟨e₂,a₂,w₂,hq₂,.of_steps (Steps.trans harr (.one step_inLoop)) harr₂⟩
   | exit id=>exact⟨_,a₁,w₁,hq,.pass (x:=.inLoop c) rfl (λ_ _=>.inl (by simp)) harr⟩
   | goto l=>exact⟨_,a₁,w₁,hq,.pass (x:=.inLoop c) rfl (λ_ _=>.inl (by simp)) harr⟩
   | ret=>exact⟨_,a₁,w₁,hq,.pass (x:=.inLoop c) rfl (λ_ _=>.inl (by simp)) harr⟩
   | panic ch=>exact⟨_,a₁,w₁,hq,.pass (x:=.inLoop c) rfl (λ_ _=>.inl (by simp)) harr⟩
   | outgrown=>exact⟨_,a₁,w₁,hq,.pass (x:=.inLoop c) rfl (λ_ _=>.inl (by simp)) harr⟩
 exact key k a w h₀
theorem qY{c:Code}{Q:Exit→Act→World→Prop}(I:Nat→Act→World→Prop)(round:∀k a w,I k a w→c.wp P (Exit.then (λa' w'=>∃j,j<k∧I j a' w') Q) a w){k:Nat}{a:Act}{w:World}(h₀ : I k a w):(Code.loop c).wp P Q a w:=
 LW.loop (zG I round h₀)
def yz(P:Program)(own:Ow)(W0:World)(n nv:Nat)(c:Code)(f:TS F→{R:Type}→(Nat→TS F→Option R)→Option R):Prop:=
 ∀(s:TS F){R:Type}(K:Nat→TS F→Option R)(r:R),f s K=some r→∀(g:G)(a:Act)(w:World),Good P own W0 n s.st g a w→LW P c (U_ P own W0 n nv s K r) a w
theorem za(hΓ : Kz P Γ){c:Code}{f:TS F→{R:Type}→(Nat→TS F→Option R)→Option R}(hf:aY P own W0 n nv c f){dr:List Nat}{ks:Ks}{xs:List (Nat×Ks)}(hx:∀y∈MZ xs,y∈dr)(hk:∀y∈keysOf ks,y∈dr) :
  yz P own W0 n nv c (λs R K=>match LA Γ s dr s.c (aM s dr) ks (clean s)with
  | none=>none
  | some t0=>(loop (λt:TLS F ks=>f (clean (merge nv dr (aM s dr) s ks t)) λe s'=>match e with
    | 0=>(match LA Γ s dr s.c (aM s dr) ks s' with | some t'=>some (Sum.inl t') | none=>none)
    | e=>(match Pg Γ s dr s.c (aM s dr) xs e s' with | some v=>some (Sum.inr v) | none=>none)) t0).bind λv=>OM (λe ks x=>K e (merge nv dr (aM s dr) s ks x)) xs v):=by
 intro s R K r h g a w hg;dsimp only at h;split at h
 ·cases h
 ·rename_i t0 ht0;rw[UW]at h;obtain⟨v,hv,he⟩:=h
  generalize hstep:(λt:TLS F ks=>f (clean (merge nv dr (aM s dr) s ks t)) λe s'=>match e with
    | 0=>(match LA Γ s dr s.c (aM s dr) ks s' with | some t'=>some (Sum.inl t') | none=>none)
    | e=>(match Pg Γ s dr s.c (aM s dr) xs e s' with | some v=>some (Sum.inr v) | none=>none))=step at hv
  obtain⟨m,hm⟩:=pq hv;obtain⟨⟨g0,b1⟩,_,b3⟩:=nf hΓ hg (z:=clean s) hg (λ_ _ _ _=>rfl) (λ_ _ _ _=>rfl) hk ht0;refine zG (λm a w=>∃t,iter step m t=some v∧(∃g,Good P own W0 n (merge nv dr (aM s dr) s ks t).st g a w)∧Fr nv (clean s) (merge nv dr (aM s dr) (clean s) ks t)) ?_ (k:=m) ⟨t0,hm,⟨g0,b1⟩,b3⟩;rintro m a w ⟨t,hit,⟨g1,hg1⟩,hfr⟩
  cases m with
  | zero=>cases hit
  | succ m=>
   simp only[iter]at hit
   have hend:∀{z:TS F}{g':G}{a':Act}{w':World},Fr nv (clean (merge nv dr (aM s dr) s ks t)) z→Good P own W0 n z.st g' a' w'→∀{ks':Ks},(∀y∈keysOf ks',y∈dr)→∀{x:TLS F ks'},LA Γ s dr s.c (aM s dr) ks' z=some x→
     (∃g',Good P own W0 n (merge nv dr (aM s dr) s ks' x).st g' a' w')∧Fr nv s (merge nv dr (aM s dr) s ks' x)∧Fr nv (clean s) (merge nv dr (aM s dr) (clean s) ks' x):=by
    intro z g' a' w' hz hgz ks' hk' x hp;refine nf hΓ hg hgz (λy hy hn hd=>?_) (λid hi hn hd=>?_) hk' hp
    ·exact(hz.e y hy hd).trans (hfr.e y hy (by simpa[merge,clean]using hn))
    ·exact(hz.m id (O8 hi hfr.c) hd).trans (hfr.m id hi (by simpa[merge,clean]using hn))
   cases hst:step t with
   | none=>rw[hst]at hit;cases hit
   | some q=>
    have hst':=hst;rw[← hstep]at hst';refine wp_mono (hf (clean (merge nv dr (aM s dr) s ks t)) _ q hst' g1 a w hg1) ?_;rintro e a' w' ⟨i,z,g',rfl,h2,h3,h4⟩;rw[hst]at hit
    match i,h2 with
    | 0,h2=>
     simp only at h2;split at h2
     ·rename_i t' ht';cases h2;obtain⟨k1,_,k3⟩:=hend h3 h4 hk ht';exact⟨m,QfI m,t',hit,k1,k3⟩
     ·cases h2
    | i+1,h2=>
     simp only at h2;split at h2
     ·rename_i v' hv';cases h2;cases hit;obtain⟨ks',x,hp,hsub,hel⟩:=sM hv';rw[hel]at he;obtain⟨⟨g2,k1⟩,k2,_⟩:=hend h3 h4 (λy hy=>hx y (hsub y hy)) hp;have:U_ P own W0 n nv s K r (exC (i+1)) a' w':=⟨i+1,_,g2,rfl,he,k2,k1⟩
      cases i with
      | zero=>exact this
      | succ i=>exact this
     ·cases h2
theorem Gg(hΓ : Kz P Γ){c:Code}{f:TS F→{R:Type}→(Nat→TS F→Option R)→Option R}(hf:aY P own W0 n nv c f){dr:List Nat}{ks:Ks}{xs:List (Nat×Ks)}(hx:∀y∈MZ xs,y∈dr)(hk:∀y∈keysOf ks,y∈dr) :
  aY P own W0 n nv (.loop c) (λs R K=>match LA Γ s dr s.c (aM s dr) ks (clean s)with
  | none=>none
  | some t0=>(loop (λt:TLS F ks=>f (clean (merge nv dr (aM s dr) s ks t)) λe s'=>match e with
    | 0=>(match LA Γ s dr s.c (aM s dr) ks s' with | some t'=>some (Sum.inl t') | none=>none)
    | e=>(match Pg Γ s dr s.c (aM s dr) xs e s' with | some v=>some (Sum.inr v) | none=>none)) t0).bind λv=>OM (λe ks x=>K e (merge nv dr (aM s dr) s ks x)) xs v):=λs R K r h g a w hg=>LW.loop (za hΓ hf hx hk s K r h g a w hg)
theorem EM{c:Code}{f:TS F→{R:Type}→(Nat→TS F→Option R)→Option R}(hf:aY P own W0 n nv c f){x ix ex:Nat}{dr:List Nat} :
  aY P own W0 n nv (.loop c) (λs R K=>match look s.E x with
  | some (.c (.KU id))=>match look s.M id with
   | some (.row t l0)=>match look s.E ix with
    | some (.c (.im (.i .i64 n0)))=>if Nat.blt id s.c&&Nat.blt 0 ex then
      (loop (λq:List (ET F t)×Nat×Int=>f (clean (LY nv s id ix dr (.La t q.1 q.2.1) q.1.length q.2.2)) λe s'=>match e with
       | 0=>(match R9 s.c id ix dr t s' with | some q'=>some (Sum.inl q') | none=>none)
       | e=>if Nat.beq e ex then(match R9 s.c id ix dr t s' with | some q'=>some (Sum.inr q') | none=>none)else none) (l0,0,n0)).bind λv=>
        cond (Nat.ble v.1.length v.2.1) (K ex (LY nv s id ix dr (.KR t v.1) v.1.length v.2.2)) none
     else none
    | _=>none
   | _=>none
  | _=>none):=by
 intro s R K r h g a w hg;dsimp only at h;split at h
 ·rename_i id hx;split at h
  ·rename_i t l0 hB;split at h
   ·rename_i n0 hi;obtain⟨hc,h⟩:=aL h;simp only[KV,br,decide_eq_true_eq]at hc;rw[UW]at h;obtain⟨v,hv,he⟩:=h
    generalize hstep:(λq:List (ET F t)×Nat×Int=>f (clean (LY nv s id ix dr (.La t q.1 q.2.1) q.1.length q.2.2)) λe s'=>match e with
       | 0=>(match R9 s.c id ix dr t s' with | some q'=>some (Sum.inl q') | none=>none)
       | e=>if Nat.beq e ex then(match R9 s.c id ix dr t s' with | some q'=>some (Sum.inr q') | none=>none)else none)=step at hv
    obtain⟨m,hm⟩:=pq hv
    have Ze:∀(B:J8 F)(len:Nat)(nn:Int) y,y<nv→y∉ix::dr→look (LY nv s id ix dr B len nn).E y=look s.E y:=by
     intro B len nn y hy hn;simp only[LY]
     rw[ar,if_neg (by rw[aj (λe=>hn (by simp[e]))];simp),aI (λy=>Nat.blt y nv&&!(Jw y (ix::dr)))]
     rw[if_pos];simp only[KV,br,decide_eq_true_eq,Rp];refine⟨hy,?_⟩
     cases hmm:Jw y (ix::dr)with
     | false=>rfl
     | true=>exact absurd (aK.1 hmm) hn
    have Zd:∀(B:J8 F)(len:Nat)(nn:Int) y,y<s.c→y≠id→look (LY nv s id ix dr B len nn).M y=look s.M y:=by
     intro B len nn y hy hn;simp only[LY]
     rw[ar,if_neg (by rw[aj (λe=>hn e.symm)];simp),ar,if_neg (by rw[aj (by omega)];simp),aI (λy=>!(Nat.beq id y)),if_pos]
     rw[aj (λe=>hn e.symm)];rfl
    have hstart:∃g0,Good P own W0 n (LY nv s id ix dr (.La t l0 0) l0.length n0).st g0 a w:=by
     obtain⟨g1,k1,k2,k3⟩:=D1 (c:=s.c) hg.mem hB (hg.dom s.c (by simp only[TS.st,br];simp))
     have hz:Good P own W0 n (⟨s.E,NQ s.M [(id,none),(s.c,some (.La t l0 0)),(id,some (.MJ s.c l0.length))],s.c+1,s.dE,s.dM⟩:TS F).st g1 a w:=by
      refine⟨hg.Py,hg.OP,λx d h=>(hg.env x d h).le k2.le,?_,λy hy=>?_,λb hb=>k2.le.I7 b (hg.O5 b hb),hg.Lc.stp hg.mem k2,λy p hp=>k2.le.ids _ _ (hg.N8 y p hp)⟩
      ·have e:(⟨s.E,NQ s.M [(id,none),(s.c,some (.La t l0 0)),(id,some (.MJ s.c l0.length))],s.c+1,s.dE,s.dM⟩:TS F).st.m=Ki s.st.m [(id,none),(s.c,some (.La t l0 0)),(id,some (.MJ s.c l0.length))]:=by
        funext x
        simp only[TS.st];rw[en]
       rw[e];exact k1
      ·have hy:Nat.blt y (s.c+1)=false:=hy;rw[br]at hy
       have hy':¬ y<s.c+1:=by simpa using hy
       rw[k3 y (by omega)]
       exact hg.dom y (by simp only[TS.st,br];simp;omega)
     have hMs:look (NQ s.M [(id,none),(s.c,some (.La t l0 0)),(id,some (.MJ s.c l0.length))]) s.c=some (.La t l0 0):=by
      rw[en];simp only[Ki]
      rw[if_neg (by rw[aj (by omega)];simp),if_pos (WU _)]
     have hMi:look (NQ s.M [(id,none),(s.c,some (.La t l0 0)),(id,some (.MJ s.c l0.length))]) id=some (.MJ s.c l0.length):=by rw[en];simp only[Ki];rw[if_pos (WU _)]
     refine sy (kk:=s.c) (B:=.La t l0 0) hg hz hc.1 (λ_ _ _=>rfl) hi (λy hy hn=>?_) hMs rfl (.inr (KC _)) (hz.mem.ok id _ hMi) (λg2 e1 e2=>?_) rfl
     ·show look (NQ s.M _) y=_;rw[en,cu];simp only[K7,LG,Lr,ZB,or_false,not_or]
      exact⟨hn,by omega,hn⟩
     ·obtain⟨pl,p1,p2⟩:=hz.mem.ok s.c _ hMs
      exact⟨pl,by rw[e1];exact p1,by rw[e2];exact p2⟩
    have Wx:∀{z:TS F}{g':G}{a':Act}{w':World} {q0 q:List (ET F t)×Nat×Int},Fr nv (clean (LY nv s id ix dr (.La t q0.1 q0.2.1) q0.1.length q0.2.2)) z→Good P own W0 n z.st g' a' w'→R9 s.c id ix dr t z=some q→
      (∃g2,Good P own W0 n (LY nv s id ix dr (.La t q.1 q.2.1) q.1.length q.2.2).st g2 a' w')∧(q.1.length≤q.2.1→∃g2,Good P own W0 n (LY nv s id ix dr (.KR t q.1) q.1.length q.2.2).st g2 a' w'):=by
     intro z g' a' w' q0 q hfr hz hq;unfold R9 at hq;obtain⟨hq1,hq⟩:=aL hq;simp only[KV,Oe]at hq1;split at hq
     ·rename_i nn hnn;split at hq
      ·rename_i k len aas;split at hq
       ·rename_i t' l j Sz;split at hq
        ·rename_i RI;subst RI;obtain⟨hkk,hq⟩:=aL hq;have hkk:=P9 hkk;cases hq
         have hS:Lh l.length (g'.ids id) (g'.ids (OV (look z.M) 8 k)):=by
          have h1:Lh len (g'.ids id) (g'.ids k):=hz.mem.ok id _ aas
          have h2:Lh len (g'.ids id) (g'.ids (OV (look z.M) 8 k)):=by
           rcases sr hz.mem (λ_ _ h=>h) 8 k with e | ⟨_,e⟩
           ·have e':OV (look z.M) 8 k=k:=e;rw[e'];exact h1
           ·exact h1.trans e
          exact h2.len (hz.mem.ok _ _ Sz)
         have hE:∀y,y<nv→y∉ix::dr→look z.E y=look s.E y:=by intro y hy hn;rw[hfr.e y hy (λhd=>hn (aK.1 (hq1.1 y hd)))];exact Ze (.La _ q0.1 q0.2.1) q0.1.length q0.2.2 y hy hn
         have hM:∀y,y<s.c→y≠id→look z.M y=look s.M y:=by
          intro y hy hn
          rw[hfr.m y (by show y<s.c+1;omega) (λhd=>by
           have:=hq1.2 y hd;rw[PE]at this;rcases this with this | this
           ·have:=P9 this;omega
           ·exact hn (M_ this))]
          exact Zd (.La _ q0.1 q0.2.1) q0.1.length q0.2.2 y hy hn
         refine⟨sy (kk:=OV (look z.M) 8 k) hg hz hc.1 hE hnn hM Sz rfl (.inr hkk) hS (λg2 e1 e2=>?_) rfl,λhj=>sy (kk:=OV (look z.M) 8 k) hg hz hc.1 hE hnn hM Sz rfl (.inr hkk) hS (λg2 e1 e2=>?_) rfl⟩
         ·obtain⟨pl,p1,p2⟩:=hz.mem.ok _ _ Sz
          exact⟨pl,by rw[e1];exact p1,by rw[e2];exact p2⟩
         ·obtain⟨pl,p1,p2⟩:=CD (hz.mem.ok _ _ Sz) hj
          exact⟨pl,by rw[e1];exact p1,by rw[e2];exact p2⟩
        ·cases hq
       ·cases hq
      ·cases hq
     ·cases hq
    refine qY (λm a w=>∃q,iter step m q=some v∧∃g,Good P own W0 n (LY nv s id ix dr (.La t q.1 q.2.1) q.1.length q.2.2).st g a w) ?_ (k:=m) ⟨(l0,0,n0),hm,hstart⟩;rintro m a w ⟨q,hit,g1,hg1⟩
    cases m with
    | zero=>cases hit
    | succ m=>
     simp only[iter]at hit
     cases hst:step q with
     | none=>rw[hst]at hit;cases hit
     | some qq=>
      have hst':=hst;rw[← hstep]at hst';refine wp_mono (hf (clean (LY nv s id ix dr (.La t q.1 q.2.1) q.1.length q.2.2)) _ qq hst' g1 a w hg1) ?_;rintro e a' w' ⟨i,z,g',rfl,h2,h3,h4⟩;rw[hst]at hit
      match i,h2 with
      | 0,h2=>
       simp only at h2;split at h2
       ·rename_i q' hq';cases h2;exact⟨m,QfI m,q',hit,(Wx h3 h4 hq').1⟩
       ·cases h2
      | i+1,h2=>
       simp only at h2;obtain⟨hie,h2⟩:=aL h2;have hie:=M_ hie;split at h2
       ·rename_i q' hq';cases h2;cases hit
        cases aaq:Nat.ble v.1.length v.2.1 with
        | false=>rw[aaq]at he;cases he
        | true=>
         rw[aaq]at he;obtain⟨g2,k1⟩:=(Wx h3 h4 hq').2 (P9 aaq)
         have:U_ P own W0 n nv s K r (exC (i+1)) a' w':=by
          refine⟨i+1,_,g2,rfl,by rw[hie];exact he,⟨λy hy hn=>?_,λy hy hn=>?_,WT _,λy hy=>?_,λy hy=>?_⟩,k1⟩
          ·exact Ze _ _ _ y hy (λhh=>hn (by
            show y∈ix::(dr++s.dE);rcases Lr.1 hh with rfl | hh
            ·simp
            ·simp[hh]))
          ·exact Zd _ _ _ y hy (λhh=>hn (by show y∈id::s.dM;simp[hh]))
          ·show y∈ix::(dr++s.dE);simp[hy]
          ·show y∈id::s.dM;simp[hy]
         cases i with
         | zero=>exact this
         | succ i=>exact this
       ·cases h2
   ·cases h
  ·cases h
 ·cases h
theorem IS{c:Code}{f:TS F→{R:Type}→(Nat→TS F→Option R)→Option R}(hf:aY P own W0 n nv c f)(k:Nat):aY P own W0 n nv (.loop c) (unr f k):=by
 intro s R K r h g a w hg;refine LW.loop ?_
 induction k generalizing s g a w with
 | zero=>simp[unr]at h
 | succ k ih=>
  simp only[unr]at h;refine LW.round (wp_mono (hf s _ r h g a w hg) ?_);rintro e a' w' ⟨i,s',g',rfl,h2,h3,h4⟩
  match i,h2 with
  | 0,h2=>exact(ih s' h2 g' a' w' h4).mono (λ_ _ _ hq=>hq.back h3)
  | 1,h2=>exact⟨1,s',g',rfl,h2,h3,h4⟩
  | i+2,h2=>exact⟨i+2,s',g',rfl,h2,h3,h4⟩
theorem F2{c:Code}{f f2:TS F→{R:Type}→(Nat→TS F→Option R)→Option R}(hf:aY P own W0 n nv c f)(hf2:yz P own W0 n nv c f2) :
  aY P own W0 n nv (.loop c) (λs R K=>f s λe s'=>match e with | 0=>f2 s' K | e=>K e s'):=by
 intro s R K r h g a w hg;refine LW.loop (LW.round (wp_mono (hf s _ r h g a w hg) ?_));rintro e a' w' ⟨i,s',g',rfl,h2,h3,h4⟩
 match i,h2 with
 | 0,h2=>exact(hf2 s' K r h2 g' a' w' h4).mono (λ_ _ _ hq=>hq.back h3)
 | 1,h2=>exact⟨1,s',g',rfl,h2,h3,h4⟩
 | i+2,h2=>exact⟨i+2,s',g',rfl,h2,h3,h4⟩
theorem Cg{τ α ω : Type}{t0:ω→Option τ}{step:ω→τ→α→Option τ}{l:List α}{r:τ}(h:rng t0 step l=some r):∃st,st=step∧∃t,(∀ob,t0 ob=some t)∧NY st l l.length [] t r:=⟨step,rfl,EW h⟩
theorem E2{s s':St F}{g:G}{a a':Act}{w:World}(hg:Good P own W0 n s g a w)(hd:a'.defers = [])(hs:a'.tmps.size=n)(he:∀x d,s'.e x=some d→d = .c .any∨(s.e x=some d∧a'.tmps.getD x undef=a.tmps.getD x undef))
  (hm:∀id B,s'.m id=some B→s.m id=some B) (hu:∀id,s'.u id=false→s.u id=false):Good P own W0 n s' g a' w:=by
 refine⟨hd,hs,λx d h=>?_,hg.mem.sub hm,λid hi=>hg.dom id (hu id hi),hg.O5,hg.Lc,hg.N8⟩;rcases he x d h with rfl | ⟨h1,h2⟩
 ·exact .c .any
 ·rw[h2];exact hg.env x d h1
theorem yk{s:TS F}{g:G}{a:Act}{w:World}(hg:Good P own W0 n s.st g a w){d:Nat}(hd:d<n){v:Dat F}{x:Value}(hv:J4 P g w v x)(dE dM:List Nat) :
  Good P own W0 n (⟨(d,v)::s.E,s.M,s.c,dE,dM⟩:TS F).st g (a.put (some d) x) w:=by
 refine⟨hg.Py,by simp[Act.put,hg.OP],?_,hg.mem,hg.dom,hg.O5,hg.Lc,hg.N8⟩
 intro y e hy;simp only[TS.st,ar]at hy;simp only[Act.put];rw[Q_,XL];by_cases hdy:d=y
 ·subst hdy;rw[ba]at hy;simp only[if_true,K3]at hy;subst hy
  rw[if_pos rfl,if_pos (by rw[hg.OP];exact hd)]
  exact hv
 ·rw[aj hdy]at hy;rw[if_neg hdy,← Q_]
  exact hg.env y e (by simpa[TS.st]using hy)
theorem nK{a:Act}{d:Nat}(hd:d<a.tmps.size){x:Value}:(a.put (some d) x).eval (.tmp d)=x:=by simp only[Act.put,Act.eval];rw[Q_,XL,if_pos rfl,if_pos hd];rfl
theorem oG{Kw:Array Oper}{i:Nat}{o:Oper}(hi:Kw[i]? = some o)(hg:o.guard=none){v:Value}{w w':World}{a:Act}(hrun:(execOp a.eval o).run P w = .ok (.value v) w'){rest:List Nat}{Q:Exit→Act→World→Prop}(hn:wpOps P Kw Q rest (a.put o.dst v) w'):wpOps P Kw Q (i::rest) a w:=by
 rw[wpOps_cons];unfold wpOp;rw[hi];dsimp only
 rw[show Region.wanted o (yielded Kw a.tmps)=true by simp[Region.wanted,hg],if_pos rfl]
 left;unfold Oper.wp;rw[hrun];exact hn
theorem wT{s s':St F}{g:G}{a:Act}{w:World}(hg:Good P own W0 n s g a w){id b:Nat}{ob MQ:Obj}(hB:s.m id=some (.it ob))(hid:g.ids id=some (some (b,0,0,[])))(he:s'.e=s.e)(hu:s'.u=s.u)
  (hm:∀x B,s'.m x=some B→if x=id then B = .it MQ else s.m x=some B):Good P own W0 n s' g a (NT w b MQ):=by
 obtain⟨k1,k2⟩:=qP (ob:=MQ) (B':=.it MQ) hg.mem hB rfl (G.Kt hid) (λhh _=>⟨b,hid,hh⟩)
 refine⟨hg.Py,hg.OP,λx d h=>(hg.env x d (by rw[← he];exact h)).le k2.le,k1.sub ?_,λid hi=>hg.dom id (by rw[← hu];exact hi),hg.O5,hg.Lc.stp hg.mem k2,hg.N8⟩
 intro x B hx;have:=hm x B hx;simp only[Ki];by_cases hxi:x=id
 ·subst hxi;rw[if_pos rfl]at this;rw[ba,if_pos rfl,this]
 ·rw[if_neg hxi]at this;rw[aj (λe=>hxi e.symm)];simpa using this
def Ow.fix(own:Ow)(i1:Nat)(p1:Pl)(i2:Nat)(p2:Pl):Ow:=⟨own.o,own.i,λid=>if id=i1 then some p1 else if id=i2 then some p2 else own.nm id⟩
theorem Good.fix{s:St F}{g:G}{a:Act}{w:World}(hg:Good P own W0 n s g a w){i1 i2:Nat}{p1 p2:Pl}(h1:g.ids i1=some p1)(h2:g.ids i2=some p2):Good P (own.fix i1 p1 i2 p2) W0 n s g a w:=by
 refine⟨hg.Py,hg.OP,hg.env,⟨hg.mem.ok,hg.mem.OB,hg.mem.own,hg.mem.I7,hg.mem.io,hg.mem.len⟩,hg.dom,hg.O5,⟨hg.Lc.os,hg.Lc.tape,hg.Lc.output,hg.Lc.size,hg.Lc.fresh,hg.Lc.block,hg.Lc.drawn⟩,?_⟩;intro id p hp;simp only[Ow.fix]at hp;split at hp
 ·rename_i e;cases hp;rw[e];exact h1
 ·split at hp
  ·rename_i e;cases hp;rw[e];exact h2
  ·exact hg.N8 id p hp
theorem Good.acJ{s:St F}{g:G}{a:Act}{w:World}{i1 i2:Nat}{p1 p2:Pl}(hg:Good P (own.fix i1 p1 i2 p2) W0 n s g a w)(h1:∀p,own.nm i1=some p→p=p1)(h2:∀p,own.nm i2=some p→p=p2):Good P own W0 n s g a w:=by
 refine⟨hg.Py,hg.OP,hg.env,⟨hg.mem.ok,hg.mem.OB,hg.mem.own,hg.mem.I7,hg.mem.io,hg.mem.len⟩,hg.dom,hg.O5,⟨hg.Lc.os,hg.Lc.tape,hg.Lc.output,hg.Lc.size,hg.Lc.fresh,hg.Lc.block,hg.Lc.drawn⟩,?_⟩;intro id p hp;refine hg.N8 id p ?_;simp only[Ow.fix];split
 ·rename_i e;rw[e]at hp;rw[h1 p hp]
 ·split
  ·rename_i e;rw[e]at hp;rw[h2 p hp]
  ·exact hp
theorem Aa{M6 Mj Nu:List Oper}{c2:Nat}{h:RgS}(hh:wu n M6 Mj Nu c2=some h) :
  ∃(oa ob oc od oe:Oper),M6 = [oa,ob]∧Mj = [oc,od]∧Nu=oe::h.rest∧(oa.dst=some h.b∧oa.op = .move (.tmp h.a)∧oa.guard=none)∧(ob.dst=some h.it∧ob.op = .range h.ty (.tmp h.b)∧ob.guard=none)∧
   (oc.dst=some h.d1∧oc.op = .next (.tmp h.it) false∧oc.guard=none)∧(od.dst=some c2∧od.op = .extract (.tmp h.d1) 0∧od.guard=none)∧(oe.dst=some h.d3∧oe.op = .entry (.tmp h.it)∧oe.guard=none)∧
   (h.b<n∧h.it<n∧h.d1<n∧c2<n∧h.d3<n)∧h.it≠h.b∧h.it≠h.d1∧h.it≠c2∧h.it≠h.d3∧c2≠h.d1:=by
 unfold wu at hh;split at hh
 ·obtain⟨hc,hh⟩:=aL hh;cases hh;simp only[KV,and_assoc,Nat.beq_eq,M4,Rp,Nat.beq_eq_true_eq]at hc;obtain⟨e1,e2,e3,e4,e5,l1,l2,l3,l4,l5,n1,n2,n3,n4,n5⟩:=hc;subst e1 e2 e3 e4 e5
  have hne:∀{x y:Nat},Nat.beq x y=false→x≠y:=λh e=>by rw[e,ba]at h;cases h
  exact⟨_,_,_,_,_,rfl,rfl,rfl,⟨rfl,rfl,rfl⟩,⟨rfl,rfl,rfl⟩,⟨rfl,rfl,rfl⟩,⟨rfl,rfl,rfl⟩,⟨rfl,rfl,rfl⟩,⟨l1,l2,l3,l4,l5⟩,hne n1,hne n2,hne n3,hne n4,hne n5⟩
 ·cases hh
theorem uS{E E':List (Nat×Dat F)}:∀{ks:Ks}{x:TLS F ks}{c:Nat},(∀y∈keysOf ks,look E y=look E' y)→KO E ks x c=KO E' ks x c
 | [],x,c,h=>rfl
 | [k],x,c,h=>by
  simp only[KO,NW]
  rw[h k.1 (by simp[keysOf])]
 | k::l::r,x,c,h=>by
  simp only[KO,NW]
  rw[h k.1 (by simp[keysOf])]
  rw[uS (λy hy=>h y (by simp only[keysOf,K7,Lr]at hy ⊢;exact .inr hy))]
theorem rR:∀{l1 l2:List Nat},l1.Nodup→(∀x∈l1,x∈l2)→l1.length≤l2.length
 | [],_,_,_=>U8 _
 | a::l,l2,hn,hs=>by
  have hn':=PI.1 hn
  have h:=rR (l2:=l2.erase a) hn'.2 (λx hx=>by
   have hxa:x≠a:=λe=>hn'.1 (e▸hx)
   exact(List.mem_erase_of_ne hxa).2 (hs x (by simp[hx])))
  have ha:=hs a (by simp)
  rw[List.length_erase_of_mem ha]at h;have:=List.length_pos_of_mem ha;simp only[P8];omega
theorem E_{N:Nat}{l:List Nat}(hn:l.Nodup)(hl:∀x∈l,x<N):l.length≤N:=by have h:=rR (l2:=List.range N) hn (λx hx=>WV.2 (hl x hx));simpa using h
structure Nm(nv:Nat)(s:TS F)(it:Nat)(kill:List Nat)(ks:Ks)(t:TLS F ks):Prop where
 m:∀q∈(KO ((it,.c (.ptr s.c 0))::s.E) ks t (s.c+1)).2.1,s.c+1≤q.1∨q.1∈kill
 e:∀y,y∉keysOf ks→look (KO ((it,.c (.ptr s.c 0))::s.E) ks t (s.c+1)).1 y=none
 c:s.c+1≤(KO ((it,.c (.ptr s.c 0))::s.E) ks t (s.c+1)).2.2
theorem sR{c:Nat}{kill:List Nat}{id:Nat}(hid:id<c)(hnd:id∉kill):∀{l:List (Nat×J8 F)},(∀q∈l,c≤q.1∨q.1∈kill)→look l id=none:=by
 intro l
 induction l with
 | nil=>intro _;rfl
 | cons q l ih=>
  intro h;obtain⟨y,C⟩:=q
  have hne:y≠id:=by
   rintro rfl
   rcases h (y,C) (by simp)with h | h
   ·simp only at h;omega
   ·exact hnd h
  rw[ar,aj hne]
  exact ih (λq hq=>h q (by simp[hq]))
theorem Nm.Ua{s:TS F}{it:Nat}{kill dr:List Nat}{ks:Ks}{t:TLS F ks}(h:Nm nv s it kill ks t)(ob:Obj){id:Nat}(hi:id<s.c+1)(hk:id∉kill):look (merge nv dr kill (NU s it ob) ks t).M id=look (NU s it ob).M id:=by
 show look ((KO ((it,.c (.ptr s.c 0))::s.E) ks t (s.c+1)).2.1++(NU s it ob).M.filter λp=>!(Jw p.1 kill)) id=_;rw[aZ,sR hi hk h.m,TD,aI (λy=>!(Jw y kill)),if_pos]
 cases hm:Jw id kill with
 | true=>exact absurd (aK.1 hm) hk
 | false=>rfl
theorem Nm.V3{s:TS F}{it:Nat}{kill dr:List Nat}{ks:Ks}{t:TLS F ks}(h:Nm nv s it kill ks t)(ob:Obj){y:Nat}(hk:y∉keysOf ks):look (merge nv dr kill (NU s it ob) ks t).E y=if Nat.blt y nv&&!(Jw y dr)then look ((it,.c (.ptr s.c 0))::s.E) y else none:=by show look ((KO ((it,.c (.ptr s.c 0))::s.E) ks t (s.c+1)).1++((it,.c (.ptr s.c 0))::s.E).filter λp=>Nat.blt p.1 nv&&!(Jw p.1 dr)) y=_;rw[aZ,h.e y hk,TD,aI (λy=>Nat.blt y nv&&!(Jw y dr))]
theorem DU{s:St F}{g:G}{a a':Act}{w:World}(hg:Good P own W0 n s g a w)(hd:a'.defers = [])(hs:a'.tmps.size=n)(he:∀x d,s.e x=some d→a'.tmps.getD x undef=a.tmps.getD x undef):Good P own W0 n s g a' w:=
 ⟨hd,hs,λx d h=>by rw[he x d h];exact hg.env x d h,hg.mem,hg.dom,hg.O5,hg.Lc,hg.N8⟩
theorem Rv{a:Act}{d x:Nat}{v:Value}:(a.put (some d) v).tmps.getD x undef=if d=x then(if d<a.tmps.size then v else undef)else a.tmps.getD x undef:=by
 simp only[Act.put];rw[Q_,XL];by_cases h:d=x
 ·rw[if_pos h,if_pos h];by_cases h2:d<a.tmps.size
  ·rw[if_pos h2,if_pos h2];rfl
  ·rw[if_neg h2,if_neg h2];rfl
 ·rw[if_neg h,if_neg h,← Q_]
theorem EL(hT:J5 P T)(hΓ : Kz P Γ){id0 id1 id2 i j c2:Nat}{M6 Mj Nu:Array Oper}{body:Code}{f:TS F→{R:Type}→(Nat→TS F→Option R)→Option R}
  (hf:∀own:Ow,aY P own W0 n nv body f) {ks:Ks} {dr:List Nat} (hk:∀y∈keysOf ks,y∈dr) :
  aY P own W0 n nv (.seq (.region id0 M6 false) (.block i (.loop (.seq (.region id1 Mj false) (.seq (.cond (.tmp c2) .skip (.exit i)) (.block j (.seq (.region id2 Nu false) body))))))) (λs R K=>yD T Γ nv n f M6.toList Mj.toList Nu.toList j c2 ks dr s K):=by
 intro s R K r h g a w hg;dsimp only at h;unfold yD at h;split at h
 ·cases h
 rename_i hs hsh;split at h
 rotate_left
 ·cases h
 rename_i mid ha;split at h
 rotate_left
 ·cases h
 rename_i tt l hmid;split at h
 ·cases h
 rename_i mty hmt;obtain⟨hc,h⟩:=aL h;rw[UW]at h;obtain⟨v,hv,hK⟩:=h;obtain⟨step,hstep,t0,ht0,anM⟩:=Cg hv;generalize ajg:aM s dr=kill at *;simp only[KV,and_assoc,Rp,M4]at hc;obtain⟨c1,c2',c3,c4,c5,c6,c7,c8⟩:=hc;obtain⟨oa,ob,oc,od,oe,e0,e1,e2,⟨a1,a2,a3⟩,⟨b1,b2,b3⟩,⟨n1,n2,n3⟩,⟨x1,x2,x3⟩,⟨y1,y2,y3⟩,⟨l1,l2,l3,l4,l5⟩,m1,m2,m3,m4,m5⟩:=Aa hsh
 have TY:∀{x:Nat}{l:List Nat},Jw x l=false→x∉l:=λh hm=>by rw[aK.2 hm]at h;cases h
 have c2n:=TY c2';have c3n:=TY c3;have c5n:=TY c5;have aaj:hs.it∉keysOf ks:=λhh=>c5n (hk _ hh)
 have hdrop:∀x∈[hs.b,hs.d1,c2,hs.d3],(Nat.blt x nv&&!(Jw x dr))=false:=by
  intro x hx;have:=Oe.1 c6 x hx;simp only[PE]at this;rcases this with h1 | h1
  ·have:=P9 h1
   rw[show Nat.blt x nv=false by rw[br,decide_eq_false_iff_not];omega]
   rfl
  ·rw[h1];simp
 have Y7:∀x∈[hs.b,hs.d1,c2],x∉keysOf ks:=by
  intro x hx;have:=Oe.1 c7 x hx
  exact TY (by simpa using this)
 obtain⟨bm,k1,k2,es,k3,k4,k5⟩:=qf hg.mem hmid;obtain⟨bm',cm',k6,hval⟩:=pW (aV (hg.env _ _ ha));rw[k2]at k6;cases k6;obtain⟨ti,hti,hde,_⟩:=uA (k:=mty.1) (v:=mty.2.1) (tt:=mty.2.2) hmt;have hu:=hT.und _ _ hti;rw[hde]at hu
 have hfr:g.ids s.c=none:=hg.dom s.c (by simp only[TS.st,br,decide_eq_false_iff_not];omega)
 generalize hbit:w.heap.size=bit
 obtain⟨q1,q2⟩:=gj (rm:=[]) (pl:=some (w.heap.size,0,0,[])) (B:=J8.it (.mapIter (some bm) es.length #[] es.length)) hg.mem hfr (w':=w.alloc (.mapIter (some bm) es.length #[] es.length)) (by
  intro b0 c e b hb;cases e;simp only[Kr,I4]at hb;subst hb
  exact .inl ⟨KC _,by rw[World.size_alloc];omega,hg.Lc.fresh _ hg.Lc.size⟩) rfl rfl rfl (KC _) (by rw[World.size_alloc];omega) (λb hb _=>heap_alloc_old w _ hb) (λg' hle hi=>⟨_,hi,heap_alloc_new w _⟩)
 rw[hbit]at q1 q2;generalize hg1:g.name s.c (some (bit,0,0,[]))=g1 at q1 q2
 have aan:g1.ids s.c=some (some (bit,0,0,[])):=by rw[← hg1];exact a9 _ _ _
 generalize hN:es.length=N at *
 have aaF:Good P own W0 n (NU s hs.it (.mapIter (some bm) N #[] N)).st g1 (a.put (some hs.it) (.pointer (some ⟨bit,0,none⟩))) (w.alloc (.mapIter (some bm) N #[] N)):=by
  refine⟨hg.Py,by simp[Act.put,hg.OP],?_,q1.sub ?_,?_,λb hb=>q2.le.I7 b (hg.O5 b hb),hg.Lc.stp hg.mem q2,λid p hp=>q2.le.ids id p (hg.N8 id p hp)⟩
  ·intro y e hy;simp only[TS.st,NU,ar]at hy;rw[Rv];by_cases hdy:hs.it=y
   ·rw[if_pos hdy,if_pos (by rw[hg.OP];exact l2)]
    rw[hdy,ba]at hy;simp only[if_true,K3]at hy;subst hy;exact .c (.ptr aan)
   ·rw[if_neg hdy];rw[aj hdy]at hy
    exact(hg.env y e (by simpa[TS.st]using hy)).le q2.le
  ·intro id B hB;simp only[TS.st,NU,ar]at hB;simp only[LG,O7,Ki];exact hB
  ·intro id hid;simp only[TS.st,NU,br,decide_eq_false_iff_not]at hid
   rw[← hg1,bE _ _ _ (by omega)]
   exact hg.dom id (by simp only[TS.st,br,decide_eq_false_iff_not];omega)
 have Rz:g1.ids mid=some (some (bm,0,0,[])):=q2.le.ids mid _ k2;have Tw:=aaF.fix Rz aan;generalize hown:own.fix mid (some (bm,0,0,[])) s.c (some (bit,0,0,[]))=own' at Tw
 have anS:own'.nm mid=some (some (bm,0,0,[])):=by rw[← hown];simp[Ow.fix]
 have anR:own'.nm s.c=some (some (bit,0,0,[])):=by
  rw[← hown];simp only[Ow.fix];rw[if_neg (by omega)];simp
 have aaz:∀{z:St F}{g':G}{a':Act}{w':World},Good P own' W0 n z g' a' w'→Good P own W0 n z g' a' w':=by
  intro z g' a' w' hh;rw[← hown]at hh;refine hh.acJ (λp hp=>?_) (λp hp=>?_)
  ·have:=hg.N8 _ _ hp;rw[k2]at this;exact(Option.some.inj this).symm
  ·have:=hg.N8 _ _ hp;rw[hfr]at this;cases this
 generalize hw1:w.alloc (.mapIter (some bm) N #[] N)=w1 at *;generalize haB:a.put (some hs.it) (.pointer (some ⟨bit,0,none⟩))=aB at *
 have hbase:∀MQ,Good P own' W0 n (NU s hs.it MQ).st g1 aB (NT w1 bit MQ):=by
  intro MQ
  refine wT (s:=(NU s hs.it (.mapIter (some bm) N #[] N)).st) Tw (id:=s.c) (ob:=.mapIter (some bm) N #[] N) (by simp[TS.st,NU,ar]) aan rfl rfl ?_
  intro x B hx;simp only[TS.st,NU,ar]at hx ⊢;by_cases hxc:x=s.c
  ·subst hxc;rw[if_pos rfl];rw[ba]at hx;simpa using hx.symm
  ·rw[if_neg hxc];rw[aj (λe=>hxc e.symm)]at hx ⊢;exact hx
 have Y5:∀{MQ:Obj}{z:TS F}{t:TLS F ks}{g':G} {a':Act} {w':World},Good P own' W0 n z.st g' a' w'→(∀x,x<nv→x∉dr→x∉z.dE→look z.E x=look ((hs.it,.c (.ptr s.c 0))::s.E) x)→
   (∀id,id<s.c+1→id∉kill→id∉z.dM→look z.M id=look (NU s hs.it MQ).M id)→LA Γ (NU s hs.it MQ) dr (s.c+1) kill ks z=some t→
   Nm nv s hs.it kill ks t∧∃g'',Good P own' W0 n (merge nv dr kill (NU s hs.it MQ) ks t).st g'' a' w':=by
  intro MQ z t g' a' w' hz hE hM hp;obtain⟨p1,p2,p3,p4⟩:=vI hΓ (hbase MQ) hz hE hM hp;exact⟨⟨p2,p3,p4⟩,p1⟩
 obtain⟨hn0,g0,hg0⟩:=Y5 (MQ:=.mapIter (some bm) N #[] N) Tw (λ_ _ _ _=>rfl) (λ_ _ _ _=>rfl) (ht0 _);obtain rfl:M6 = #[oa,ob]:=Array.toList_inj.1 e0;obtain rfl:Mj = #[oc,od]:=Array.toList_inj.1 e1;refine wp_seq (wp_region ?_)
 refine oG (o:=oa) (i:=0) (rest:=[1]) rfl a3 (v:=a.eval (.tmp hs.a)) (w':=w) (by simp[execOp,a2]) ?_
 have hmv:(a.put oa.dst (a.eval (.tmp hs.a))).eval (.tmp hs.b) = .map (some bm):=by
  rw[a1,nK (by rw[hg.OP];exact l1)]
  exact hval
 refine oG (o:=ob) (i:=1) (rest:=[]) rfl b3 (v:=.pointer (some ⟨bit,0,none⟩)) (w':=w1) ?_ ?_
 ·have hrr:=run_range_map (P:=P) w hs.ty mty.1 mty.2.1 bm ⟨es⟩ N hu k3;rw[hbit,hw1]at hrr;simp[execOp,b2,hmv,LM,hrr,Result.andThen]
 simp only[wpOps,Exit.then]
 refine wp_block (qY (λm a w=>∃(t:TLS F ks)(seen:List Nat),NY step l m seen t v∧seen.Nodup∧(∀x∈seen,x<N)∧m+seen.length=N∧Nm nv s hs.it kill ks t∧
   ∃g',Good P own' W0 n (merge nv dr kill (NU s hs.it (.mapIter (some bm) N ⟨seen⟩ N)) ks t).st g' a w) ?_ (k:=N) ?_)
 rotate_left
 ·refine⟨t0,[],by rw[k4];exact anM,Zz,by simp,by simp,hn0,g0,DU hg0 ?_ ?_ ?_⟩
  ·rw[a1,b1];exact hg.Py
  ·rw[a1,b1];simp[Act.put,hg.OP]
  ·intro x d hx;rw[a1,b1,← haB,Rv,Rv,Rv]
   have hxb:hs.b≠x:=by
    rintro rfl;have hx:look (merge nv dr kill (NU s hs.it (.mapIter (some bm) N #[] N)) ks t0).E hs.b=some d:=hx
    rw[hn0.V3 _ (Y7 _ (by simp)),hdrop _ (by simp)]at hx
    cases hx
   rw[if_neg hxb];simp[Act.put]
 intro m a w hI;obtain⟨t,seen,hr,hnd,hlt,hlen,hnm,g',hg'⟩:=hI
 have hM1:look (merge nv dr kill (NU s hs.it (.mapIter (some bm) N ⟨seen⟩ N)) ks t).M s.c=some (.it (.mapIter (some bm) N ⟨seen⟩ N)):=by
  rw[hnm.Ua _ (by omega) c3n]
  simp[NU,ar]
 have hM2:look (merge nv dr kill (NU s hs.it (.mapIter (some bm) N ⟨seen⟩ N)) ks t).M mid=some (.mp tt l):=by
  rw[hnm.Ua _ (by omega) c2n]
  simp only[NU,ar]
  rw[aj (by omega)]
  simpa using hmid
 have hE1:look (merge nv dr kill (NU s hs.it (.mapIter (some bm) N ⟨seen⟩ N)) ks t).E hs.it=some (.c (.ptr s.c 0)):=by rw[hnm.V3 _ aaj,if_pos,ar,ba,if_pos rfl];rw[M4.mpr c4,c5];rfl
 have Ry:=hg'.N8 _ _ anR;have an2:=hg'.N8 _ _ anS;obtain⟨bb,hb1,hh⟩:=hg'.mem.ok s.c _ hM1;rw[Ry]at hb1;cases hb1;obtain⟨bm2,_,j2,es2,j3,j4,j5⟩:=qf hg'.mem hM2;rw[an2]at j2;cases j2
 have aac:a.eval (.tmp hs.it) = .pointer (some ⟨bit,0,none⟩):=by obtain⟨b',c',e1,e2⟩:=bo (hg'.env _ _ hE1);rw[Ry]at e1;cases e1;exact e2
 have an_:es2.length=N:=by omega
 have hborn:∀(k:Nat)(e:MapEntry),es2[k]? = some e→e.born=k∧k<N:=by
  intro k e hke;have hk2:k<es2.length:=(I0.1 hke).1
  have hk3:k<l.length:=by omega
  exact⟨(j5 k _ e (IZ hk3) hke).1,by omega⟩
 have hold:∀x∈(⟨es2⟩:Array MapEntry).toList,x.born<N:=by intro x hx;obtain⟨k,hk2⟩:=RL hx;obtain⟨p1,p2⟩:=hborn k x hk2;omega
 have hbn:es2.map (·.born)=List.range N:=by
  apply ZC;intro k;rw[MU];by_cases hkN:k<N
  ·rw[IZ (by omega),IZ (by simpa using hkN)]
   simp only[S_,List.getElem_range]
   rw[(hborn k _ (IZ (by omega))).1]
  ·rw[QdG (by omega),QdG (by simp;omega)]
   rfl
 have hsz0:a.tmps.size=n:=hg'.OP;rcases run_next_at (P:=P) w oc.type bit bm N N ⟨seen⟩ ⟨es2⟩ es2.length hh j3 hold (KC _)with⟨z1,z2⟩ | ⟨e,he,w2,hw2,hrun⟩
 ·refine wp_seq (wp_region ?_)
  refine oG (o:=oc) (i:=0) (rest:=[1]) rfl n3 (v:=.tuple #[.bool false]) (w':=w) (by simp[execOp,n2,aac,LM,z2,Result.andThen]) ?_
  have hex:(a.put oc.dst (.tuple #[.bool false])).eval (.tmp hs.d1) = .tuple #[.bool false]:=by
   rw[n1,nK (by rw[hsz0];exact l3)]
  refine oG (o:=od) (i:=1) (rest:=[]) rfl x3 (v:=.bool false) (w':=w) (by simp[execOp,x2,hex,Instr.extract]) ?_
  simp only[wpOps,Exit.then]
  refine wp_seq (wp_cond_split (t:=false) ?_ (λe=>by cases e) (λ_=>wp_exit ?_))
  ·rw[x1,nK (by rw[n1];simpa[Act.put,hsz0]using l4)]
  simp only[Exit.then,Exit.inBlock,if_true]
  have hm0:m=0:=by
   have hsub:∀k∈List.range N,k∈seen:=by
    intro k hkN;rw[WV]at hkN
    have hk2:k<es2.length:=by omega
    have h0:leftOf ⟨es2⟩ ⟨seen⟩ = #[]:=QeJ z1;unfold leftOf at h0;rw[Array.filter_eq_empty_iff]at h0
    have:=h0 es2[k] (by simp)
    rw[(hborn k _ (IZ hk2)).1]at this;simpa using this
   have:=rR QfH hsub;simp at this;omega
  subst hm0;have htv:t=v:=hr;subst htv
  have Rj:KO ((hs.it,.c .any)::s.E) ks t (s.c+1)=KO ((hs.it,.c (.ptr s.c 0))::s.E) ks t (s.c+1):=uS (λy hy=>by
   rw[ar,ar,aj (λ(e:hs.it=y)=>aaj (by rw[e];exact hy))];rfl)
  refine⟨0,_,g',rfl,hK,?_,?_⟩
  ·refine⟨?_,?_,?_,λx hx=>?_,λx hx=>?_⟩
   ·intro x hx hn;have hn:x∉dr++hs.it::s.dE:=hn;simp only[Mr,Lr,not_or]at hn;show look ((KO ((hs.it,.c .any)::s.E) ks t (s.c+1)).1++((hs.it,.c .any)::s.E).filter λp=>Nat.blt p.1 nv&&!(Jw p.1 dr)) x=_;rw[Rj,aZ,hnm.e x (λh=>hn.1 (hk x h)),TD,aI (λy=>Nat.blt y nv&&!(Jw y dr)),if_pos,ar,aj (λe=>hn.2.1 e.symm)]
    ·rfl
    ·rw[M4.mpr hx]
     cases hm:Jw x dr with
     | true=>exact absurd (aK.1 hm) hn.1
     | false=>rfl
   ·intro id hid hn;have hn:id∉kill++s.dM:=hn;simp only[Mr,not_or]at hn;show look ((KO ((hs.it,.c .any)::s.E) ks t (s.c+1)).2.1++s.M.filter λp=>!(Jw p.1 kill)) id=_;rw[Rj,aZ,sR (Nat.lt_succ_of_lt hid) hn.1 hnm.m,TD,aI (λy=>!(Jw y kill)),if_pos]
    cases hm:Jw id kill with
    | true=>exact absurd (aK.1 hm) hn.1
    | false=>rfl
   ·show s.c≤(KO ((hs.it,.c .any)::s.E) ks t (s.c+1)).2.2;rw[Rj];exact MP (WT _) hnm.c
   ·show x∈dr++hs.it::s.dE;simp[hx]
   ·show x∈kill++s.dM;simp[hx]
  ·refine E2 (aaz hg') ?_ ?_ ?_ ?_ ?_
   ·rw[n1,x1];exact hg'.Py
   ·rw[n1,x1];simp[Act.put,hsz0]
   ·intro x d hx;have hx:look ((KO ((hs.it,.c .any)::s.E) ks t (s.c+1)).1++((hs.it,.c .any)::s.E).filter λp=>Nat.blt p.1 nv&&!(Jw p.1 dr)) x=some d:=hx;rw[Rj,aZ,aI (λy=>Nat.blt y nv&&!(Jw y dr))]at hx;by_cases hxi:x=hs.it
    ·subst hxi
     rw[hnm.e _ aaj,TD,if_pos (by rw[M4.mpr c4,c5];rfl),ar,ba,if_pos rfl]at hx
     cases hx;exact .inl rfl
    ·right;rw[ar,aj (λe=>hxi e.symm)]at hx
     have hne:∀y∈[hs.b,hs.d1,c2],y≠x:=by
      rintro y hy rfl
      rw[hnm.e _ (Y7 _ hy),TD,hdrop _ (by simp only[Lr,ZB,or_false]at hy ⊢;rcases hy with h | h | h<;>simp[h])]at hx
      cases hx
     refine⟨?_,?_⟩
     ·show look ((KO ((hs.it,.c (.ptr s.c 0))::s.E) ks t (s.c+1)).1++((hs.it,.c (.ptr s.c 0))::s.E).filter λp=>Nat.blt p.1 nv&&!(Jw p.1 dr)) x=some d;rw[aZ,aI (λy=>Nat.blt y nv&&!(Jw y dr)),ar,aj (λe=>hxi e.symm)];exact hx
     ·rw[n1,x1,Rv,Rv,if_neg (hne c2 (by simp)),if_neg (hne hs.d1 (by simp))]
   ·intro id B hB;have hB:look ((KO ((hs.it,.c .any)::s.E) ks t (s.c+1)).2.1++s.M.filter λp=>!(Jw p.1 kill)) id=some B:=hB;show look ((KO ((hs.it,.c (.ptr s.c 0))::s.E) ks t (s.c+1)).2.1++((s.c,.it (.mapIter (some bm) N ⟨seen⟩ N))::s.M).filter λp=>!(Jw p.1 kill)) id=some B;rw[Rj,aZ,aI (λy=>!(Jw y kill))]at hB;rw[aZ,aI (λy=>!(Jw y kill)),ar];by_cases hic:id=s.c
    ·subst hic;rw[sR (QfI _) c3n hnm.m,TD]at hB;split at hB
     ·exact absurd hfr (hg.mem.ok _ B hB).named
     ·cases hB
    ·rw[aj (λe=>hic e.symm)];exact hB
   ·intro id hid;have hid:Nat.blt id (KO ((hs.it,.c .any)::s.E) ks t (s.c+1)).2.2=false:=hid;rw[Rj]at hid;exact hid
 ·have he':e∈es2∧e.born∉seen:=by
   unfold leftOf at he;simpa using he
  obtain⟨k,hke⟩:=RL he'.1;obtain⟨hbk,hkN⟩:=hborn k e hke;have hkn:k∉seen:=hbk▸he'.2
  have hkl:k<l.length:=by omega
  cases m with
  | zero=>
   have:=E_ (N:=N) (l:=k::seen) (PI.2 ⟨hkn,hnd⟩) (λx hx=>by
    rcases Lr.1 hx with rfl | hx
    ·exact hkN
    ·exact hlt x hx)
   simp at this;omega
  | succ m=>
   obtain⟨t',hs1,hs2⟩:=hr k l[k] hkn (IZ hkl);obtain⟨_,kd0,abN,r1,r2,r3⟩:=j5 k l[k] e (IZ hkl) hke
   have Zv:Obj.mapIter (some bm) N ((⟨seen⟩:Array Nat).push e.born) es2.length = .mapIter (some bm) N ⟨seen++[k]⟩ N:=by rw[hbk,an_];simp
   rw[Zv]at hrun;generalize acg:Obj.mapIter (some bm) N ⟨seen++[k]⟩ N=MQ at hrun;have h1:=hs1 MQ;rw[hstep]at h1;simp only[r1]at h1;split at h1
   ·rename_i kd _ d hkd hd;cases hkd
    have Z7:Good P own' W0 n (merge nv dr kill (NU s hs.it (.mapIter (some bm) N ⟨seen⟩ N)) ks t).st g' a w2:=by
     rcases hw2 with rfl | rfl
     ·exact hg'
     ·exact rG hg'
    have hheap:w2.heap=w.heap:=by rcases hw2 with rfl | rfl<;>rfl
    have hg3:Good P own' W0 n (merge nv dr kill (NU s hs.it MQ) ks t).st g' a (NT w2 bit MQ):=by
     refine wT Z7 (id:=s.c) hM1 Ry rfl rfl ?_;intro x B hx;by_cases hxc:x=s.c
     ·subst hxc;rw[if_pos rfl];have hx:look (merge nv dr kill (NU s hs.it MQ) ks t).M s.c=some B:=hx
      rw[hnm.Ua _ (by omega) c3n]at hx
      simpa[NU,ar]using hx.symm
     ·rw[if_neg hxc];have hx:look ((KO ((hs.it,.c (.ptr s.c 0))::s.E) ks t (s.c+1)).2.1++((s.c,.it MQ)::s.M).filter λp=>!(Jw p.1 kill)) x=some B:=hx;show look ((KO ((hs.it,.c (.ptr s.c 0))::s.E) ks t (s.c+1)).2.1++((s.c,.it (.mapIter (some bm) N ⟨seen⟩ N))::s.M).filter λp=>!(Jw p.1 kill)) x=some B;rw[aZ,aI (λy=>!(Jw y kill)),ar,aj (λe=>hxc e.symm)]at hx ⊢;exact hx
    have hne:bm≠bit:=by rintro rfl;rw[hh]at j3;cases j3
    have aoh:(NT w2 bit MQ).heap[bm]? = some (.map ⟨es2⟩ es2.length):=by rw[rL _ _ _ hne,hheap];exact j3
    have ajr:(NT w2 bit MQ).heap[bit]? = some MQ:=by refine zj _ _ _ ?_;rw[hheap];exact(P_.1 hh).1
    have hrep:J4 P g' (NT w2 bit MQ) d e.val:=by
     have:=uF (P:=P) (g:=g') (w:=w) hd r1 r3
     have hle:Le g' w g' (NT w2 bit MQ):=by
      obtain⟨_,kk⟩:=qP (ob:=MQ) (B':=.it MQ) Z7.mem hM1 rfl (G.Kt Ry) (λhh _=>⟨bit,Ry,hh⟩)
      exact⟨kk.le.ids,kk.le.I7,λb hb=>(kk.le.heap b hb).trans (by rw[hheap]),kk.le.len,λb hb=>(kk.le.Uf b hb).trans (by rw[hheap])⟩
     exact this.le hle
    have hrk:Ju (NT w2 bit MQ) g'.I7 kd0 e.key:=by
     obtain⟨_,kk⟩:=qP (ob:=MQ) (B':=.it MQ) Z7.mem hM1 rfl (G.Kt Ry) (λhh _=>⟨bit,Ry,hh⟩)
     exact r2.mono (λ_ h=>h) (λb hb=>(kk.le.heap b hb).trans (by rw[hheap]))
    have hr3:J4 P g' (NT w2 bit MQ) (.MI [.c (.im (.b true)),.c (.im kd0),d]) (.tuple #[.bool true,e.key,e.val]):=by
     refine .MI rfl λj0 d0 x0 a0 b0=>?_
     match j0 with
     | 0=>cases a0;cases b0;exact .c (.im (.b _))
     | 1=>cases a0;cases b0;exact .c (.im hrk)
     | 2=>cases a0;cases b0;exact hrep
     | j0+3=>simp at a0
    have hr2:J4 P g' (NT w2 bit MQ) (.MI [.c (.im kd0),d]) (.tuple #[e.key,e.val]):=by
     refine .MI rfl λj0 d0 x0 a0 b0=>?_
     match j0 with
     | 0=>cases a0;cases b0;exact .c (.im hrk)
     | 1=>cases a0;cases b0;exact hrep
     | j0+2=>simp at a0
    have hg4:=yk hg3 l3 hr3 [] [];have hg5:=yk hg4 l4 (v:=.c (.im (.b true))) (x:=.bool true) (.c (.im (.b _))) [] [];have hg6:=yk hg5 l5 hr2 [] [];refine wp_seq (wp_region ?_)
    refine oG (o:=oc) (i:=0) (rest:=[1]) rfl n3 (v:=.tuple #[.bool true,e.key,e.val]) (w':=NT w2 bit MQ) (by simp[execOp,n2,aac,LM,hrun,Result.andThen];rfl) ?_
    have hex:(a.put oc.dst (.tuple #[.bool true,e.key,e.val])).eval (.tmp hs.d1) = .tuple #[.bool true,e.key,e.val]:=by
     rw[n1,nK (by rw[hsz0];exact l3)]
    refine oG (o:=od) (i:=1) (rest:=[]) rfl x3 (v:=.bool true) (w':=NT w2 bit MQ) (by simp[execOp,x2,hex,Instr.extract]) ?_
    simp only[wpOps,Exit.then]
    refine wp_seq (wp_cond_split (t:=true) ?_ (λ_=>wp_skip ?_) (λe=>by cases e))
    ·rw[x1,nK (by rw[n1];simpa[Act.put,hsz0]using l4)]
    simp only[Exit.then];obtain⟨z,tr,h2,t1,t2,t3,t4,t5⟩:=nE hT hΓ h1;obtain⟨E',h3,h4⟩:=jF h2
    have hsz:Nu.size=tr.length+1:=by rw[← SV,e2,← t1];simp
    refine wp_block (wp_seq (wp_region ?_));rw[hsz,QdZ,List.range'_succ]
    have anZ:((a.put oc.dst (.tuple #[.bool true,e.key,e.val])).put od.dst (.bool true)).eval (.tmp hs.it) = .pointer (some ⟨bit,0,none⟩):=by rw[n1,x1];show(Array.getD _ _ _)=_;rw[Rv,Rv,if_neg (λe=>m3 e.symm),if_neg (λe=>m2 e.symm)];exact aac
    refine oG (o:=oe) (i:=0) (rest:=List.range' (0+1) tr.length) (by rw[← ZF,e2];rfl) y3 (v:=.tuple #[e.key,e.val]) (w':=NT w2 bit MQ) ?_ ?_
    ·have:=run_entry_at (P:=P) (NT w2 bit MQ) bit bm N ⟨seen⟩ ⟨es2⟩ es2.length e (by rw[ajr,← acg,← Zv]) aoh (by simpa using he'.1) (by rw[hbn];exact QfH)
     simp[execOp,y2,anZ,LM,this,Result.andThen]
    rw[n1,x1,y1];refine mD (Kw:=Nu) rfl tr (0+1) _ z.st (λj0=>?_) t2 t3 hg6 ?_
    ·rw[← ZF,e2,← MU,t1,L_,XG,W_]
    intro g5 a5 w5 an8;simp only[Exit.then];refine wp_mono (hf own' _ _ t' h3 g5 a5 w5 (an8.sub ?_ (λ_ _ h=>h) (λ_ h=>h))) ?_
    ·intro x d0 hx;simp only[TS.st]at hx ⊢;rw[h4]at hx;split at hx
     ·exact hx
     ·cases hx
    rintro ee a6 w6 ⟨i',s',g6,rfl,h5,h6,h7⟩;obtain⟨hcond,h5⟩:=aL h5
    have hne2:∀{x:Nat},x<nv→x∉dr→∀y∈[hs.b,hs.d1,c2,hs.d3],y≠x:=by rintro x hx hxd y hy rfl;have:=hdrop _ hy;rw[M4.mpr hx]at this;simp only[Bool.true_and,Bool.not_eq_false']at this;exact hxd (aK.1 this)
    have hnext:∃m',m'<m+1∧∃(t:TLS F ks)(seen:List Nat),NY step l m' seen t v∧seen.Nodup∧(∀x∈seen,x<N)∧m'+seen.length=N∧Nm nv s hs.it kill ks t∧
      ∃g',Good P own' W0 n (merge nv dr kill (NU s hs.it (.mapIter (some bm) N ⟨seen⟩ N)) ks t).st g' a6 w6:=by
     have hEE:∀x,x<nv→x∉dr→x∉s'.dE→look s'.E x=look ((hs.it,.c (.ptr s.c 0))::s.E) x:=by
      intro x hx hxd hn;have q1:=h6.e x hx hn;have q2:=t5.e x hx (λhh=>hn (h6.dE x hh));rw[q1];show look E' x=_
      rw[h4,if_pos (by simp[Jw,M4.mpr hx]),q2]
      have hy:=hne2 hx hxd;simp only[yI,ar]
      rw[aj (hy _ (by simp)),aj (hy _ (by simp)),aj (hy _ (by simp))]
      simp only[Ni,if_false];rw[hnm.V3 _ (λh=>hxd (hk x h)),if_pos]
      ·rw[ar]
      ·rw[M4.mpr hx]
       cases hm:Jw x dr with
       | true=>exact absurd (aK.1 hm) hxd
       | false=>rfl
     have hMM:∀id,id<s.c+1→id∉kill→id∉s'.dM→look s'.M id=look (NU s hs.it MQ).M id:=by intro id hid hik hn;have hcm:s.c+1≤(yI nv s dr kill ks hs c2 MQ t kd0 d).c:=hnm.c;have q1:=h6.m id (O8 hid (MP hcm t5.c)) hn;have q2:=t5.m id (O8 hid hcm) (λhh=>hn (h6.dM id hh));rw[q1];show look z.M id=_;rw[q2];exact hnm.Ua (dr:=dr) _ hid hik
     obtain⟨o1,g7,o2⟩:=Y5 (MQ:=MQ) h7 hEE hMM h5
     ·refine⟨m,QfI m,t',seen++[k],hs2,?_,?_,?_,o1,g7,by rw[acg];exact o2⟩
      ·rw[WI]
       exact⟨hnd,by simp,λx hx y hy=>by rw[I4]at hy;subst hy;exactλe=>hkn (e▸hx)⟩
      ·intro x hx;rcases Mr.1 hx with hx | hx
       ·exact hlt x hx
       ·rw[I4]at hx;subst hx;exact hkN
      ·simp;omega
    rcases(PE _ _).mp hcond with hc0 | hc0
    ·have:=M_ hc0;subst this;exact hnext
    ·have:=M_ hc0;subst this;simp only[exC,Exit.then,Exit.inBlock,if_true];exact hnext
   ·cases h1
theorem Bi{c:Code}{q:RgC}(h:yF c=some q):∃id0 id1 id2,c = .seq (.region id0 q.M6 false) (.block q.i (.loop (.seq (.region id1 q.Mj false) (.seq (.cond (.tmp q.c2) .skip (.exit q.i')) (.block q.j (.seq (.region id2 q.Nu false) q.body)))))):=by
 unfold yF at h;split at h
 ·cases h;exact⟨_,_,_,rfl⟩
 ·cases h
theorem Fo(hT:J5 P T)(hΓ : Kz P Γ)(K5:P.follows .mixedOrders=true):∀(h:Hint),(∀(own:Ow)(c:Code),aY P own W0 n nv c (KP T Γ nv n h c))∧(h.isL=true→∀(own:Ow)(x:Code),yz P own W0 n nv x (KP T Γ nv n h (.loop x))):=by
 intro h
 induction h with
 | z=>
  refine⟨?_,λh=>by cases h⟩
  intro own c s R K r hr;exact LZ hT hΓ K5 c s K r (by simp only[KP]at hr;exact hr)
 | r kp=>
  refine⟨?_,λh=>by cases h⟩
  intro own c s R K r hr
  cases c with
  | region id ops draw=>exact CH (xo (id:=id) (kp:=kp) hT (rU hΓ) K5) kp s K r (by simp only[KP]at hr;exact hr)
  | _=>simp[KP]at hr
 | s h k ih ik=>
  refine⟨?_,λh=>by cases h⟩
  intro own c s R K r hr
  cases c with
  | seq x y=>exact DE (ih.1 own x) (ik.1 own y) s K r (by simp only[KP]at hr;exact hr)
  | _=>simp[KP]at hr
 | c h k ih ik=>
  refine⟨?_,λh=>by cases h⟩
  intro own c s R K r hr
  cases c with
  | cond t x y=>
   cases t with
   | tmp t=>exact AK (ih.1 own x) (ik.1 own y) s K r (by simp only[KP]at hr;exact hr)
   | const v=>cases v with
    | bool b=>exact yE (ih.1 own x) (ik.1 own y) s K r (by simp only[KP]at hr;exact hr)
    | _=>simp[KP]at hr
   | _=>simp[KP]at hr
  | _=>simp[KP]at hr
 | b h ih=>
  refine⟨?_,λh=>by cases h⟩
  intro own c s R K r hr
  cases c with
  | block i x=>exact yj (ih.1 own x) s K r (by simp only[KP]at hr;exact hr)
  | scope x=>exact yo (ih.1 own x) s K r (by simp only[KP]at hr;exact hr)
  | _=>simp[KP]at hr
 | l ks dr xs h ih=>
  refine⟨?_,λ_ own x s R K r hr=>za (dr:=dr++keysOf ks++MZ xs) (ks:=ks) (xs:=xs) hΓ (ih.1 own x) (λy hy=>by simp[hy]) (λy hy=>by simp[hy]) s K r (by simp only[KP]at hr;exact hr)⟩
  intro own c s R K r hr
  cases c with
  | loop x=>exact Gg (dr:=dr++keysOf ks++MZ xs) (ks:=ks) (xs:=xs) hΓ (ih.1 own x) (λy hy=>by simp[hy]) (λy hy=>by simp[hy]) s K r (by simp only[KP]at hr;exact hr)
  | _=>simp[KP]at hr
 | p h k ih ik=>
  refine⟨?_,λh=>by cases h⟩
  intro own c s R K r hr
  cases c with
  | loop x=>
   simp only[KP]at hr
   cases hk:k.isL with
   | false=>rw[hk]at hr;cases hr
   | true=>rw[hk]at hr;exact F2 (ih.1 own x) (ik.2 hk own x) s K r hr
  | _=>simp[KP]at hr
 | u k h ih=>
  refine⟨?_,λh=>by cases h⟩
  intro own c s R K r hr
  cases c with
  | loop x=>exact IS (ih.1 own x) k s K r (by simp only[KP]at hr;exact hr)
  | _=>simp[KP]at hr
 | j dr xs h ih=>
  refine⟨?_,λh=>by cases h⟩
  intro own c s R K r hr
  exact GY (dr:=dr++MZ xs) (xs:=xs) hΓ (ih.1 own c) (λy hy=>by simp[hy]) s K r (by simp only[KP]at hr;exact hr)
 | m x ix ex dr h ih=>
  refine⟨?_,λh=>by cases h⟩
  intro own c s R K r hr
  cases c with
  | loop y=>exact EM (x:=x) (ix:=ix) (ex:=ex) (dr:=dr) (ih.1 own y) s K r (by simp only[KP]at hr;exact hr)
  | _=>simp[KP]at hr
 | g ks dr h ih=>
  refine⟨?_,λh=>by cases h⟩
  intro own c s R K r hr;simp only[KP]at hr;split at hr
  ·cases hr
  rename_i q hq;obtain⟨id0,id1,id2,rfl⟩:=Bi hq;obtain⟨hi,hr⟩:=aL hr;have:=M_ hi;rw[this]
  exact EL (dr:=dr++keysOf ks) hT hΓ (λown'=>ih.1 own' _) (λy hy=>by simp[hy]) s K r hr
theorem F3(hT:J5 P T)(hΓ : Kz P Γ)(K5:P.follows .mixedOrders=true)(h:Hint)(c:Code):aY P own W0 n nv c (KP T Γ nv n h c):=(Fo hT hΓ K5 h).1 own c
end
set_option linter.unusedVariables false
set_option linter.unusedSimpArgs false
section
variable{F:Fam}{P:Program}{T:TypeId→Option (TI F)}{Γ : Ctx F}{nv n:Nat}{own:Ow}{W0:World}{g:G}{a:Act}{w:World}{m mm:Nat→Option (J8 F)}
def qk(tmps:Array Value):ResultVar→Sem Value
 | .tmp t=>Pure.pure (tmps.getD t undef)
 | .cell a t=>do loadVar t (← asAddr (tmps.getD a undef))
theorem GX(hT:J5 P T){s:TS F}(hg:Good P own W0 n s.st g a w){r:ResultVar}{d:Dat F}(h:ZP T s r=some d) :
  ∃v,(qk a.tmps r).run P w = .ok v w∧J4 P g w d v:=by
 cases r with
 | tmp t=>exact⟨_,rfl,hg.env t d h⟩
 | cell x ty=>
  simp only[ZP]at h;split at h
  ·cases h
  ·rename_i ti hty;split at h
   ·rename_i id off hx;split at h
    ·rename_i cs MF;obtain⟨b,c,hi,e⟩:=bo (hg.env x _ hx);obtain⟨v,hrun,hrep⟩:=cE (P:=P) (g:=g) (w:=w) hT hty h (b:=b) (q:=0) (xc hg.mem MF hi);rw[L_]at hrun;refine⟨v,?_,hrep⟩;simp only[qk,e,asAddr,LM,MO,L8,hrun]
    ·cases h
   ·cases h
theorem ul(hT:J5 P T){s:TS F}(hg:Good P own W0 n s.st g a w):∀{rs:List ResultVar}{ds:List (Dat F)} (_:Sg T s rs=some ds),
  ∃vs:List Value,(rs.mapM (qk a.tmps)).run P w = .ok vs w∧Kq P g w ds vs
 | [],ds,h=>by
  simp only[Sg,K3]at h;subst h
  exact⟨[],by simp,rfl,by simp⟩
 | r::rs,ds,h=>by
  simp only[Sg]at h;split at h
  ·cases h
  ·rename_i d hd;split at h
   ·cases h
   ·rename_i l hl;cases h;obtain⟨v,hv,hr⟩:=GX hT hg hd;obtain⟨vs,hvs,hrs⟩:=ul hT hg hl
    exact⟨v::vs,by simp only[List.mapM_cons,LM,hv,L8,hvs,MO],aP.2 ⟨hr,hrs⟩⟩
theorem lE{os os':List (Option Nat)}:I5 ((os++os').map (Kc g))=I5 (os.map (Kc g))++I5 (os'.map (Kc g)):=by rw[SQ,av]
theorem rD(hΓ : Kz P Γ)(hm:Jl own g w m)(hle:Na mm m):∀{ks:List Kd}{ds:List (Dat F)} {bx:List Nat} {p:Pk (TL F ks)},bZ Γ mm ks ds bx=some p→∀{I7:Nat→Prop},Pd g p.fz I7→∀{vs:List Value}{Jv:List Pl},Kq P g w ds vs→
  bx.map g.ids=Jv.map some→(ks.filter Kd.KT).length=bx.length→
  ∃Jg,bF P w I7 ks p.x vs Jv Jg∧(I5 (p.os.map (Kc g))).Perm (I5 Jv++I5 Jg)∧NP mm p.fz∧(∀id,some id∈p.os→∃B,mm id=some B∧B.owned=true):=by
 have one:∀{k:Kd}{d:Dat F}{p:Pk (k.El F)},Nt Γ mm k d=some p→k.KT=false→∀{I7:Nat→Prop},Pd g p.fz I7→∀{v:Value},J4 P g w d v→
   Held P w I7 k p.x v (p.os.map (Kc g)) []∧NP mm p.fz∧(∀id,some id∈p.os→∃B,mm id=some B∧B.owned=true):=by
  intro k d p h hb I7 hi v hr;obtain⟨Jv,h1,h2,h3,h4,h5⟩:=qI hΓ hm hle h hi hr
  have:Jv = []:=by
   cases k with
   | box=>cases hb
   | v t ow=>exact h1.2
   | rp t=>exact h1.2.1
   | fn ks r=>exact h1.2.1
   | O1 t=>exact h1.2.1
   | pk k t=>exact h1.2.1
   | ln t=>exact h1.2.1
   | nb t ow=>obtain⟨_,_,h,_⟩:=h1;exact h
   | cl f n=>exact h1.elim
   | row t arr=>cases hb
  subst this;exact⟨h1,h3,h4⟩
 have box:∀{t:Ty}{ow:List Nat}{b:Nat}{p:Pk (ET F t)},jR mm t ow (.c (.ptr b 0))=some p→∀{I7:Nat→Prop},Pd g p.fz I7→∀{q':Pl},g.ids b=some q'→
   ∃(q:Nat×Nat×Nat)(Jg:List Pl),q'=some (RU q)∧Pq w I7 t ow p.x q.1 Jg∧I5 (p.os.map (Kc g))=q.1::I5 Jg∧NP mm p.fz∧(∀id,some id∈p.os→∃B,mm id=some B∧B.owned=true):=by
  intro t ow b p h I7 hi q' hq'
  obtain⟨q,hq⟩:∃q,g.ids b=some (some q):=by
   simp only[jR]at h;split at h
   ·rename_i cs MF;obtain⟨b',c',arr,e,k1,_⟩:=hm.ok b _ (hle _ _ MF);exact⟨_,k1⟩
   ·cases h
  rw[hq]at hq';cases hq';obtain⟨id,bx,os,h1,h2,h3,h4,h5,h6,h7,h8⟩:=kM hm hle h hi (P:=P) (v:=.pointer (some ⟨q.1,0,none⟩)) (.c (.ptr hq));cases h3;rw[hq]at h4;cases h4;refine⟨bx,os.map (Kc g),rfl,h6,?_,NP.MH h7,h8⟩;rw[h1];simp[Kc,hq,I5,Kr]
 intro ks
 induction ks with
 | nil=>
  intro ds bx p h I7 hi vs Jv hr hb hc
  cases ds with
  | cons d ds=>cases bx<;>simp[bZ]at h
  | nil=>
   cases bx with
   | cons b bx=>simp[bZ]at h
   | nil=>
    simp only[bZ,K3]at h;subst h;have h1:=em hr
    have h2:Jv = []:=by simpa using hb.symm
    subst h1 h2
    exact⟨[],⟨rfl,rfl,rfl⟩,by simp[I5],λid hid=>by simp at hid,by simp⟩
 | cons k ks ih=>
  intro ds bx p h I7 hi vs Jv hr hb hc
  cases hkb:k.KT with
  | true=>
   cases k with
   | v=>cases hkb
   | rp=>cases hkb
   | fn=>cases hkb
   | O1=>cases hkb
   | pk=>cases hkb
   | ln=>cases hkb
   | nb=>cases hkb
   | cl=>cases hkb
   | row t arr=>
    cases bx with
    | nil=>simp[WH,Kd.KT]at hc
    | cons b bx=>
     obtain⟨q,Nv,rfl,hq,hb'⟩:=gT hb.symm
     have row:∀{p:Pk (List (ET F t))},pP mm t b=some p→LX w I7 t p.x q∧p.os = [some b]∧NP mm p.fz∧(∀id,some id∈p.os→∃B,mm id=some B∧B.owned=true):=by
      intro p hp;obtain⟨h1,h2,h3,h4,l,h5⟩:=tL hm hle hp
      have e:Kc g (some b)=q:=by simp[Kc,← hq]
      rw[e]at h4
      refine⟨h4.le hi.I7,h1,λid hid=>by rw[h3]at hid;simp at hid,?_⟩
      intro id hid;rw[h1]at hid;simp only[I4,K3]at hid;subst hid;exact⟨_,h5,fH⟩
     have e1:I5 [Kc g (some b)]=I5 [q]:=by simp[Kc,← hq]
     cases ks with
     | nil=>
      have hbx:bx = []:=by apply O9;simpa[WH,Kd.KT]using hc.symm
      subst hbx
      have:Nv = []:=by simpa using hb'
      subst this
      cases ds with
      | cons d ds=>simp[bZ]at h
      | nil=>
       simp only[bZ]at h;obtain⟨h1,h2,h3,h4⟩:=row h;have hv:=em hr;subst hv
       exact⟨[],⟨q,rfl,rfl,h1,rfl⟩,by rw[h2];simp only[K7,LG];rw[e1];simp[I5],h3,h4⟩
     | cons l ks=>
      simp only[bZ]at h;split at h
      ·cases h
      ·rename_i p1 hp1;split at h
       ·cases h
       ·rename_i p2 hp2;cases h;obtain⟨h1,h2,h3,h4⟩:=row hp1
        obtain⟨Kg,k1,k2,k3,k4⟩:=ih hp2 (hi.sub (λid hid=>by simp[hid])) hr hb'.symm (by simpa[WH,Kd.KT]using hc)
        refine⟨Kg,⟨q,Nv,rfl,h1,k1⟩,?_,h3.append k3,?_⟩
        ·show(I5 ((p1.os++p2.os).map (Kc g))).Perm _;rw[lE,h2];simp only[K7,LG]
         rw[e1,show(q::Nv) = [q]++Nv from rfl,av,MK]
         exact QdX _ k2
        ·intro id hid;rcases Mr.1 hid with hid | hid
         ·exact h4 id hid
         ·exact k4 id hid
   | box t ow=>
    cases bx with
    | nil=>simp[WH,Kd.KT]at hc
    | cons b bx=>
     obtain⟨q,Nv,rfl,hq,hb'⟩:=gT hb.symm
     cases ks with
     | nil=>
      have hbx:bx = []:=by apply O9;simpa[WH,Kd.KT]using hc.symm
      subst hbx
      have:Nv = []:=by simpa using hb'
      subst this
      cases ds with
      | cons d ds=>simp[bZ]at h
      | nil=>
       simp only[bZ]at h;obtain⟨q,Jg,rfl,h1,h2,h3,h4⟩:=box h hi hq.symm;have hv:=em hr;subst hv
       exact⟨Jg,⟨q,rfl,rfl,h1⟩,by rw[h2];exact .refl _,h3,h4⟩
     | cons l ks=>
      simp only[bZ]at h;split at h
      ·cases h
      ·rename_i p1 hp1;split at h
       ·cases h
       ·rename_i p2 hp2;cases h
        obtain⟨q,Jg,rfl,h1,h2,h3,h4⟩:=box hp1 (hi.sub (λid hid=>by simp[hid])) hq.symm
        obtain⟨Kg,k1,k2,k3,k4⟩:=ih hp2 (hi.sub (λid hid=>by simp[hid])) hr hb'.symm (by simpa[WH,Kd.KT]using hc)
        refine⟨Jg++Kg,⟨q,Nv,Jg,Kg,rfl,rfl,h1,k1⟩,?_,h3.append k3,?_⟩
        ·show(I5 ((p1.os++p2.os).map (Kc g))).Perm _;rw[lE,h2,av];show(q.1::I5 Jg++_).Perm (q.1::I5 Nv++_);rw[SS,SS];refine List.Perm.cons _ ?_;refine(QdX _ k2).trans ?_;rw[← MK,← MK];exact QfE _ QcN
        ·intro id hid;rcases Mr.1 hid with hid | hid
         ·exact h4 id hid
         ·exact k4 id hid
  | false=>
   have hc':(ks.filter Kd.KT).length=bx.length:=by rw[List.filter_cons_of_neg (by simp[hkb])]at hc;exact hc
   cases ks with
   | nil=>
    have hbx:bx = []:=by apply O9;simpa using hc'.symm
    subst hbx
    have:Jv = []:=by simpa using hb.symm
    subst this
    match ds,h,hr with
    | [],h,hr=>cases k<;>first | (cases hkb;done) | simp[bZ]at h
    | [d],h,hr=>
     have h':Nt Γ mm k d=some p:=by cases k<;>first | (cases hkb;done) | exact h
     obtain⟨v,vs',rfl,h1,h2⟩:=fj hr;have hv:=em h2;subst hv;obtain⟨k1,k2,k3⟩:=one h' hkb hi h1
     refine⟨p.os.map (Kc g),?_,by simp[I5],k2,k3⟩
     cases k<;>first | (cases hkb;done) | exact⟨v,rfl,rfl,k1⟩
    | d::e::ds,h,hr=>cases k<;>first | (cases hkb;done) | simp[bZ]at h
   | cons l ks=>
    match ds,h,hr with
    | [],h,hr=>cases k<;>first | (cases hkb;done) | simp[bZ]at h
    | d::ds,h,hr=>
     have h':(match Nt Γ mm k d with
      | none=>none
      | some p=>match bZ Γ mm (l::ks) ds bx with
       | none=>none
       | some q=>some (⟨(p.x,q.x),p.os++q.os,p.fz++q.fz,p.bx++q.bx⟩:Pk (k.El F×TL F (l::ks))))=some p:=by cases k<;>first | (cases hkb;done) | exact h
     obtain⟨v,vs',rfl,h1,h2⟩:=fj hr;split at h'
     ·cases h'
     ·rename_i p1 hp1;split at h'
      ·cases h'
      ·rename_i p2 hp2;cases h'
       obtain⟨k1,k2,k3⟩:=one hp1 hkb (hi.sub (λid hid=>by simp[hid])) h1
       obtain⟨Kg,l1,l2,l3,l4⟩:=ih hp2 (hi.sub (λid hid=>by simp[hid])) h2 hb hc'
       refine⟨p1.os.map (Kc g)++Kg,?_,?_,k2.append l3,?_⟩
       ·cases k<;>first | (cases hkb;done) | exact⟨v,vs',_,Kg,rfl,rfl,k1,l1⟩
       ·show(I5 ((p1.os++p2.os).map (Kc g))).Perm _;rw[lE,av];refine(QdX _ l2).trans ?_;rw[← MK,← MK];exact QfE _ QcN
       ·intro id hid;rcases Mr.1 hid with hid | hid
        ·exact k3 id hid
        ·exact l4 id hid
theorem pG:∀(l:List (Dat F)) (k x:Nat) (d:Dat F),look (params k l) x=some d→∃j,x=k+j∧l[j]? = some d
 | [],k,x,d,h=>by simp[params,look]at h
 | y::l,k,x,d,h=>by
  simp only[params,ar]at h;split at h
  ·rename_i hb;have:=M_ hb;subst this;cases h;exact⟨0,rfl,rfl⟩
  ·obtain⟨j,h1,h2⟩:=pG l (k+1) x d h
   exact⟨j+1,by omega,by simpa using h2⟩
theorem bP:∀{ks:List Kd}{a:HL F ks}{c:Nat},(aN ks a c).length=(ks.filter Kd.KT).length
 | [],_,_=>rfl
 | .v t ow::ks,a,c=>by simp only[aN];rw[bP];rfl
 | .box t ow::ks,a,c=>by simp only[aN,P8];rw[bP];rfl
 | .rp t::ks,a,c=>by simp only[aN];rw[bP];rfl
 | .fn k r::ks,a,c=>by simp only[aN];rw[bP];rfl
 | .O1 t::ks,a,c=>by simp only[aN];rw[bP];rfl
 | .pk k0 t::ks,a,c=>by simp only[aN];rw[bP];rfl
 | .ln t::ks,a,c=>by simp only[aN];rw[bP];rfl
 | .nb t ow::ks,a,c=>by simp only[aN];rw[bP];rfl
 | .row t arr::ks,a,c=>by simp only[aN,P8];rw[bP];rfl
 | .cl f n::ks,a,c=>by simp only[aN];rw[bP];rfl
theorem nC{I7:Nat→Prop}:∀{ks:List Kd}{a:HL F ks}{vs:List Value}{Jg:List Pl} {Jv:List Pl},bR P w I7 ks a vs Jg Jv→vs.length≤ks.length
 | [],a,vs,Jg,Jv,h=>by rw[h.1];exact KC _
 | k::ks,a,vs,Jg,Jv,h=>by
  cases hk:k.PS with
  | true=>
   cases k with
   | cl f n=>obtain⟨us,vs',rfl,hl,h2⟩:=h;have:=nC h2;simp only[I3]at this;simp only[P8];omega
   | _=>cases hk
  | false=>
  obtain⟨v,vs',p1,p2,b1,b2,rfl,_,_,_,h2⟩:=lX hk h;simpa using nC h2
theorem lI{α : Type}{x:Nat}:∀{l:List (Nat×α)} {y:α},look l x=some y→(x,y)∈l
 | [],y,h=>by simp[look]at h
 | (z,b)::l,y,h=>by
  rw[ar]at h;split at h
  ·rename_i hb;have:=M_ hb;subst this;cases h;simp
  ·exact PG _ (lI h)
theorem tR{fn:Func}{a:Act}{vs:List Value}(h:(fn.results.toList.mapM (qk a.tmps)).run P w = .ok vs w):(results fn a.tmps).run P w = .ok (PK vs) w:=by
 have hmap:(fn.results.mapM (qk a.tmps)).run P w = .ok ⟨vs⟩ w:=by rw[Array.mapM_eq_mapM_toList];simp[h]
 have hres:(results fn a.tmps).run P w = .ok (if h:(⟨vs⟩:Array Value).size=1 then(⟨vs⟩:Array Value)[0]else .tuple ⟨vs⟩) w:=by
  unfold results;rw[LM]
  have e:(λ(r:ResultVar)=>match r with | .tmp t=>(Pure.pure (a.tmps.getD t undef):Sem Value) | .cell x t=>do loadVar t (← asAddr (a.tmps.getD x undef)))=qk a.tmps:=by
   funext r
   cases r<;>rfl
  have e2:(fn.results.mapM (λ(r:ResultVar)=>match r with | .tmp t=>(Pure.pure (a.tmps.getD t undef):Sem Value) | .cell x t=>do loadVar t (← asAddr (a.tmps.getD x undef)))).run P w = .ok ⟨vs⟩ w:=by rw[e];exact hmap
  exact(congrArg (λr=>Result.andThen r _) e2)
 rw[hres]
 match vs with
 | [v]=>rfl
 | []=>rfl
 | v::x::vs=>
  rw[dif_neg]
  ·rfl
  ·simp
theorem nP{I7:Nat→Prop}:∀{ks:List Kd}{a:HL F ks}{vs:List Value}{Jg:List Pl} {Jv:List Pl},ks.all Kd.Y0=true→bR P w I7 ks a vs Jg Jv→Jg = []
 | [],a,vs,Jg,Jv,_,h=>h.2.1
 | k::ks,a,vs,Jg,Jv,hn,h=>by
  simp only[TB,KV]at hn
  have hk:k.PS=false:=by
   cases k with
   | cl f n=>cases hn.1
   | _=>rfl
  obtain⟨v,vs',p1,p2,b1,b2,rfl,rfl,rfl,h1,h2⟩:=lX hk h;rw[nP hn.2 h2,XI]
  cases k with
  | v t ow=>cases ow with
   | nil=>exact h1.1.LD
   | cons=>cases hn.1
  | box=>cases hn.1
  | row=>cases hn.1
  | rp=>exact h1.1
  | fn=>exact h1.1
  | O1=>exact h1.1
  | pk=>exact h1.1
  | ln=>exact h1.1
  | nb=>cases hn.1
  | cl=>cases hn.1
theorem sN{I7:Nat→Prop}:∀{ks:List Kd}{a:HL F ks}{vs:List Value}{Jg:List Pl} {Jv:List Pl},bR P w I7 ks a vs Jg Jv→∃L:Nat→Prop,(∀b,L b→b<w.heap.size)∧(ks.all (λk=>!k.UA)=true→∀b,¬ L b)∧
  ∀{g:G},(∀b,L b→g.len b)→∀{ds:List (Dat F)},Kq P g w ds vs→Kq P g w (Ph ks a ds) vs
 | [],a,vs,Jg,Jv,h=>⟨λ_=>False,λ_ h=>h.elim,λ_ _ h=>h,λ_ _ h=>h⟩
 | k::ks,a,vs,Jg,Jv,h=>by
  cases hk:k.PS with
  | true=>
   cases k with
   | cl f n=>
    obtain⟨us,vs',rfl,hl,h2⟩:=h;obtain⟨L,l1,l2,l3⟩:=sN h2
    refine⟨L,l1,λhh=>l2 (by simpa[Kd.UA]using hh),λ{g} hg {ds} hr=>?_⟩
    match ds,hr with
    | [],hr=>exact hr
    | d::ds,hr=>exact hr
   | _=>cases hk
  | false=>
  obtain⟨v,vs',p1,p2,b1,b2,rfl,rfl,rfl,h1,h2⟩:=lX hk h;clear h;obtain⟨L,l1,l2,l3⟩:=sN h2
  have plain:k.UA=false→(∀(a:HL F (k::ks)) (d:Dat F) (ds:List (Dat F)),Ph (k::ks) a (d::ds)=d::Ph ks a.2 ds)→∃L:Nat→Prop,(∀b,L b→b<w.heap.size)∧((k::ks).all (λk=>!k.UA)=true→∀b,¬ L b)∧
    ∀{g:G},(∀b,L b→g.len b)→∀{ds:List (Dat F)},Kq P g w ds (v::vs')→Kq P g w (Ph (k::ks) a ds) (v::vs'):=by
   intro hk he
   refine⟨L,l1,λhh=>l2 (by simpa[hk]using hh),λ{g} hg {ds} hr=>?_⟩
   match ds,hr with
   | [],hr=>exact absurd hr.1 (by simp)
   | d::ds,hr=>rw[he];have:=aP.1 hr;exact aP.2 ⟨this.1,l3 hg this.2⟩
  cases k with
  | v=>exact plain rfl λ_ _ _=>rfl
  | box=>exact plain rfl λ_ _ _=>rfl
  | row=>exact plain rfl λ_ _ _=>rfl
  | rp=>exact plain rfl λ_ _ _=>rfl
  | fn=>exact plain rfl λ_ _ _=>rfl
  | O1=>exact plain rfl λ_ _ _=>rfl
  | pk=>exact plain rfl λ_ _ _=>rfl
  | nb=>exact plain rfl λ_ _ _=>rfl
  | cl=>cases hk
  | ln t=>
   obtain⟨_,_,I,i1,i2⟩:=h1
   refine⟨λb=>I b∨L b,λb hb=>hb.elim (i1 b) (l1 b),λhh=>by simp[Kd.UA]at hh,λ{g} hg {ds} hr=>?_⟩
   match ds,hr with
   | [],hr=>exact absurd hr.1 (by simp)
   | d::ds,hr=>
    have hrr:=aP.1 hr;refine aP.2 ⟨?_,l3 (λb hb=>hg b (.inr hb)) hrr.2⟩
    have cel:∀(d:ND F)(x:Value),Ju w I d x→Ka g w (if d.flat then .im d else .ln d) x:=by
     intro d x h;split
     ·rename_i hf;exact .im (h.flat hf)
     ·exact .ln (h.mono (λb hb=>.inr (hg b (.inl hb))) λ_ _=>rfl)
    have hrt:=nW i2;show J4 P g w (V4 t a.1) v;unfold V4 Sr;generalize Jj F t a.1=cs at hrt
    cases hs:t.K9 with
    | true=>
     rw[hs]at hrt
     cases hrt with
     | agg hl h=>
      rw[if_pos rfl]
      refine .agg (by rw[OD];exact hl) λk c x a b=>?_
      rw[MU]at a;obtain⟨c0,h0,rfl⟩:=RN.1 a;exact cel c0 x (h k c0 x h0 b)
    | false=>
     rw[hs]at hrt
     cases hrt with
     | one h=>exact .c (cel _ _ h)
theorem Hf (hT : J5 P T) (hΓ : Kz P Γ) (K5 : P.follows .mixedOrders = true) {f : FuncId} {fn : Func} {sp : Spec F} {h : Hint} (hf : P.funcs[f]? = some fn) (hnm : (fn.name == "runtime.NumGoroutine") = false) (hbn : fn.body.isNone = false) (hlen : Nat.ble sp.ks.length fn.ntmps = true)
  (hrs:sp.rs.all (λk=>!k.KT)=true) (hD:∀a r,sp.D a=some r→TJ T Γ nv fn h sp.ks sp.rs a=some r):Lf P f sp:=by
 refine⟨?_,?_⟩
 ·exact⟨fn,hf,hnm,hbn⟩
 intro a r hr I7 w vs Jg Jv KN hpl Kl;have hd:=hD a r hr;unfold TJ at hd;split at hd
 ·cases hd
 ·rename_i body hbody;dsimp only at hd;obtain⟨Sw,hd⟩:=aL hd;obtain⟨L,l1,l2,l3⟩:=sN KN
  let g0:G:=⟨(G.RZ 0 Jg I7).ids,I7,L⟩
  have aai:MG g0 0 Jg:=λj pl hj=>vG (I:=I7) (Jg:=Jg) (c:=0) j pl hj;obtain⟨h1,h2,h3,h4⟩:=qw (g:=g0) (c:=0) KN aai;have h1:=l3 (g:=g0) (λ_ h=>h) h1
  have Uc:∀b,L b→¬ (b∈I5 Jg∨w.heap.size≤b)∧b<w.heap.size:=by
   intro b hb;refine⟨λho=>?_,l1 b hb⟩;rcases PE _ _▸Sw with hs | hs
   ·exact l2 hs b hb
   ·rw[nP hs KN]at ho;rcases ho with ho | ho
    ·simp[I5]at ho
    ·exact absurd (l1 b hb) (Nat.not_lt.2 ho)
  simp only[L_]at h3;refine calls_of_wp hf hbody ?_
  let own:Ow:=⟨λb=>b∈I5 Jg∨w.heap.size≤b,I7,(G.RZ 0 Jg I7).ids⟩
  have hvl:=nC KN;have hlen':sp.ks.length≤fn.ntmps:=P9 hlen
  have hblk:∀{id:Nat}{B:J8 F}{b:Nat},look (Lb sp.ks a 0).2.1 id=some B→g0.blk id b→∃b0 q,Jg[id]? = some (some (b0,q))∧b∈b0::Kr q.2.2:=by rintro id B b _ ⟨b0,q,hq,hbb⟩;simp only[g0,G.RZ]at hq;rw[if_pos (U8 _),QeY]at hq;exact⟨b0,q,hq,hbb⟩
  have hgood:Good P own w fn.ntmps (⟨params 0 (Ph sp.ks a (Lb sp.ks a 0).1),(Lb sp.ks a 0).2.1,(Lb sp.ks a 0).2.2,[],[]⟩:TS F).st g0 { tmps:=(⟨vs⟩:Array Value)++Array.replicate (fn.ntmps - (⟨vs⟩:Array Value).size) undef,defers:=[] } w:=by
   refine⟨rfl,?_,?_,⟨?_,?_,?_,Kl,λb hb=>.inl hb,Uc⟩,?_,λ_ h=>h,⟨rfl,rfl,rfl,KC _,λb hb=>.inr hb,λ_ _ _=>rfl,KC _⟩,λ_ _ h=>h⟩
   ·simp[hvl];omega
   ·intro x d hx;obtain⟨j,rfl,hj⟩:=pG _ 0 x d hx
    have hlt:j<vs.length:=by rw[h1.1];exact(I0.1 hj).1
    have:((⟨vs⟩:Array Value)++Array.replicate (fn.ntmps - (⟨vs⟩:Array Value).size) undef).getD (0+j) undef=vs[j]:=by
     rw[L_,Q_,ZG (by simpa using hlt)]
     simp[hlt]
    rw[this];exact h1.2 j d _ hj (IZ hlt)
   ·intro id B hB;obtain⟨j,_,_,_,q⟩:=h2 _ (lI hB);exact q
   ·intro id id' B B' b hB hB' _ _ hb hb';obtain⟨b0,q,hq,hx⟩:=hblk hB hb;obtain⟨b0',q',hq',hx'⟩:=hblk hB' hb';exact iM hpl.nodup hq hx hq' hx'
   ·intro id B b hB _ hb;obtain⟨b0,q,hq,hx⟩:=hblk hB hb;have:=bQ.2 ⟨id,b0,q,hq,hx⟩;exact⟨.inl this,hpl.I7 b this⟩
   ·intro id hid;simp only[TS.st,br,decide_eq_false_iff_not,h3]at hid;simp only[g0,G.RZ]
    rw[if_pos (U8 _),QeY,QdG (by omega)]
  refine wp_mono (F3 hT hΓ K5 h body _ _ r hd _ _ _ hgood) ?_;rintro e a' w' ⟨k,s',g',rfl,k2,k3,k4⟩
  have key:bodyPost P fn (λe w'=>∃(M0:List Value)(Jo:Nat→Prop)(Kg:List Pl),e = .returned (PK M0)∧
   w'.os=w.os∧w'.tape=w.tape∧w'.output=w.output∧w.drawn≤w'.drawn∧w.heap.size≤w'.heap.size∧(∀b,b<w.heap.size→b∉I5 Jg→w'.heap[b]? = w.heap[b]?)∧
   (∀b,I7 b→Jo b)∧(∀b,Jo b→I7 b∨b∈I5 Jg∨w.heap.size≤b)∧(∀b,Jo b→b<w'.heap.size)∧
   bF P w' Jo (outs sp) r M0 Jv Kg∧Od w' Jo (I5 Jv++I5 Kg)∧∀b∈I5 Jv++I5 Kg,b∈I5 Jg∨w.heap.size≤b) .ret a' w'∧(k=0∨k=1):=by
   have hk:(k=0∨k=1)∧OI T Γ fn sp.ks sp.rs a s'=some r:=by
    match k,k2 with
    | 0,k2=>exact⟨.inl rfl,k2⟩
    | 1,k2=>exact⟨.inr rfl,k2⟩
    | k+2,k2=>cases k2
   refine⟨?_,hk.1⟩;have k2:=hk.2;unfold OI at k2;split at k2
   ·cases k2
   ·rename_i rd hrd;split at k2
    ·cases k2
    ·rename_i p hp;obtain⟨hc,k2⟩:=aL k2;simp only[KV]at hc;cases k2;obtain⟨M0,q1,q2⟩:=ul hT k4 hrd
     have Wm:(aN sp.ks a 0).map g'.ids=Jv.map some:=by rw[← h4];refine QdP λid hid=>?_;obtain⟨q,_,hq⟩:=jc h4 hid;rw[hq];exact k4.N8 id _ hq
     have hcnt:((sp.rs++sp.ks.filter Kd.KT).filter Kd.KT).length=(aN sp.ks a 0).length:=by
      rw[bP,XH,List.filter_filter]
      have:sp.rs.filter Kd.KT = []:=by rw[QfF];intro k hk;have:=Oe.1 hrs k hk;simpa using this
      rw[this];simp
     obtain⟨Kg,p1,p2,p3,p4⟩:=rD hΓ k4.mem (λ_ _ h=>h) hp (I7:=(g'.Nq p.fz).I7) ⟨λ_ h=>.inl h,λid hid b hb=>.inr ⟨id,hid,hb⟩⟩ q2 Wm hcnt;have hfr:=freeze k4.mem (λ_ _ h=>h) p3
     have hL:∀b∈I5 Jv++I5 Kg,∃id B,some id∈p.os∧look s'.M id=some B∧B.owned=true∧g'.blk id b:=by intro b hb;obtain⟨id,r1,r2⟩:=bC.1 (p2.mem_iff.2 hb);obtain⟨B,r3,r4⟩:=p4 id r1;exact⟨id,B,r1,r3,r4,r2⟩
     refine⟨k4.Py,PK M0,tR q1,M0,(g'.Nq p.fz).I7,Kg,rfl,k4.Lc.os,k4.Lc.tape,k4.Lc.output,k4.Lc.drawn,k4.Lc.size,?_,λb hb=>.inl (k4.O5 b hb),?_,hfr.I7,p1,⟨?_,?_,?_⟩,?_⟩
     ·intro b hb hno
      exact k4.Lc.block b hb (λho=>ho.elim hno (λh=>by omega))
     ·intro b hb;exact hfr.io b hb
     ·exact p2.nodup_iff.1 (fg k4.mem (eC hc.1) p4)
     ·intro b hb;obtain⟨id,B,r1,r2,r3,r4⟩:=hL b hb;have hno:id∉p.fz:=jN hc.2 id (dn.2 r1)
      exact(hfr.own id B b (by rw[gb,if_neg hno];exact r2) r3 r4).2
     ·intro b hb;obtain⟨id,B,r1,r2,r3,r4⟩:=hL b hb;exact(k4.mem.ok id B r2).place k4.mem.I7 (J8.MX r3) r4
     ·intro b hb;obtain⟨id,B,r1,r2,r3,r4⟩:=hL b hb;exact(k4.mem.own id B b r2 r3 r4).1
  obtain⟨key,hk⟩:=key;rcases hk with rfl | rfl
  ·exact key
  ·exact key
end
set_option linter.unusedVariables false
set_option linter.unusedSimpArgs false
section
variable{F:Fam}
def ZH:ND F→Value→Bool
 | .i k n,.int k' m=>k == k'&&n == m
 | .b x,.bool y=>x == y
 | .s [],.string ⟨⟨[]⟩⟩=>true
 | .nl,.slice none 0 0=>true
 | .v (.pointer none),.pointer none=>true
 | .v (.map none),.map none=>true
 | _,_=>false
def zok:List (ND F)→List Value→Bool
 | [],[]=>true
 | d::l,x::r=>ZH d x&&zok l r
 | _,_=>false
theorem HE{d:ND F}{x:Value}(h:ZH d x=true)(w:World)(I7:Nat→Prop):Ju w I7 d x:=by
 unfold ZH at h;split at h
 ·simp only[KV,beq_iff_eq]at h;obtain⟨rfl,rfl⟩:=h;exact .i _ _
 ·simp only[beq_iff_eq]at h;subst h;exact .b _
 ·exact .s []
 ·exact .nl _
 ·exact .v _ rfl
 ·exact .v _ rfl
 ·cases h
theorem CX:∀{l:List (ND F)} {r:List Value},zok l r=true→l.length=r.length∧∀(w:World)(I7:Nat→Prop)(k:Nat)(d:ND F) (x:Value),l[k]? = some d→r[k]? = some x→Ju w I7 d x
 | [],[],_=>by simp
 | d::l,x::r,h=>by
  simp only[zok,KV]at h;obtain⟨h1,h2⟩:=CX h.2
  refine⟨by simp[h1],?_⟩
  intro w I7 k d' x' a b
  cases k with
  | zero=>simp only[M9,K3]at a b;subst a b;exact HE h.1 w I7
  | succ k=>exact h2 w I7 k d' x' (by simpa using a) (by simpa using b)
 | [],_::_,h=>by cases h
 | _::_,[],h=>by cases h
def ZJ(i:TI F):Bool:=match i.ty with | some tt=>Nat.beq (Jm F tt) i.size | none=>true
def Wq(P:Program)(t:TypeId)(i:TI F):Bool:=if i.eq then !(P.stoodInHeld t)&&!(P.eqGuardType P.depth t)else true
structure J9(P:Program)(t:TypeId)(i:TI F):Prop where
 und:P.underlying t=some i.desc
 info:∃j z,P.info? t=some j∧j.zero=some z∧(Nat.beq j.size i.size&&Nat.beq j.bytes i.bytes&&Nat.beq z.cells.size i.size&&zok i.zero z.cells.toList&&(aay z == da i.desc))=true
 ty:ZJ i=true
 eq:Wq P t i=true
theorem acK{P:Program}{tbl:List (Nat×TI F)}(h:∀p∈tbl,J9 P p.1 p.2):J5 P (look tbl):=by
 have mem:∀{t:Nat}{i:TI F},look tbl t=some i→J9 P t i:=λht=>h _ (lI ht);refine⟨λt i ht=>(mem ht).und,?_,?_,?_,?_⟩
 ·intro t i ht;obtain⟨j,z,h1,h2,h3⟩:=(mem ht).info;simp only[KV]at h3;obtain⟨⟨⟨⟨k1,k2⟩,k3⟩,k4⟩,_⟩:=h3;have k1:=M_ k1;have k2:=M_ k2;have k3:=M_ k3;obtain⟨l1,l2⟩:=CX k4
  refine⟨j,h1,k1,k2,z,h2,k3,by rw[l1];simpa using k3,?_⟩
  intro w I7 k d x a b
  exact l2 w I7 k d x a (by simpa using b)
 ·intro t i ht he;have:=(mem ht).eq;simp only[Wq,he,if_true,KV,Rp]at this;exact⟨this.1,this.2⟩
 ·intro t i tt ht he;have:=(mem ht).ty;simp only[ZJ,he]at this;exact M_ this
 ·intro t i j z ht hj hz;obtain⟨j',z',h1,h2,h3⟩:=(mem ht).info;rw[hj]at h1;cases h1;rw[hz]at h2;cases h2;simp only[KV,beq_iff_eq]at h3;exact h3.2
theorem all_nil{P:Program}:∀p∈([]:List (Nat×TI F)),J9 P p.1 p.2:=by simp
theorem all_cons{P:Program}{t:Nat}{i:TI F}{l:List (Nat×TI F)}(h:J9 P t i)(k:∀p∈l,J9 P p.1 p.2):∀p∈((t,i)::l),J9 P p.1 p.2:=by
 intro p hp;rcases Lr.1 hp with rfl | hp
 ·exact h
 ·exact k p hp
theorem ag{P:Program}:Kz (F:=F) P []:=λ_ _ h=>by simp[look]at h
theorem aa{P:Program}{f:FuncId}{sp:Spec F}{Γ : Ctx F}(h:Lf P f sp)(k:Kz P Γ):Kz P ((f,sp)::Γ):=by
 intro g s hg;rw[ar]at hg;split at hg
 ·rename_i hb;have:=M_ hb;subst this;cases hg;exact h
 ·exact k g s hg
theorem M7 {P : Program} {T : TypeId → Option (TI F)} {Γ : Ctx F} {nv : Nat} (hT : J5 P T) (K5 : P.follows .mixedOrders = true) (hΓ : Kz P Γ) {f : FuncId} {fn : Func} {sp : Spec F} {h : Hint} (hf : P.funcs[f]? = some fn) (hnm : (fn.name == "runtime.NumGoroutine") = false) (hbn : fn.body.isNone = false) (hlen : Nat.ble sp.ks.length fn.ntmps = true)
  (hrs:sp.rs.all (λk=>!k.KT)=true) (hD:(λa=>TJ T Γ nv fn h sp.ks sp.rs a)=sp.D):Lf P f sp:=
 Hf hT hΓ K5 hf hnm hbn hlen hrs (λa r hr=>by rw[← hD]at hr;exact hr)
end
end Go.Fx
namespace Go.Fx
open Go Go.ChangeShapes Go.RowKit
set_option linter.unusedVariables false
set_option linter.unusedSimpArgs false
section
variable{F:Fam}
def wv(F:Fam):Ty→List Ty
 | .st n=>F.fs n
 | t=>[t]
mutual
inductive Us(F:Fam):(t:Ty)→ET F t→Prop where
 | int {k:IntKind} {n:Int} (h:(Lit.int k n).wf=true):Us F (.int k) n
 | bool (b:Bool):Us F .bool b
 | str {l:List UInt8} (h:l.length≤maxLen):Us F .str l
 | slice {t:Ty} {l:List (ET F t)} (hl:l.length≤maxLen) (h:∀x∈l,Us F t x):Us F (.slice t) l
 | st {n:Nat} {x:F.S n} (h:Zw F (F.fs n) (F.un n x)):Us F (.st n) x
inductive Zw(F:Fam):(ts:List Ty)→Js F ts→Prop where
 | nil (a:Js F []):Zw F [] a
 | cons {t:Ty} {r:List Ty} {a:Js F (t::r)} (h:Us F t a.1) (k:Zw F r a.2):Zw F (t::r) a
end
def RX(W:World):Nat→Prop:=λb=>b<W.heap.size
def R3(F:Fam)(W:World)(tys:List Ty)(cs:List Value):Prop:=
 ∃a:Js F tys,cs.length=tys.length∧(∀(k:Nat)(d:ND F)(v:Value),(LV F tys a)[k]? = some d→cs[k]? = some v→Ju W (RX W) d v)∧Zw F tys a
theorem R3.nil{W:World}:R3 F W [] []:=⟨(),rfl,by simp[LV],.nil _⟩
theorem R3.cons{W:World}{t:Ty}{v:Value}{x:ET F t}{tys:List Ty}{cs:List Value}(hr:Ju W (RX W) (enc1 F t x) v)(hw:Us F t x)(h:R3 F W tys cs):R3 F W (t::tys) (v::cs):=by
 obtain⟨a,h1,h2,h3⟩:=h
 refine⟨(x,a),by simp[h1],?_,.cons hw h3⟩
 intro k d u hd hu
 cases k with
 | zero=>simp only[LV,M9,K3]at hd hu;subst hd hu;exact hr
 | succ k=>exact h2 k d u (by simpa[LV]using hd) (by simpa using hu)
theorem R3.one{W:World}{t:Ty}{v:Value}{x:ET F t}(hr:Ju W (RX W) (enc1 F t x) v)(hw:Us F t x):R3 F W [t] [v]:=.cons hr hw .nil
theorem R3.append{W:World}:∀{s t:List Ty}{cs ds:List Value},R3 F W s cs→R3 F W t ds→R3 F W (s++t) (cs++ds)
 | [],t,cs,ds,h,k=>by obtain⟨a,h1,_,_⟩:=h;have:cs = []:=O9 h1;subst this;exact k
 | x::s,t,cs,ds,h,k=>by
  obtain⟨a,h1,h2,h3⟩:=h
  match cs,h1 with
  | c::cs,h1=>
   cases h3 with
   | cons h3 h4=>
    exact .cons (h2 0 _ c rfl rfl) h3 (R3.append ⟨a.2,by simpa using h1,λk d v hd hv=>h2 (k+1) d v (by simpa[LV]using hd) (by simpa using hv),h4⟩ k)
def RdT(F:Fam)(W:World)(t:Ty)(cs:List Value)(x:ET F t):Prop:=
 cs.length=Jm F t∧(∀(k:Nat)(d:ND F)(v:Value),(Jj F t x)[k]? = some d→cs[k]? = some v→Ju W (RX W) d v)∧Us F t x
theorem R3.toT{W:World}{t:Ty}{cs:List Value}(h:R3 F W (wv F t) cs):∃x:ET F t,RdT F W t cs x:=by
 obtain⟨a,h1,h2,h3⟩:=h
 have st:∀{n:Nat}(a:Js F (F.fs n)),cs.length=(F.fs n).length→(∀(k:Nat)(d:ND F)(v:Value),(LV F (F.fs n) a)[k]? = some d→cs[k]? = some v→Ju W (RX W) d v)→Zw F (F.fs n) a→∃x:ET F (.st n),RdT F W (.st n) cs x:=by
  intro n a k1 k2 k3
  exact⟨F.up n a,k1,by simpa only[Jj,F.um]using k2,.st (by rw[F.um];exact k3)⟩
 have one:∀{t:Ty}(a:Js F [t]),Zw F [t] a→Us F t a.1:=by
  intro t a h
  cases h with
  | cons h _=>exact h
 cases t with
 | st n=>exact st a h1 h2 h3
 | int k=>exact⟨a.1,h1,h2,one a h3⟩
 | bool=>exact⟨a.1,h1,h2,one a h3⟩
 | str=>exact⟨a.1,h1,h2,one a h3⟩
 | slice t=>exact⟨a.1,h1,h2,one a h3⟩
def Vb(rd:TypeId→List Ty→Bool)(sz:TypeId→Nat):List Field→Nat→List Ty→Bool
 | [],_,tys=>tys.isEmpty
 | f::fs,off,tys=>Nat.beq f.offset off&&Nat.ble (sz f.type) tys.length&&rd f.type (tys.take (sz f.type))&&Vb rd sz fs (off+sz f.type) (tys.drop (sz f.type))
def Vd(rd:List Ty→Bool)(sz:Nat):Nat→List Ty→Bool
 | 0,tys=>tys.isEmpty
 | n+1,tys=>Nat.ble sz tys.length&&rd (tys.take sz)&&Vd rd sz n (tys.drop sz)
def WM(F:Fam)(P:Program):Nat→TypeId→List Ty→Bool
 | 0,_,_=>false
 | f+1,t,tys=>match P.underlying t with
  | some (.int k)=>match tys with | [.int k']=>decide (k=k') | _=>false
  | some .bool=>match tys with | [.bool]=>true | _=>false
  | some .string=>match tys with | [.str]=>true | _=>false
  | some (.slice e)=>match tys with | [.slice tt]=>WM F P f e (wv F tt)&&Nat.beq (P.cellsOf e) (Jm F tt)&&Nat.blt 0 (Jm F tt) | _=>false
  | some (.struct fs)=>Nat.beq (P.cellsOf t) tys.length&&Vb (WM F P f) P.cellsOf fs.toList 0 tys
  | some (.array n e)=>Nat.beq (P.cellsOf t) tys.length&&Vd (WM F P f e) (P.cellsOf e) n tys
  | _=>false
variable{H:Type}{enc:TypeId×Value→H}{P:Program}{W:World}
theorem vl{a:Addr}{n:Nat}{cs:List Value}(h:W.cells? 0 a n=some cs):cs.length=n∧∀i,i<n→W.cell? (a.add i)=cs[i]?:=by
 unfold World.cells? at h;rw[if_pos (U8 _)]at h
 exact⟨by simpa using mapM_some_length h,λi hi=>mapM_some_get h i i (by simp[hi])⟩
theorem Aj{α : Type}{Q:Nat→α→Prop}:∀(n:Nat),(∀i,i<n→∃x,Q i x)→∃l:List α,l.length=n∧∀i x,l[i]? = some x→Q i x
 | 0,_=>⟨[],rfl,by simp⟩
 | n+1,h=>by
  obtain⟨l,h1,h2⟩:=Aj n (λi hi=>h i (by omega))
  obtain⟨x,hx⟩:=h n (by omega)
  refine⟨l++[x],by simp[h1],λi y hy=>?_⟩
  by_cases hi:i<n
  ·rw[ME (by omega)]at hy;exact h2 i y hy
  ·rw[Nj (by omega)]at hy
   have:i=n:=by have:=(I0.1 hy).1;simp at this;omega
   subst this;rw[h1]at hy;simp at hy;subst hy;exact hx
theorem wy{α : Type}{sz:Nat}(h0:0<sz):∀{es:List (List α)} (_:∀e∈es,e.length=sz) {k:Nat} {d:α} (_:es.flatten[k]? = some d),∃e,es[k / sz]? = some e∧e[k % sz]? = some d
 | [],_,k,d,h=>by simp at h
 | e::es,hs,k,d,h=>by
  have he:=hs e (by simp)
  rw[U9]at h;by_cases hk:k<sz
  ·rw[ME (by omega)]at h
   exact⟨e,by rw[Nat.div_eq_of_lt hk];rfl,by rw[Nat.mod_eq_of_lt hk];exact h⟩
  ·rw[Nj (by omega),he]at h
   obtain⟨e',h1,h2⟩:=wy h0 (λe he=>hs e (by simp[he])) h
   refine⟨e',?_,?_⟩
   ·rw[Nat.div_eq_sub_div h0 (by omega)];simpa using h1
   ·rw[Nat.mod_eq_sub_mod (by omega)];exact h2
theorem xE:∀(f:Nat){fuel:Nat}{t:TypeId}{tys:List Ty} {cs:List Value} {x:DataW H×List MemPlace},WM F P f t tys=true→DataW.trod enc P W 0 (λ_=>true) true fuel t cs=some x→R3 F W tys cs
 | 0,fuel,t,tys,cs,x,hb,h=>by simp[WM]at hb
 | f+1,fuel,t,tys,cs,x,hb,h=>by
  unfold WM at hb;split at hb
  ·rename_i k ht;split at hb
   ·rename_i k'
    have hk:k=k':=by simpa using hb
    subst hk;obtain⟨n,rfl,_,hw⟩:=DataW.trod_int ht h;exact .one (t:=.int k) (.i k n) (.int hw)
   ·cases hb
  ·rename_i ht;split at hb
   ·obtain⟨b,rfl,_⟩:=DataW.trod_bool ht h;exact .one (t:=.bool) (.b b) (.bool b)
   ·cases hb
  ·rename_i ht;split at hb
   ·obtain⟨s,rfl,_,hl⟩:=DataW.trod_string ht h;refine .one (t:=.str) (x:=s.data.toList) (v:=.string s) ?_ (.str ?_)
    ·have:=Ju.s (F:=F) (w:=W) (I7:=RX W) s.data.toList;exact this
    ·exact hl
   ·cases hb
  ·rename_i e ht;split at hb
   ·rename_i tt;simp only[KV]at hb;obtain⟨⟨hb1,hb2⟩,hb3⟩:=hb;have hsz:=M_ hb2;have hpos:0<Jm F tt:=M4.mp hb3;rcases DataW.trod_slice ht h with⟨rfl,_⟩ | ⟨a,len,cap,elems,rest,n,_,rfl,_,_,hlc,hcm,hel,h1,h2,_⟩
    ·exact .one (t:=.slice tt) (x:=[]) (.sl0 tt none) (.slice (by simp) (by simp))
    ·
     have hall:∀i,i<len→∃x:ET F tt,∃cs,W.cells? 0 (a.add (i*Jm F tt)) (Jm F tt)=some cs∧RdT F W tt cs x:=by
      intro i hi;have hbind:=h1 i hi
      have hlt:i<elems.length:=by omega
      rw[IZ hlt,hsz,UW]at hbind;obtain⟨cs,hcs,htr⟩:=hbind;obtain⟨x,hx⟩:=(xE f hb1 htr).toT;exact⟨x,cs,hcs,hx⟩
     by_cases hcap:cap=0
     ·subst hcap
      have:len=0:=by omega
      subst this
      exact .one (t:=.slice tt) (x:=[]) (.sl0 tt (some a)) (.slice (by simp) (by simp))
     ·
      have aaC:∃cs,W.cells? 0 a (Jm F tt)=some cs:=by
       have e0:a.add (0*Jm F tt)=a:=by simp[Addr.add]
       by_cases hl0:0<len
       ·obtain⟨_,cs,hcs,_⟩:=hall 0 hl0;rw[e0]at hcs;exact⟨cs,hcs⟩
       ·have hl0:len=0:=by omega
        subst hl0;obtain⟨hr1,hr2⟩:=h2 rfl
        have hbind:=hr2 0 (by omega)
        have hlt:0<rest.length:=by omega
        rw[IZ hlt,hsz,UW]at hbind;obtain⟨cs,hcs,_⟩:=hbind;simp only[L_]at hcs;rw[e0]at hcs;exact⟨cs,hcs⟩
      obtain⟨cs0,aof⟩:=aaC;obtain⟨Uc,ajh⟩:=vl aof;have hc0:=ajh 0 hpos
      have e1:a.add 0=a:=by simp[Addr.add]
      rw[e1,IZ (by omega)]at hc0
      have hblk:a.block<W.heap.size∧a.spot=none:=by
       unfold World.cell? at hc0;split at hc0
       ·rename_i hh;refine⟨(P_.1 hh).1,?_⟩
        cases hs:a.spot with
        | none=>rfl
        | some s=>rw[hs]at hc0;simp at hc0
       ·cases hc0
      obtain⟨b,o,sp⟩:=a;obtain⟨hb0,hs0⟩:=hblk;simp only at hb0 hs0;subst hs0
      have hadd:∀o i,(⟨b,o,none⟩:Addr).add i=⟨b,o+i,none⟩:=by
       intro o i;unfold Addr.add;split
       ·rename_i h0;rw[h0];rfl
       ·rfl
      obtain⟨l,hl,hq⟩:=Aj len hall
      have hcell:∀k d,(cells F tt l)[k]? = some d→∃v,W.cell? ⟨b,o+k,none⟩=some v∧Ju W (RX W) d v:=by
       intro k d hk
       obtain⟨e',q1,q2⟩:=wy hpos (sz:=Jm F tt) (es:=l.map (Jj F tt)) (by intro e he;obtain⟨x,_,rfl⟩:=Oz.1 he;exact aT F tt x) hk
       rw[MU,RN]at q1;obtain⟨x,q3,rfl⟩:=q1;obtain⟨cs,q4,q5,q6,_⟩:=hq _ x q3;obtain⟨q7,q8⟩:=vl q4;have hmod:=Nat.mod_lt k hpos;have hc:=q8 (k % Jm F tt) hmod
       rw[hadd,hadd,IZ (by omega),PD,Nat.mul_comm,Nat.div_add_mod]at hc
       exact⟨_,hc,q6 _ d _ q2 (IZ (by omega))⟩
      refine .one (t:=.slice tt) (x:=l) ?_ (.slice (by rw[hl];omega) ?_)
      ·have:=Ju.sl (F:=F) (w:=W) (I7:=RX W) tt l b o cap (λk=>(W.cell? ⟨b,o+k,none⟩).getD undef) hb0 (by rw[hl];exact hlc) hcm
        (λk d hk=>by obtain⟨v,k1,k2⟩:=hcell k d hk;rw[k1];rfl) (λk d hk=>by obtain⟨v,k1,k2⟩:=hcell k d hk;rw[k1];exact k2)
       rw[hl]at this;exact this
      ·intro x hx;obtain⟨i,hi,rfl⟩:=List.mem_iff_getElem.1 hx;obtain⟨_,_,_,_,hw⟩:=hq i _ (IZ hi);exact hw
   ·cases hb
  ·rename_i fs ht;simp only[KV]at hb;have hlen:=M_ hb.1;obtain⟨xs,n,_,_,hcl,hxl,hget⟩:=DataW.trod_struct ht h
   have key:∀(l:List Field)(i off:Nat)(tys:List Ty)(cs':List Value),cs'=cs.drop off→cs'.length=tys.length→Vb (WM F P f) P.cellsOf l off tys=true→(∀j f,l[j]? = some f→fs[i+j]? = some f)→R3 F W tys cs':=by
    intro l
    induction l with
    | nil=>
     intro i off tys cs' hcs hl hr _
     have:tys = []:=by simpa[Vb]using hr
     subst this;have:cs' = []:=O9 hl;subst this;exact .nil
    | cons fl l ih=>
     intro i off tys cs' hcs hl hr hfs;simp only[Vb,KV]at hr;obtain⟨⟨⟨r1,r2⟩,r3⟩,r4⟩:=hr;have r1:=M_ r1;have r2:=P9 r2
     have hf:=hget i fl (by simpa using hfs 0 fl rfl)
     have hlt:i<xs.length:=by
      rw[hxl]
      exact(P_.1 (by simpa using hfs 0 fl rfl)).1
     rw[IZ hlt,r1,← hcs]at hf;have h1:=xE f r3 hf
     have h2:=ih (i+1) (off+P.cellsOf fl.type) (tys.drop (P.cellsOf fl.type)) (cs'.drop (P.cellsOf fl.type)) (by rw[hcs,Zy]) (by simp[hl]) r4 (λj f' hj=>by have:=hfs (j+1) f' (by simpa using hj);rwa [show i+1+j=i+(j+1)by omega])
     have:=h1.append h2
     rwa [Uw,Uw]at this
   exact key fs.toList 0 0 tys cs (by simp) (by rw[hcl,hlen]) hb.2 (λj f hj=>by simpa using hj)
  ·rename_i n e ht;simp only[KV]at hb;have hlen:=M_ hb.1;obtain⟨xs,n',_,_,hcl,hxl,hget⟩:=DataW.trod_array ht h
   have key:∀(m i:Nat)(tys:List Ty)(cs':List Value),cs'=cs.drop (i*P.cellsOf e)→cs'.length=tys.length→i+m=n→Vd (WM F P f e) (P.cellsOf e) m tys=true→R3 F W tys cs':=by
    intro m
    induction m with
    | zero=>
     intro i tys cs' hcs hl hn hr
     have:tys = []:=by simpa[Vd]using hr
     subst this;have:cs' = []:=O9 hl;subst this;exact .nil
    | succ m ih=>
     intro i tys cs' hcs hl hn hr;simp only[Vd,KV]at hr;obtain⟨⟨r1,r2⟩,r3⟩:=hr
     have hf:=hget i (by omega)
     have hlt:i<xs.length:=by omega
     rw[IZ hlt,← hcs]at hf;have h1:=xE f r2 hf
     have h2:=ih (i+1) (tys.drop (P.cellsOf e)) (cs'.drop (P.cellsOf e)) (by rw[hcs,Zy,Ro]) (by simp[hl]) (by omega) r3
     have:=h1.append h2
     rwa [Uw,Uw]at this
   exact key n 0 tys cs (by simp) (by rw[hcl,hlen]) (by omega) hb.2
  ·cases hb
end
end Go.Fx
namespace Go.Fx
open Go Go.ChangeShapes Go.RowKit
set_option linter.unusedVariables false
set_option linter.unusedSimpArgs false
section
variable{F:Fam}{H:Type}{enc:TypeId×Value→H}{P:Program}{W:World}
def acB(F:Fam)(P:Program)(t:TypeId)(tt:Ty):Bool:=
 WM F P 64 t (wv F tt)&&(match P.underlying t with
  | some (.struct _) | some (.array _ _)=>tt.K9
  | some (.int _) | some .bool | some .string | some (.slice _)=>!tt.K9
  | _=>false)
theorem aiZ{r:Reach}{b0:Nat}{t:TypeId}{tt:Ty}{v:Value}{d:DataW H}{ps:List MemPlace}(hb:acB F P t tt=true)(hval:Value.okWide P W r b0 t v)(hd:DataW.Trod enc P W 0 (λ_=>true) true t v d ps) :
  ∃x:ET F tt,Us F tt x∧KG W (RX W) tt [] x v []:=by
 simp only[acB,KV]at hb;obtain⟨hb,hk⟩:=hb;obtain⟨fuel,hf⟩:=hd;obtain⟨x,h1,h2,h3⟩:=(xE 64 hb hf).toT;refine⟨x,h3,zk ?_⟩
 have agg:(∃cs,v = .agg cs)→tt.K9=true→Md W (RX W) (Jj F tt x,tt.K9) v:=by rintro⟨⟨cs⟩,rfl⟩ hs;rw[hs];refine .agg ?_ (λk c y a b=>h2 k c y a b);rw[aT];exact h1
 have one:v.cells = #[v]→tt.K9=false→Md W (RX W) (Jj F tt x,tt.K9) v:=by
  intro hv hs;rw[hs]
  have hl:∃d,Jj F tt x = [d]:=by cases tt<;>first | exact⟨_,rfl⟩ | cases hs
  obtain⟨d,hd⟩:=hl;rw[hd]
  exact .one (h2 0 d v (by rw[hd];rfl) (by rw[hv];rfl))
 unfold Value.okWide at hval;split at hk
 ·rename_i fs ht;rw[ht]at hval;obtain⟨cs,rfl,_⟩:=hval;exact agg ⟨cs,rfl⟩ hk
 ·rename_i n e ht;rw[ht]at hval;obtain⟨cs,rfl,_⟩:=hval;exact agg ⟨cs,rfl⟩ hk
 ·rename_i k ht;simp only[ht,Cell.okWide,Cell.ok]at hval
  refine one ?_ (by simpa using hk)
  cases v<;>first | rfl | exact hval.elim
 ·rename_i ht;simp only[ht,Cell.okWide,Cell.ok]at hval
  refine one ?_ (by simpa using hk)
  cases v<;>first | rfl | exact hval.elim
 ·rename_i ht;simp only[ht,Cell.okWide,Cell.ok]at hval
  refine one ?_ (by simpa using hk)
  cases v<;>first | rfl | exact hval.elim
 ·rename_i e ht;simp only[ht,Cell.okWide,Cell.ok]at hval
  refine one ?_ (by simpa using hk)
  cases v<;>first | rfl | exact hval.elim
 ·cases hk
theorem q_(hl:laidOutB P=true){W':World}{sp:Nat→Bool}(hb:Below W.heap.size W W'):∀{ts:List TypeId}{vs:List Value}{ds:List (DataW H)} {ps:List MemPlace},
  DataW.TrodAll enc P W 0 (λ_=>true) true ts vs ds ps→(ts.all λt=>P.readableRec t&&Nat.blt t P.types.size)=true→(∀x∈ps,x.block<W.heap.size)→(∀x∈ps,sp x.block=true)→
  DataW.TrodAll enc P W' 0 sp true ts vs ds ps
 | [],vs,ds,ps,h,_,_,_=>by obtain⟨rfl,rfl,rfl⟩:=trodAll_nil h;rfl
 | t::ts,vs,ds,ps,h,hr,hlt,hsp=>by
  obtain⟨v,vs1,d,ds1,a,b,rfl,rfl,rfl,h1,h2⟩:=trodAll_cons h;simp only[TB,KV]at hr
  refine trodAll_cons_mk (WideElems.Trod_stays hl hr.1.1 (by simpa using hr.1.2) h1 (λx hx=>hb.same (hlt x (by simp[hx]))) (λx hx=>hsp x (by simp[hx]))) (q_ hl hb h2 hr.2 (λx hx=>hlt x (by simp[hx])) (λx hx=>hsp x (by simp[hx])))
theorem Fu{fid:FuncId}{f:Func}{s:ChangeSpec}{tb:TypeId}{args:Array Value}{ds gs:List (DataW H)}{before:List MemPlace}
  (hl:laidOutB P=true) (hr:(f.params.toList.all λt=>P.readableRec t&&Nat.blt t P.types.size)=true) (hv:s.vars = []) (ht:f.resultTypes = #[tb]) (htb:P.underlying tb=some .bool)
  (hW:DataW.Whole enc P f.params.toList s.vars false W args.toList ds gs before) (hfn:s.fn H (ds++gs) = { results:=[.lit (.bool true)],args:=ds })
  (h:Calls P fid args W λe w'=>e = .returned (.bool true)∧Below W.heap.size W w') :
  Calls P fid args W λe W'=>∃v,e = .returned v∧s.post enc P f false true false false W args v W':=by
 have hW':=hW;obtain⟨p,q,hA,hV,rfl,hfz,hnd⟩:=hW;rw[hv]at hV;obtain⟨rfl,rfl⟩:=trodVars_none hV;refine h.mono λe W' ⟨he,hg⟩=>?_;subst he
 have hlt:∀x∈p,x.block<W.heap.size:=λx hx=>by simpa using hW'.lt x (by simp[hx])
 have args:∀sp:Nat→Bool,(∀x∈p,sp x.block=true)→DataW.TrodAll enc P W' 0 sp true f.params.toList args.toList (s.fn H (ds++[])).args p:=by intro sp hsp;rw[hfn];exact q_ hl hg hA hr hlt hsp
 have vars:∀sp:Nat→Bool,DataW.TrodVars enc P W' sp s.vars (s.fn H (ds++[])).vars []:=by intro sp;rw[hfn,hv];rfl
 have res:∀(b:Nat)(sp:Nat→Bool)(hd:Bool),DataW.TrodAll enc P W' b sp hd f.resultTypes.toList ((Value.bool true).resultList f.resultTypes.size) (s.fn H (ds++[])).results []:=by intro b sp hd;rw[hfn,ht];exact trodAll_cons_mk (shut_bool htb true) trodAll_mk0
 refine⟨_,rfl,ds,[],p++[],[],p,[],hW',res _ _ _,args _ (λx hx=>by simpa using hlt x hx),vars _,hg.frame _,λ_=>?_⟩
 refine⟨ok_one ht rfl (okWide_bool_mk htb _),_,_,([]++p)++[],⟨[]++p,[],trodAll_append (args _ (λ_ _=>rfl)) (res _ _ _),vars _,rfl,?_,λh=>by cases h⟩,?_⟩
 ·intro b off hp
  rw[hg.frozen (hlt _ (by simpa using hp))]
  exact hfz b off (by simpa using hp)
 ·intro x hx _;simpa using hx
theorem FG:bR (F:=F) P W (RX W) [] () [] [] []:=⟨rfl,rfl,rfl⟩
theorem Cl{t:Ty}{x:ET F t}{v:Value}{ks:List Kd}{a:HL F ks}{vs:List Value}(h:KG W (RX W) t [] x v [])(k:bR P W (RX W) ks a vs [] []):bR P W (RX W) (.v t []::ks) (x,a) (v::vs) [] []:=
 ⟨v,vs,[],[],[],[],rfl,rfl,rfl,⟨h,rfl⟩,k⟩
theorem Bv{fid:FuncId}{sp:Spec F}(hf:Lf P fid sp){D:HL F sp.ks→Option Bool}(hD:cP sp .bool=some D){a:HL F sp.ks}(hd:D a=some true){vs:List Value}(hh:bR P W (RX W) sp.ks a vs [] []) :
  Calls P fid ⟨vs⟩ W λe w'=>e = .returned (.bool true)∧Below W.heap.size W w':=by
 obtain⟨r',hr',hout⟩:=xk (P:=P) hD hd
 refine(hf.2 a r' hr' (RX W) W vs [] [] hh ⟨by simp[I5],by simp[I5],by simp[I5]⟩ (λ_ h=>h)).mono ?_
 rintro e w' ⟨M0,Jo,Kg,rfl,h1,h2,h3,hdr,h4,h5,h6,h7,h8,h9,h10,h11⟩;obtain⟨v,rfl,_,hv⟩:=hout w' Jo M0 [] Kg h9;have hn:=hv.LD;subst hn;have hrep:=nW hv
 have:v = .bool true:=by
  generalize hc:(Jj F Ty.bool true,Ty.bool.K9)=p at hrep
  cases hrep with
  | one h=>cases hc;cases h;rfl
  | agg=>cases hc
 exact⟨by rw[this];rfl,⟨h1,h2,h3,h4,λb hb=>h5 b hb (by simp[I5])⟩⟩
end
set_option linter.unusedVariables false
set_option linter.unusedSimpArgs false
section
variable{F:Fam}{P:Program}
theorem D8{w:World}{I7:Nat→Prop}{t:Ty}{v:Value}(h:Ju (F:=F) w I7 (.sl t []) v):∃p cap,v = .slice p 0 cap:=by
 cases h with
 | sl0 p=>exact⟨_,_,rfl⟩
 | sl l b o cap f=>exact⟨_,_,rfl⟩
theorem lV{t e:TypeId}(h:P.underlying t=some (.slice e))(w:World)(a:Option Addr)(n c n2 c2:Nat):(binOp .eql t (.slice a n c) (.slice none n2 c2)).run P w = .ok (.bool a.isNone) w:=Lib.run_eql_slice_nil w _ _ a n c n2 c2 h
theorem fL{f:FuncId}{t:Ty}{b:Nat}
  (h:Lf (F:=F) P f ⟨[.v (.slice t) []],[.v (.slice t) [0]],λa=>cond a.1.isEmpty none ((app b [] a.1).bind λl=>some l)⟩)
  (hn:∀(p:Option Addr)(cap:Nat)(w:World),Calls P f ⟨[.slice p 0 cap]⟩ w λe w'=>∃p',e = .returned (.slice p' 0 0)∧RowKit.Below w.heap.size w w'∧w.drawn≤w'.drawn) (hmp:t.KX=false:=by rfl) :
  Lf (F:=F) P f ⟨[.v (.slice t) []],[.v (.slice t) [0]],λa=>app b [] a.1⟩:=by
 refine⟨h.1,?_⟩;intro a r hr I7 w vs Jg Jv KN hpl Kl;obtain⟨l,u⟩:=a
 cases l with
 | cons x l=>refine h.2 (x::l,u) r ?_ I7 w vs Jg Jv KN hpl Kl;dsimp only at hr ⊢;rw[hr];rfl
 | nil=>
  have hr':r=([]:List (ET F t)):=by
   dsimp only[app]at hr;split at hr
   ·exact(Option.some.inj hr).symm
   ·cases hr
  subst hr';obtain⟨v,vs',p1,p2,b1,b2,rfl,rfl,rfl,⟨h1,rfl⟩,rfl,rfl,rfl⟩:=KN;unfold KG at h1;simp only[Ty.K9,Ni,if_false,Jj,Ke,Jw]at h1;obtain⟨h1,rfl⟩:=h1;obtain⟨p,cap,rfl⟩:=D8 h1;refine(hn p cap w).mono ?_;rintro e w' ⟨p',rfl,hb,hdr⟩
  refine⟨[.slice p' 0 0],I7,[none],rfl,hb.os,hb.tape,hb.output,hdr,hb.size,λk hk _=>hb.block k hk,λ_ h=>h,λ_ h=>.inl h,λk hk=>O8 (Kl k hk) hb.size,?_,⟨by simp[I5],by simp[I5],by simp[I5]⟩,by simp[I5]⟩
  refine⟨.slice p' 0 0,rfl,rfl,?_,rfl⟩;unfold KG;simp only[Ty.K9,Ni,if_false,Jj,Ke,Jw,Nat.beq,if_true]
  exact⟨none,[],rfl,by rw[dF hmp];rfl,by rw[go hmp];exact⟨p',rfl⟩,rfl⟩
end
end Go.Fx
