/-
  The framework, third part: regions in any order, code, loops over maps, functions, arguments as data, laws that say true. Conditions: none.
-/
import Derived.Test.YtdickabkndfjhaaGreatFxB
import Derived.Eval
import Derived.Scope
import Derived.Maps.RangeRun
import Derived.Carry
import Derived.ChangeSlices
import Derived.OpenShut
import Derived.ProofKit
import Derived.WalkKit
import Derived.Lib.SliceRun
namespace Go.Fx
open Go
set_option linter.unusedVariables false
set_option linter.unusedSimpArgs false
def Ul:NS→List Nat→NS
 | ns,[]=>ns
 | ns,p::ps=>Ul (ns.set p none) ps
def W_:Option (Nat×Nat×Nat)→List Nat
 | some (b,_)=>[b]
 | none=>[]
theorem sU(q:Option (Nat×Nat×Nat))(ns:NS):MP (q::ns)=W_ q++MP ns:=by
 cases q with
 | none=>rfl
 | some q=>obtain⟨b,c⟩:=q;rfl
theorem BH(q:Option (Nat×Nat×Nat))(l:List Pl):Li (Nv q::l)=W_ q++Li l:=by
 cases q with
 | none=>rfl
 | some q=>obtain⟨b,c,n⟩:=q;simp[Nv,Li,W_,MP]
theorem B7{q:Option (Nat×Nat×Nat)}:∀{ns:NS}{p:Nat}{q0:Option (Nat×Nat×Nat)},ns[p]? = some q0→(W_ q++MP ns).Perm (W_ q0++MP (ns.set p q))
 | [],p,q0,h=>by simp at h
 | y::r,0,q0,h=>by simp only[Rh,NI]at h;subst h;rw[QfP,sU,sU,← PS,← PS];exact List.perm_append_comm.append_right _
 | y::r,p+1,q0,h=>by
  rw[List.set_cons_succ,sU,sU]
  have ih:=B7 (q:=q) (ns:=r) (p:=p) (by simpa using h)
  have h1:(W_ q++(W_ y++MP r)).Perm (W_ y++(W_ q++MP r)):=by rw[← PS,← PS];exact List.perm_append_comm.append_right _
  have h2:(W_ y++(W_ q0++MP (r.set p q))).Perm (W_ q0++(W_ y++MP (r.set p q))):=by rw[← PS,← PS];exact List.perm_append_comm.append_right _
  exact h1.trans ((ih.append_left _).trans h2)
theorem xP:∀{ps:List Nat}{ns:NS},(Ul ns ps).length=ns.length
 | [],ns=>rfl
 | p::ps,ns=>by simp only[Ul];rw[xP,Yc]
theorem CL:∀{ps:List Nat}{ns:NS}{k:Nat},k∉ps→(Ul ns ps)[k]? = ns[k]?
 | [],ns,k,h=>rfl
 | p::ps,ns,k,h=>by
  simp only[Ul]
  rw[CL (λhk=>h (by simp[hk])),List.getElem?_set_ne (λe=>h (by simp[e]))]
theorem zN:∀{ps:List Nat}{ns:NS}{k:Nat}{q:Option (Nat×Nat×Nat)},ns[k]? = some none→(Ul ns ps)[k]? = some q→q=none
 | [],ns,k,q,h0,h=>by simp only[Ul]at h;rw[h0]at h;cases h;rfl
 | p::ps,ns,k,q,h0,h=>by
  simp only[Ul]at h;refine zN (ns:=ns.set p none) ?_ h;by_cases hp:p=k
  ·subst hp;rw[List.getElem?_set_self (Lb.1 h0).1]
  ·rw[List.getElem?_set_ne hp];exact h0
theorem Fi:∀{ps:List Nat}{ns:NS}{k:Nat}{q:Option (Nat×Nat×Nat)},k∈ps→(Ul ns ps)[k]? = some q→q=none
 | p::ps,ns,k,q,hk,h=>by
  simp only[Ul]at h;by_cases hp:p=k
  ·subst hp;by_cases hlt:p<ns.length
   ·exact zN (ns:=ns.set p none) (by rw[List.getElem?_set_self hlt]) h
   ·have:p<(Ul (ns.set p none) ps).length:=(Lb.1 h).1;rw[xP,Yc]at this;exact absurd this hlt
  ·exact Fi ((NH.1 hk).resolve_left (λe=>hp e.symm)) h
theorem Br:∀{ps:List Nat}{ns:NS},ps.Nodup→(∀p∈ps,p<ns.length)→(MP ns).Perm (Li (ps.map λp=>Nv ((ns[p]?).getD none))++MP (Ul ns ps))
 | [],ns,_,_=>by simp[Li,Ul]
 | p::ps,ns,hn,hl=>by
  obtain⟨h1,h2⟩:=Un.1 hn
  have hp:=hl p (by simp)
  have hq:ns[p]? = some ns[p]:=La hp;have e1:=B7 (q:=none) hq;simp only[W_,PX]at e1
  have ih:=Br (ps:=ps) (ns:=ns.set p none) h2 (λp' h=>by rw[Yc];exact hl p' (by simp[h]))
  have e2:(ps.map λp'=>Nv (((ns.set p none)[p']?).getD none))=ps.map λp'=>Nv ((ns[p']?).getD none):=by
   refine QdG λp' hp'=>?_
   rw[List.getElem?_set_ne (λe=>h1 (by rw[e];exact hp'))]
  rw[e2]at ih;simp only[Nr,BH,Ul];rw[hq,Wz,PS];refine e1.trans ?_;exact ih.append_left _
section
variable{F:Fam}{P:Program}{T:TypeId→Option (TI F)}{Γ : Ctx F}{o:Oper}{vals:List (Dat F)}{mm:Nat→Option (Mi F)}{c:Nat}{R:Type}{K:SX F→Option R}
variable{own:Ow}{g:G}{w:World}{m:Nat→Option (Mi F)}{u:Nat→Bool}{a:Act}
theorem LQ.Pv(hm:LQ own g w m){id k n:Nat}(h:N7 n (g.ids id) (g.ids k)):LQ own g w (Ms m [(id,some (.Pv k n))]):=by
 have hother:∀x,x≠id→Ms m [(id,some (.Pv k n))] x=m x:=λx hx=>by
  simp only[Ms]
  have:Nat.beq id x=false:=by
   cases hb:Nat.beq id x with
   | false=>rfl
   | true=>exact absurd (Q_ hb).symm hx
  rw[this];simp
 have hself:Ms m [(id,some (.Pv k n))] id=some (.Pv k n):=by simp[Ms]
 refine hm.Pd (S:=λx=>x=id) (Le.refl g w) (λx hx B hB=>by rw[hother x hx]at hB;exact hB) (λ_ _=>rfl) (λx B b hx hB ho hb=>⟨rfl,(hm.own x B b hB ho hb).2⟩) ?_ hm.Lj hm.io hm.len
 rintro x B rfl hB;rw[hself]at hB;cases hB
 exact⟨h,λb ho=>by cases ho⟩
theorem xY:∀{rs:List (Mi F)} {c:Nat} {p:Nat×Mi F},p∈nmF c rs→∃j,p.1=c+j∧rs[j]? = some p.2
 | B::r,c,p,h=>by
  rcases NH.1 h with rfl | h
  ·exact⟨0,rfl,rfl⟩
  ·obtain⟨j,h1,h2⟩:=xY h
   exact⟨j+1,by omega,by simpa using h2⟩
theorem yM(hm:LQ own g w m)(hall:∀b,w.heap.size≤b→own.o b){id c i:Nat}{t:Ty}{l:List (ET F t)}{x:ET F t}(hB:m id=some (.Nb t l))(hx:l[i]? = some x){ks:List Nat}(hks:ks.Nodup)
  {rs:List (Mi F)} (hrs:rs.length=ks.length) (hr:∀(j:Nat)(B:Mi F),rs[j]? = some B→∃q t2 l2,ks[j]? = some q∧B = .row t2 l2∧(LZ F t x)[q]? = some (.sl t2 l2)) (hkl:∀q∈ks,q<LV F t)
  (hf:∀j,j<ks.length+1→g.ids (c+j)=none) :
  ∃(g2:G)(b cap:Nat)(n:Nat×NS),Le g w g2 w∧LQ own g2 w (Ms m (Rp id c t l i ks rs))∧g2.Lj=g.Lj∧g2.len=g.len∧(∀y,¬ (c≤y∧y<c+ks.length+1)→g2.ids y=g.ids y)∧
   g.ids id=some (some (b,cap,n))∧g2.ids c=some (some (b,cap,n.1,Ul n.2 (ks.map (i*LV F t + ·))))∧(∀j q,ks[j]? = some q→g2.ids (c+1+j)=some (Nv ((n.2[i*LV F t+q]?).getD none)))∧
   P8 w g.Lj t l (some (b,cap,n))∧(∀y b',g2.blk y b'→(g.blk y b'∧¬ (c≤y∧y<c+ks.length+1))∨g.blk id b'):=by
 obtain⟨pl,hid,hO⟩:=hm.ok id _ hB;have hlt:i<l.length:=(Lb.1 hx).1
 cases pl with
 | none=>have:l = []:=hO;subst this;simp at hlt
 | some q=>
 obtain⟨b,cap,n⟩:=q;obtain⟨q1,q2,q3,q4,q5,cur,e,q6,q7,q8⟩:=hO;have hO':P8 w g.Lj t l (some (b,cap,n)):=⟨q1,q2,q3,q4,q5,cur,e,q6,q7,q8⟩
 have hpos:∀q∈ks,i*LV F t+q<n.2.length:=by intro q hq;have:=hkl q hq;rw[q4,iU];have h3:(i+1)*LV F t≤l.length*LV F t:=Ro _ hlt;rw[TM]at h3;omega
 obtain⟨ps,hps⟩:∃ps,ps=ks.map (i*LV F t + ·):=⟨_,rfl⟩
 have hpn:ps.Nodup:=by
  subst hps
  exact QfT.2 (hks.imp λh e=>h (by simpa using e))
 have hpl:∀p∈ps,p<n.2.length:=by subst hps;intro p hp;obtain⟨q,h1,rfl⟩:=RA.1 hp;exact hpos q h1
 have hperm:=Br hpn hpl;obtain⟨Ml,aaL⟩:∃Ml:List Pl,Ml=some (b,cap,n.1,Ul n.2 ps)::ps.map λp=>Nv ((n.2[p]?).getD none):=⟨_,rfl⟩
 have ZF:Ml.length=ks.length+1:=by rw[aaL,hps];simp
 have acz:Li Ml=b::(MP (Ul n.2 ps)++Li (ps.map λp=>Nv ((n.2[p]?).getD none))):=by rw[aaL];rfl
 have Vo:(b::MP n.2).Perm (Li Ml):=by rw[acz];exact(hperm.trans QdD).cons _
 have hmem:∀b',b'∈Li Ml↔g.blk id b':=by
  intro b';rw[← Vo.mem_iff];constructor
  ·intro h;exact⟨b,(cap,n),hid,h⟩
  ·rintro⟨b0,c0,h1,h2⟩;rw[hid]at h1;cases h1;exact h2
 have hown1:∀b',g.blk id b'→own.o b'∧¬ g.Lj b':=λb' h=>hm.own id _ b' hB rfl h;have afU:∀b',g.blk id b'→b'<w.heap.size:=λb' h=>(hm.ok id _ hB).place hm.Lj rfl h
 have WO:Li ([some id].map (Mk g))=b::MP n.2:=by simp[Mk,hid,Li]
 have hP0:Sy w g.Lj (Li ([some id].map (Mk g))):=by rw[WO];refine⟨q5,λb' h=>(hown1 b' ⟨b,(cap,n),hid,h⟩).2,λb' h=>afU b' ⟨b,(cap,n),hid,h⟩⟩
 have hP1:Sy w g.Lj (Li []++Li Ml):=by
  refine⟨?_,λb' h=>(hown1 b' ((hmem b').1 (by simpa[Li]using h))).2,λb' h=>afU b' ((hmem b').1 (by simpa[Li]using h))⟩
  simp only[Li,PX];exact Vo.nodup_iff.1 q5
 have hfr:∀k,k<Ml.length→g.ids (c+k)=none:=λk hk=>hf k (by omega)
 have Y4:Le g w (g.back c Ml g.Lj) w:=by
  refine⟨λy r hy=>?_,λ_ h=>h,λ_ _=>rfl,λ_ h=>h,λ_ _=>rfl⟩
  rw[eF (λhc=>by have:=hfr (y - c) (by omega);rw[QeL hc.1]at this;rw[this]at hy;cases hy)]
  exact hy
 have hnm:Po (g.back c Ml g.Lj) c Ml:=u5
 have hc0:(g.back c Ml g.Lj).ids c=some (some (b,cap,n.1,Ul n.2 ps)):=by
  have:=hnm 0 _ (by rw[aaL];rfl)
  simpa using this
 have hcj:∀j q,ks[j]? = some q→(g.back c Ml g.Lj).ids (c+1+j)=some (Nv ((n.2[i*LV F t+q]?).getD none)):=by
  intro j q hj
  have:=hnm (j+1) (Nv ((n.2[i*LV F t+q]?).getD none)) (by rw[aaL,QdK,hps,List.map_map,Rf,hj];rfl)
  rw[show c+1+j=c+(j+1)by omega]
  exact this
 have hback:SG (g.back c Ml g.Lj) w c Ml.length [] ((c,.Sq t l i ks)::nmF (c+1) rs):=by
  intro p hp;rcases NH.1 hp with rfl | hp
  ·refine⟨rfl,⟨_,hc0,q1,q2,q3,by rw[xP];exact q4,?_,cur,e,q6,q7,?_⟩,.inl ⟨0,rfl,by omega⟩⟩
   ·have:(b::MP (Ul n.2 ps)).Sublist (b::(MP (Ul n.2 ps)++Li (ps.map λp=>Nv ((n.2[p]?).getD none)))):=(List.sublist_append_left _ _).cons_cons _;exact(acz▸Vo.nodup_iff.1 q5:(b::(MP (Ul n.2 ps)++Li (ps.map λp=>Nv ((n.2[p]?).getD none)))).Nodup).sublist this
   ·intro k d y p h1 h2 h3;constructor
    ·rintro⟨q,hq,rfl⟩
     have hin:i*LV F t+q∈ps:=by rw[hps];exact RA.2 ⟨q,hq,rfl⟩
     have hp0:∃p0,n.2[i*LV F t+q]? = some p0:=⟨_,La (hpl _ hin)⟩;obtain⟨p0,hp0⟩:=hp0;refine⟨Fi hin h3,?_⟩;have:=q8 _ d y p0 h1 h2 hp0
     cases d with
     | sl t2 l2=>
      have hv:=this.2
      cases p0 with
      | none=>obtain⟨p,rfl⟩:=hv;rfl
      | some q=>simp only[Nv,Oo]at hv;subst hv;rfl
     | _=>exact this.2.2.oneCell
    ·intro hno
     have hout:k∉ps:=by rw[hps];intro hk;obtain⟨q,hq1,hq2⟩:=RA.1 hk;exact hno ⟨q,hq1,hq2.symm⟩
     rw[CL hout]at h3;exact q8 k d y p h1 h2 h3
  ·obtain⟨j,h1,h2⟩:=xY hp;obtain⟨q,t2,l2,hq,hB2,hd⟩:=hr j _ h2;have hjl:j<ks.length:=(Lb.1 hq).1;obtain⟨y,B2⟩:=p;simp only at h1 h2 hB2;subst h1;subst hB2
   refine⟨rfl,?_,.inl ⟨j+1,by omega,by omega⟩⟩
   have hin:i*LV F t+q∈ps:=by rw[hps];exact RA.2 ⟨q,Wx hq,rfl⟩
   have ao2:=hpl _ hin;have hp0:n.2[i*LV F t+q]? = some n.2[i*LV F t+q]:=La ao2;have hcell:=a_ hx hd
   have hcl:i*LV F t+q<cur.length:=by
    have:(cells F t l).length≤cur.length:=by rw[q7,iU];exact Ro _ q2
    omega
   have hC:=q8 _ _ _ _ hcell (La hcl) hp0;have hname:=hcj j q hq;rw[hp0,Wz]at hname;obtain⟨hC1,hC2⟩:=hC
   cases hpp:n.2[i*LV F t+q]with
   | none=>rw[hpp]at hC1 hname;exact .inl ⟨hname,hC1⟩
   | some z=>obtain⟨b2,cap2,n2⟩:=z;rw[hpp]at hC1 hname;obtain⟨r1,r2,r3,Yq,e2,r4,r5,r6⟩:=hC1;cases r1;exact .inr ⟨b2,cap2,Yq,e2,hname,r4,r2,r3,r5,r6⟩
 have hM:=sC (g1:=g) (m1:=m) (os:=[some id]) (bx:=[]) (Mg:=[]) (Ml:=Ml) (Ux:=g.Lj) (LU:=g.Lj) (I:=g.Lj) (w':=w) hm hm rfl rfl hall rfl hfr
  (λid' h=>by simp only[Ld,NI]at h;subst h;exact⟨_,hB,hB,rfl⟩) (λid' h=>by simp at h) rfl hP0 (λ_ h=>h) (MO _) (λ_ _ _=>rfl) (λ_ h=>h) (λ_ h=>h) (λb h=>.inl h) hm.Lj hP1
  (λb' h=>.inl (by rw[WO,Vo.mem_iff];simpa[Li]using h)) hback
 refine⟨g.back c Ml g.Lj,b,cap,n,Y4,?_,rfl,rfl,λy hy=>eF (by rw[ZF];omega),hid,hps▸hc0,hcj,hO',?_⟩
 ·have:=hM.Pv (id:=id) (k:=c) (n:=l.length) (.inl ⟨b,cap,n,(n.1,Ul n.2 ps),Y4.ids _ _ hid,hc0,rfl,q1⟩)
  have e1:Rp id c t l i ks rs=(nones (Mx [some id])++blks ((c,.Sq t l i ks)::nmF (c+1) rs))++[(id,some (.Pv c l.length))]:=by simp[Rp,nones,Mx,blks]
  rw[e1,il];exact this
 ·intro y b' hb;by_cases hy:c≤y∧y<c+ks.length+1
  ·right;obtain⟨b0,c0,h1,h2⟩:=hb;simp only[G.back]at h1
   rw[if_pos (by rw[ZF];omega)]at h1
   exact(hmem b').1 (db.2 ⟨_,b0,c0,h1,h2⟩)
  ·left;obtain⟨b0,c0,h1,h2⟩:=hb
   rw[eF (by rw[ZF];omega)]at h1
   exact⟨⟨b0,c0,h1,h2⟩,hy⟩
theorem Ew(hm:LQ own g w m){id c:Nat}{t:Ty}{l:List (ET F t)}(hB:m id=some (.Nb t l))(hf:g.ids c=none) :
  ∃g',LQ own g' w (Ms m [(id,none),(c,some (.Nb t l)),(id,some (.Pv c l.length))])∧Stp m g w g' w∧∀y,y≠c→g'.ids y=g.ids y:=by
 obtain⟨pl,hid,hO⟩:=hm.ok id _ hB;obtain⟨k1,k2⟩:=lN (rm:=[id]) (id:=c) (pl:=pl) (B:=.Nb t l) (w':=w) hm hf
  (λb0 c' e b hb=>.inr ⟨id,by simp,_,hB,rfl,b0,c',by rw[hid,e],hb⟩) rfl rfl rfl (MO _) (MO _) (λ_ _ _=>rfl) (λg' hle hi=>⟨pl,hi,by exact P8.Pd hle.Lj hle.heap (λ_ _ _ _ _=>rfl) hO⟩)
 refine⟨g.name c pl,?_,k2,λy hy=>cF _ _ _ hy⟩
 have h2:=k1.Pv (id:=id) (k:=c) (n:=l.length) (by
  rw[k2.le.ids _ _ hid,bD]
  cases pl with
  | none=>have:l = []:=hO;subst this;exact .inr ⟨rfl,rfl,rfl⟩
  | some q=>obtain⟨b,cap,n⟩:=q;exact .inl ⟨b,cap,n,n,rfl,rfl,rfl,hO.1⟩)
 have e:([(id,none),(c,some (.Nb t l)),(id,some (.Pv c l.length))]:List (Nat×Option (Mi F)))=([id].map (λr=>(r,none))++[(c,some (.Nb t l))])++[(id,some (.Pv c l.length))]:=rfl;rw[e,il];exact h2
end
set_option linter.unusedVariables false
set_option linter.unusedSimpArgs false
section
variable{F:Fam}{P:Program}{Γ : Ctx F}{T:TypeId→Option (TI F)}{o:Oper}{vals:List (Dat F)}{mm:Nat→Option (Mi F)}{c:Nat}{R:Type}{K:SX F→Option R}
theorem yx{f:FuncId}(h:jM P f)(args:Array Value)(w:World):(callFunc f args).run P w = .ok (.enter f args) w:=by obtain⟨fn0,hf0,hf1,hf2⟩:=h;simp only[OB,PL,OO,callFunc,run_program,hf0,hf1,hf2,R3,if_false]
theorem sn{fn:Operand}{args:Array Operand}{ats:Array TypeId}{a:Act}{w:World}{f:FuncId}{fs cs:List Value}(ho:o.op = .call { callee:=.value fn,args,argTypes:=ats })
  (hfn:a.eval fn = .func (.func f) ⟨fs⟩ ⟨cs⟩) (h:jM P f):(execOp a.eval o).run P w = .ok (.enter f ⟨fs++args.toList.map a.eval++cs⟩) w:=by
 have e:((⟨fs⟩:Array Value)++Array.map a.eval args++⟨cs⟩:Array Value)=⟨fs++args.toList.map a.eval++cs⟩:=by apply Array.ext';simp
 simp only[execOp,ho,resolve,Deferred.ofValue,hfn,OB,PL,OO,invoke,e,yx h]
theorem ug{fn:Operand}{args:Array Operand}{ats:Array TypeId}(ho:o.op = .call { callee:=.value fn,args,argTypes:=ats })(a:Act):o.op.operands.toList.map a.eval=a.eval fn::args.toList.map a.eval:=by rw[ho];simp[Op.operands,Call.operands]
theorem uh{g:G}{w:World}{ds es:List (Dat F)}{vs us:List Value}(h:MG P g w ds vs)(k:MG P g w es us):MG P g w (ds++es) (vs++us):=by
 induction ds generalizing vs with
 | nil=>rw[jv h];exact k
 | cons d ds ih=>obtain⟨v,vs',rfl,h1,h2⟩:=kP h;exact aX.2 ⟨h1,ih h2⟩
theorem Db(hΓ : MN P Γ){fn:Operand}{args:Array Operand}{ats:Array TypeId}(ho:o.op = .call { callee:=.value fn,args,argTypes:=ats }){f:FuncId}{ds:List (Dat F)}
  (hv:∀(g:G)(w:World)(a:Act),MG P g w vals (o.op.operands.toList.map a.eval)→∃fs cs,a.eval fn = .func (.func f) ⟨fs⟩ ⟨cs⟩∧MG P g w ds (fs++args.toList.map a.eval++cs)) :
  Rule P o vals mm c K (AL Γ mm c K f ds):=by
 unfold AL;split
 ·exact af
 ·rename_i sp hsp;split
  ·exact af
  ·rename_i p hp;refine aA (λhn=>aE λr hr=>?_) (λ_=>af);simp only[Ng]at hn;intro r' hr';refine⟨_,hr',?_⟩;intro own g w a m u hle hm hd hall hfr hrep;obtain⟨fs,cs,h1,h2⟩:=hv g w a hrep;exact DX (m:=m) hΓ hm hle hd hall h2 hsp hp hn.1 hn.2 hr hfr (sn ho h1 (hΓ f sp hsp).1)
theorem wG(hΓ : MN P Γ){fn:Operand}{args:Array Operand}{ats:Array TypeId}(ho:o.op = .call { callee:=.value fn,args,argTypes:=ats }){f:FuncId}{ds:List (Dat F)}
  (hv:∀(g:G)(w:World)(a:Act),MG P g w vals (o.op.operands.toList.map a.eval)→∃fs cs,a.eval fn = .func (.func f) ⟨fs⟩ ⟨cs⟩∧MG P g w ds (fs++args.toList.map a.eval++cs)) :
  Rule P o vals mm c K (wo Γ mm c K f ds):=by
 unfold wo
 cases fgt Γ with
 | true=>exact Db hΓ ho hv
 | false=>
 simp only[cond_false];split
 ·exact af
 ·rename_i sp hsp;split
  ·exact af
  ·rename_i p hp;refine aA (λhn=>aE λr hr=>?_) (λ_=>af);simp only[Ng]at hn;intro r' hr';refine⟨_,hr',?_⟩;intro own g w a m u hle hm hd hall hfr hrep;obtain⟨fs,cs,h1,h2⟩:=hv g w a hrep;exact Do (m:=m) hΓ hm hle hd hall h2 hsp hp hn.1 hn.2 hr hfr (sn ho h1 (hΓ f sp hsp).1)
theorem H9{g:G}{w:World}{t:Ty}{x:ET F t}{v:Value}(h:Pw w g.Lj (LZ F t x,t.OU) v):Me P g w (adL t x) v:=by
 have one:∀{d:ND F},Pw w g.Lj ([d],false) v→Md w g.Lj d v:=by
  intro d h;generalize hc:([d],false)=p at h
  cases h with
  | one h=>cases hc;exact h
  | agg=>cases hc
 cases t with
 | st n=>
  unfold adL;simp only[Ty.OU]at h;generalize hc:LZ F (.st n) x=cs at h ⊢
  cases h with
  | agg hl h=>
   refine .agg (by rw[PI,hc,hl]) ?_
   intro k c y h1 h2;rw[Rf,Wp]at h1;obtain⟨d,h3,rfl⟩:=h1;exact .im (h k d y (hc▸h3) h2)
 | int k=>exact .c (.im (one h))
 | bool=>exact .c (.im (one h))
 | str=>exact .c (.im (one h))
 | slice t=>exact .c (.im (one h))
theorem ye{Lj:Nat→Prop}{w:World}:∀{ks:List Ty}{a:HL F (ks.map λt=>.v t [])} {vs:List Value} {LP:List Pl} {Mg:List Pl},dF P w Lj (ks.map λt=>.v t []) a vs LP Mg→U6 w Lj (SQ F ks (rN.VK ks a)) vs
 | [],a,vs,LP,Mg,h=>by
  obtain⟨rfl,_,_⟩:=h
  exact⟨rfl,by simp[SQ]⟩
 | t::ks,a,vs,LP,Mg,h=>by
  obtain⟨v,vs',p1,p2,b1,b2,rfl,_,_,⟨h1,_⟩,h2⟩:=h;have hp:=h1.OZ;subst hp;obtain⟨h3,h4⟩:=ye h2;have e:SQ F (t::ks) (rN.VK (t::ks) a)=(LZ F t a.1,t.OU)::SQ F ks (rN.VK ks a.2):=rfl;rw[e]
  refine⟨by simpa using h3,?_⟩
  intro k d x hd hx
  cases k with
  | zero=>simp only[ Rh,NI]at hd hx;subst hd hx;exact sW h1
  | succ k=>exact h4 k d x (by simpa using hd) (by simpa using hx)
theorem DQ{fn:Operand}{args:Array Operand}{ats:Array TypeId}(ho:o.op = .call { callee:=.value fn,args,argTypes:=ats }){ks:List Ty}{r:Ty}{φ : M7 F ks→Option (ET F r)}{ds:List (Dat F)}(hv:vals = .fv ks r φ::ds) :
  Rule P o vals mm c K (rN mm K ks r φ ds):=by
 subst hv;unfold rN;split
 ·exact af
 ·rename_i q hq;refine aA (λhfl=>?_) (λ_=>af);dsimp only;refine aE λx hx=>?_;intro r' hr';refine⟨_,hr',?_⟩;intro own g w a m u hle hm hd hall hfr hrep;rw[ug ho]at hrep;obtain⟨h1,h2⟩:=aX.1 hrep;generalize hfv:a.eval fn=fv at h1
  have h1':Vm P F w g.Lj ks r φ fv:=by cases h1 with | fv h=>exact h
  obtain⟨fid,bound,captured,rfl,hbd,hent,hfn⟩:=h1';have hfz:TT g q.fz (g.Rl q.fz).Lj:=⟨λ_ h=>.inl h,λid hid b hb=>.inr ⟨id,hid,hb⟩⟩
  obtain⟨k1,k2⟩:=mU (P:=P) (us:=[]) hm hle hq hfz h2 ⟨rfl,by simp⟩
  have k3:=ye (k1 w _ (λb hb=>⟨hb,rfl⟩) () [] ⟨rfl,by simp[SQ]⟩)
  simp only[Wo]at k3;intro next Q hn;unfold Oper.wp;rw[sn ho hfv hent];refine(hfn w (g.Rl q.fz).Lj (λb hb=>⟨.inl hb,rfl⟩) (nK hm hle k2).Lj _ x _ hx k3).mono ?_;rintro e w' ⟨v,rfl,hb,hrt,hdr⟩;have hst:Stp m g w g w':=⟨⟨λ_ _ h=>h,λ_ h=>h,λb hx=>hb.block b (hm.Lj b hx),λ_ h=>h,λb hx=>hb.block b (hm.len b hx).2⟩,hb.os,hb.tape,hb.output,hb.size,λb hlt _=>hb.block b hlt,hdr⟩;refine hn v w' g (H9 (hrt.flat (qX hfl x))) ?_ hst (λid hu _=>hd id hu);exact⟨λid B hB=>(hm.ok id B hB).le hst.le (λho b hi=>hb.block b ((hm.ok id B hB).place hm.Lj (Mi.PV ho) hi)),hm.S_,hm.own,λb hx=>UK (hm.Lj b hx) hb.size,hm.io,λb hx=>⟨(hm.len b hx).1,UK (hm.len b hx).2 hb.size⟩⟩
theorem FD(hT:Mf P T)(hΓ : MN P Γ){cl:Call}(ho:o.op = .call cl):Rule P o vals mm c K (Zk T Γ vals mm c K cl):=by
 obtain⟨callee,args,ats⟩:=cl;unfold Zk
 cases callee with
 | invoke x n=>exact af
 | builtin b=>
  cases b with
  | len=>
   dsimp only;split
   ·exact Gi hT ho
   ·exact af
  | append=>
   dsimp only;split
   ·exact B5 hT ho
   ·exact af
  | copy=>
   dsimp only;split
   ·exact F_ hT ho
   ·exact af
  | clear=>
   dsimp only;split
   ·exact Dl hT ho
   ·exact af
  | min=>exact yo (mx:=false) ho
  | max=>exact yo (mx:=true) ho
  | _=>exact af
 | value fn=>
  dsimp only;split
  ·refine wG hΓ ho ?_;intro g w a hr;rw[ug ho]at hr;obtain⟨h1,h2⟩:=aX.1 hr
   exact⟨[],[],IX h1,by simpa using h2⟩
  ·refine wG hΓ ho ?_;intro g w a hr;rw[ug ho]at hr;obtain⟨h1,h2⟩:=aX.1 hr;generalize a.eval fn=fv at h1 ⊢
   cases h1 with
   | RZ k1 k2 k3 k4=>exact⟨_,_,rfl,uh (uh ⟨k1,k3⟩ h2) ⟨k2,k4⟩⟩
  ·exact DQ ho rfl
  ·exact af
theorem pB(hT:Mf P T)(hΓ : MN P Γ):Rule P o vals mm c K (tOp T Γ vals mm c K o.op):=by
 unfold tOp
 cases ho:o.op with
 | move x=>
  dsimp only;split
  ·exact yZ (.inl ho) rfl
  ·exact af
 | assign x=>
  dsimp only;split
  ·exact yZ (.inr ho) rfl
  ·exact af
 | pick x y z=>exact F7 ho
 | alloc e=>exact Dn hT ho
 | box e x=>exact Hk hT ho
 | build t p=>exact Dy hT ho
 | buildSlice t l p=>exact aA (λ_=>vR hT ho) (λ_=>wZ hT ho)
 | load t x=>exact F5 hT ho
 | store t x y=>exact Dc hT ho
 | nilCheck x=>exact ze ho
 | binOp op t x y u=>exact Ik hT ho
 | unOp op t x=>exact J8 ho
 | convert s d x=>exact Eh hT ho
 | makeFunc fn f cs=>exact Eo ho
 | makeSlice t x y=>
  refine aA (λ_=>?_) (λ_=>yq hT ho)
  cases hl:rQ T t x y with
  | some n=>exact DM hT ho hl
  | none=>exact yq hT ho
 | slice t x lo hi mx=>
  cases mx with
  | none=>exact aA (λhc=>FF hT ho hc) (λ_=>Dq hT ho)
  | some _=>exact af
 | fieldAddr s x f=>exact Da hT ho
 | field s x f=>exact ES hT ho
 | indexAddr t x y=>exact yd hT ho
 | index t x y=>exact Dg hT ho
 | extract x i=>exact z9 ho
 | call cl=>exact FD hT hΓ ho
 | makeMap t r=>
  cases r with
  | none=>exact Bf hT ho
  | some _=>exact af
 | lookup t x y ok=>exact BQ hT ho
 | mapUpdate t x y z=>exact yb hT ho
 | _=>exact af
theorem Ii{x:Option R}(h:Rule P o (vals.map (aaz mm)) mm c K x):Rule P o vals mm c K x:=by intro r hr;obtain⟨res,h1,h2⟩:=h r hr;exact⟨res,h1,λown g w a m u hle hm hd hall hfr hrep=>h2 own g w a m u hle hm hd hall hfr (Ev hm hle hrep)⟩
end
set_option linter.unusedVariables false
set_option linter.unusedSimpArgs false
section
variable{F:Fam}{P:Program}{T:TypeId→Option (TI F)}{Γ : Ctx F}{o:Oper}{vals:List (Dat F)}{mm:Nat→Option (Mi F)}{c:Nat}{R:Type}{K:SX F→Option R}
variable{own:Ow}{g:G}{w:World}{m:Nat→Option (Mi F)}{u:Nat→Bool}{a:Act}
theorem P7.upd:∀{l:List (Nat×Option (Mi F))} {mm m:Nat→Option (Mi F)},P7 mm m→P7 (Ms mm l) (Ms m l)
 | [],_,_,h=>h
 | (id,B)::r,mm,m,h=>by
  simp only[Ms];refine P7.upd (l:=r) λx B' hx=>?_;by_cases hb:Nat.beq id x=true
  ·rw[if_pos hb]at hx ⊢;exact hx
  ·rw[if_neg hb]at hx ⊢;exact h x B' hx
theorem Ix{pre:List (Nat×Option (Mi F))}{k:Nat}{g2:G}{u2:Nat→Bool}{res:SX F}(hl:Le g w g2 w)
  (hown:∀id B,Ms m pre id=some B→B.owned=true→∀b,g2.blk id b→∃id' B',m id'=some B'∧B'.owned=true∧g.blk id' b)
  (hu:∀id,u id=false→(id<c∨c+k≤id)→u2 id=false) (h:PZ P own (Ms m pre) u2 g2 w o a (c+k) res):PZ P own m u g w o a c ⟨res.val,pre++res.mw,k+res.nu⟩:=by
 intro next Q hn
 refine h next Q λv w' g' h1 h2 h3 h4=>hn v w' g' h1 (by rw[il];exact h2) ⟨hl.trans h3.le,h3.os,h3.tape,h3.output,h3.size,?_,h3.drawn⟩ ?_
 ·intro b hb hno;refine h3.frame b hb λid B hB ho hbk=>?_;obtain⟨id',B',k1,k2,k3⟩:=hown id B hB ho b hbk;exact hno id' B' k1 k2 k3
 ·intro id hi hr;have hr:id<c∨c+(k+res.nu)≤id:=hr
  exact h4 id (hu id hi (by omega)) (by omega)
theorem Hg(hm:LQ own g w m){id i:Nat}{t:Ty}{l:List (ET F t)}{ks:List Nat}{rs:List (Mi F)}{g2:G}{B0:Mi F}(hB:m id=some B0)(ho:B0.owned=true)(hf:∀j,j<ks.length+1→g.ids (c+j)=none)(hrs:rs.length=ks.length)
  (hblk:∀y b',g2.blk y b'→(g.blk y b'∧¬ (c≤y∧y<c+ks.length+1))∨g.blk id b') :
  ∀y B,Ms m (Rp id c t l i ks rs) y=some B→B.owned=true→∀b,g2.blk y b→∃id' B',m id'=some B'∧B'.owned=true∧g.blk id' b:=by
 intro y B hy hoB b hb;rcases hblk y b hb with⟨h1,h2⟩ | h1
 ·refine⟨y,B,?_,hoB,h1⟩
  have hid:y≠id:=by rintro rfl;have e1:Rp y c t l i ks rs=((y,none)::(c,some (.Sq t l i ks))::blks (nmF (c+1) rs))++[(y,some (.Pv c l.length))]:=rfl;rw[e1,il]at hy;simp only[Ms]at hy;rw[if_pos (YO y)]at hy;cases hy;cases hoB
  rw[d8]at hy
  ·exact hy
  ·intro hk;simp only[Rp,UH,Nr,Uo,NH,N_,Oj,QfC,or_false]at hk;rcases hk with rfl | rfl | hk | rfl
   ·exact hid rfl
   ·exact h2 ⟨MO _,by omega⟩
   ·obtain⟨p,hp,hp2⟩:=RA.1 hk;obtain⟨q,hq,hq2⟩:=RA.1 hp;obtain⟨j,hj1,hj2⟩:=xY hq;have hjl:=(Lb.1 hj2).1;subst hq2;simp only at hp2
    exact h2 ⟨by omega,by omega⟩
   ·exact hid rfl
 ·exact⟨id,B0,hB,ho,h1⟩
theorem H_{id sz i off:Nat}{v:Value}(h:Me (F:=F) P g w (.c (.TB id sz i off)) v):∃b c' n pl,g.ids id=some (some (b,c',n))∧n.2[i*sz+off]? = some pl∧Oo (Nv pl) v:=by
 cases h with | c h=>cases h with | TB h hk hv=>exact⟨_,_,_,_,h,hk,hv⟩
theorem DA(hT:Mf P T)(hΓ : MN P Γ){id sz i off:Nat}{rest:List (Dat F)}(hv:vals = .c (.TB id sz i off)::rest):Rule P o vals mm c K (Zl T Γ vals mm c K o.op id sz i off):=by
 unfold Zl;split
 ·rename_i t l hrow;refine aA (λhsz=>?_) (λ_=>af);subst hsz;refine aE λx hx=>?_;split
  ·rename_i t2 l2 hd;intro r hr;obtain⟨res,h1,h2⟩:=pB hT hΓ r hr;refine⟨_,h1,?_⟩;intro own g w a m u hle hm Wj hall hfr hrep;subst hv;obtain⟨v0,vs,e,hv0,hvs⟩:=kP hrep
   have hfree:∀j,j < [off].length+1→g.ids (c+j)=none:=λj hj=>Wj _ (hfr j (by simp only[QcT]at hj;simp only;omega))
   have ao5:off<LV F t:=by rw[← bC F t x];exact(Lb.1 hd).1
   obtain⟨g2,b,cap,n,k1,k2,k3,k4,k5,k6,k7,k8,k9,k10⟩:=yM (c:=c) (ks:=[off]) (rs:=[.row t2 l2]) hm hall (hle _ _ hrow) hx (by simp) rfl (λj B hj=>by
    cases j with
    | zero=>simp only[Rh,NI]at hj;subst hj;exact⟨off,t2,l2,rfl,rfl,hd⟩
    | succ j=>simp at hj) (by intro q hq;rw[Ld]at hq;subst hq;exact ao5) hfree
   obtain⟨b',c',n',pl,p1,p2,p3⟩:=H_ hv0;rw[k6]at p1;cases p1;have hn1:=k8 0 off rfl;rw[p2,Wz]at hn1
   have hx2:Me (F:=F) P g2 w (.c (.Nl (c+1))) v0:=by
    refine .c ?_
    cases pl with
    | none=>obtain⟨p,rfl⟩:=p3;exact .PN p hn1
    | some q=>obtain⟨b2,cap2,n2⟩:=q;simp only[Nv,Oo]at p3;subst p3;obtain⟨t',l',hc,r1,r2,r3,_⟩:=P8.sub k9 p2;cases r1;exact .Nl hn1 r2 r3
   have hu2:∀y,(u y||(decide (c≤y)&&decide (y<c+2)))=false→g2.ids y=none:=by
    intro y hy;simp only[YT,QeT,decide_eq_false_iff_not]at hy
    rw[k5 y (by simp only[QcT];omega)]
    exact Wj y hy.1
   have hfr2:∀k,k<res.nu→(u (c+2+k)||(decide (c≤c+2+k)&&decide (c+2+k<c+2)))=false:=by
    intro k hk
    have:=hfr (2+k) (by simp only;omega)
    rw[show c+2+k=c+(2+k)by omega,this]
    simp
   have:=h2 own g2 w a (Ms m (Rp id c t l i [off] [.row t2 l2])) (λy=>u y||(decide (c≤y)&&decide (y<c+2))) hle.upd k2 hu2 hall hfr2 (by
    rw[e]
    exact aX.2 ⟨hx2,by show MG P g2 w rest vs;exact⟨hvs.1,λk d x a b=>(hvs.2 k d x a b).le k1⟩⟩)
   exact Ix (k:=2) k1 (Hg hm (hle _ _ hrow) rfl hfree rfl k10) (λy hy hr=>by simp only[hy,QfM,QeT,decide_eq_false_iff_not];omega) this
  ·exact af
 ·exact af
theorem vG{α : Type}{l v:List α}{p:Nat}(h:p+v.length≤l.length)(k:Nat) :
  (l.take p++v++l.drop (p+v.length))[k]? = if p≤k∧k<p+v.length then v[k - p]? else l[k]?:=by
 have h1:(l.take p).length=p:=by rw[Ox];omega
 by_cases hk:k<p
 ·rw[if_neg (by omega),PS,Ru (by omega),RF,if_pos hk]
 ·rw[PS,RD (by omega),h1]
  by_cases hk2:k - p<v.length
  ·rw[if_pos (by omega),Ru hk2]
  ·rw[if_neg (by omega),RD (by omega),Tc]
   congr 1
   omega
theorem GX{t:Ty}{l:List (ET F t)}{i off:Nat}{x y:ET F t}{ds:List (ND F)}(hx:l[i]? = some x)(h3:off+ds.length≤LV F t)(hy:O7 F t ((LZ F t x).take off++ds++(LZ F t x).drop (off+ds.length))=some y)
  {k:Nat} {d:ND F} (hk:(cells F t (l.set i y))[k]? = some d) :
  (∃j d0,j<ds.length∧k=i*LV F t+off+j∧ds[j]? = some d0∧Vb d0 d)∨((k<i*LV F t+off∨i*LV F t+off+ds.length≤k)∧∃d0,(cells F t l)[k]? = some d0∧Vb d0 d):=by
 rcases qh hx hk with⟨j,rfl,hj⟩ | ⟨h,h'⟩
 ·have hl:=cK F hy;have hels:(LZ F t x).length=LV F t:=bC F t x
  have hjl:j<LV F t:=by rw[← bC F t y];exact(Lb.1 hj).1
  have hov:=vG (l:=LZ F t x) (v:=ds) (p:=off) (by omega) j
  by_cases hin:off≤j∧j<off+ds.length
  ·rw[if_pos hin]at hov
   have hd0:ds[j - off]? = some ds[j - off]:=La (by omega)
   exact .inl ⟨j - off,_,by omega,by omega,hd0,hl.2 j _ d (hov.trans hd0) hj⟩
  ·rw[if_neg hin]at hov
   have hd0:(LZ F t x)[j]? = some (LZ F t x)[j]:=La (by omega)
   exact .inr ⟨by omega,_,a_ hx hd0,hl.2 j _ d (hov.trans hd0) hj⟩
 ·exact .inr ⟨by omega,d,h',.refl _⟩
def YK(g:G):Option Nat→Option (Nat×Nat×Nat)
 | none=>none
 | some nm=>match g.ids nm with
  | some (some (b,cap,n))=>some (b,cap,n.1)
  | _=>none
theorem oH{y:MK F}{r:List (MK F)}{ds:List (ND F)}{os:List (Option Nat)}(h:hP mm (y::r)=some (ds,os)):∃d o ds' os',pR mm y=some (d,o)∧hP mm r=some (ds',os')∧ds=d::ds'∧os=o::os':=by
 simp only[hP]at h;split at h
 ·cases h
 ·rename_i d o h1;split at h
  ·cases h
  ·rename_i ds' os' h2;cases h;exact⟨d,o,ds',os',h1,h2,rfl,rfl⟩
theorem pL:∀{cs:List (MK F)} {ds:List (ND F)} {os:List (Option Nat)},hP mm cs=some (ds,os)→ds.length=cs.length∧os.length=cs.length
 | [],ds,os,h=>by simp only[hP,NI]at h;cases h;exact⟨rfl,rfl⟩
 | y::r,ds,os,h=>by obtain⟨d,o,ds',os',h1,h2,rfl,rfl⟩:=oH h;obtain⟨k1,k2⟩:=pL h2;simp[k1,k2]
theorem vk:∀{cs:List (MK F)} {ds:List (ND F)} {os:List (Option Nat)},hP mm cs=some (ds,os)→∀{j:Nat}{d:ND F}{o:Option Nat},ds[j]? = some d→os[j]? = some o→∃y,cs[j]? = some y∧pR mm y=some (d,o)
 | [],ds,os,h,j,d,o,hd,ho=>by simp only[hP,NI]at h;cases h;simp at hd
 | y::r,ds,os,h,j,d,o,hd,ho=>by
  obtain⟨d',o',ds',os',h1,h2,rfl,rfl⟩:=oH h
  cases j with
  | zero=>simp only[Rh,NI]at hd ho;subst hd;subst ho;exact⟨y,rfl,h1⟩
  | succ j=>exact vk h2 (by simpa using hd) (by simpa using ho)
theorem wY{y:MK F}{d:ND F}{nm:Nat}(h:pR mm y=some (d,some nm)):∃t l,y = .Nl nm∧d = .sl t l∧mm nm=some (.row t l):=by
 unfold pR at h;split at h
 ·rename_i id;split at h
  ·rename_i t l hrow;cases h;exact⟨t,l,rfl,rfl,hrow⟩
  ·cases h
 ·split at h
  ·cases h
  ·split at h<;>cases h
 ·cases h
theorem qj:∀{cs:List (MK F)} {ds:List (ND F)} {os:List (Option Nat)},hP mm cs=some (ds,os)→cs.all MK.RP=true
 | [],_,_,_=>rfl
 | y::r,ds,os,h=>by
  obtain⟨d,o,ds',os',h1,h2,rfl,rfl⟩:=oH h;simp only[QeJ,Ng];refine⟨?_,qj h2⟩
  cases y<;>first | rfl | simp[pR]at h1
theorem tF:∀{cs:List (MK F)} {ds:List (ND F)} {os:List (Option Nat)},hP mm cs=some (ds,os)→∀id,some id∈os→∃t l,mm id=some (.row t l)
 | [],ds,os,h,id,hid=>by simp only[hP,NI]at h;cases h;simp at hid
 | y::r,ds,os,h,id,hid=>by
  obtain⟨d,o,ds',os',h1,h2,rfl,rfl⟩:=oH h;rcases NH.1 hid with rfl | hid
  ·obtain⟨t,l,_,_,h3⟩:=wY h1;exact⟨t,l,h3⟩
  ·exact tF h2 id hid
theorem DS(hm:LQ own g w m)(hle:P7 mm m){y:MK F}{d0 d:ND F}{o:Option Nat}(h:pR mm y=some (d0,o))(hd:Vb d0 d){x:Value}(hr:Mj g w y x)(hnn:d≠.nl):Oz w g.Lj d x (YK g o):=by
 cases o with
 | some nm=>
  obtain⟨t,l,rfl,rfl,hrow⟩:=wY h;cases hd;rcases hm.ok nm _ (hle _ _ hrow)with⟨k1,k2⟩ | ⟨b,cap,cur,e,k1,k2,k3,k4,k5,k6⟩
  ·subst k2;rcases bE hr with⟨hi,p,rfl⟩ | ⟨b,c,n,hi,h1,h2,rfl⟩
   ·simp only[YK,k1];exact⟨rfl,p,rfl⟩
   ·rw[k1]at hi;cases hi
  ·rcases bE hr with⟨hi,p,rfl⟩ | ⟨b',c',n,hi,h1,h2,rfl⟩
   ·rw[k1]at hi;cases hi
   ·rw[k1]at hi;cases hi;simp only[YK,k1];exact⟨⟨rfl,k3,k4,cur,e,k2,k5,k6⟩,rfl⟩
 | none=>
  unfold pR at h;split at h
  ·split at h<;>cases h
  ·rename_i d1;split at h
   ·cases h
    cases hd with
    | refl=>exact absurd rfl hnn
    | nl t ht=>obtain⟨p,rfl⟩:=p7 (P:=default) (.c hr);exact⟨rfl,p,rfl⟩
   ·split at h
    ·rename_i hf;cases h
     cases hd with
     | refl=>
      cases d0 with
      | sl t l=>simp[TH.flat]at hf
      | nl=>exact absurd rfl hnn
      | _=>exact⟨rfl,rfl,dn hr⟩
     | nl=>simp[TH.flat]at hf
    ·cases h
  ·cases h
theorem u_(hm:LQ own g w m)(hle:P7 mm m):∀{os:List (Option Nat)},(∀id,some id∈os→∃t l,mm id=some (.row t l))→MP (os.map (YK g))=Li (os.map (Mk g))
 | [],_=>rfl
 | none::os,h=>by
  simp only[Nr,YK,Mk,MP,Li]
  exact u_ hm hle (λid hid=>h id (by simp[hid]))
 | some nm::os,h=>by
  have ih:=u_ hm hle (os:=os) (λid hid=>h id (by simp[hid]))
  obtain⟨t,l,hrow⟩:=h nm (by simp)
  rcases hm.ok nm _ (hle _ _ hrow)with⟨k1,k2⟩ | ⟨b,cap,cur,e,k1,k2,k3,k4,k5,k6⟩
  ·simp only[Nr,YK,Mk,k1,Wz,MP,Li];exact ih
  ·simp only[Nr,YK,Mk,k1,Wz,MP,Li,PX];rw[ih]
theorem CS(hm:LQ own g w m)(hle:P7 mm m)(hall:∀b,w.heap.size≤b→own.o b){t:Ty}{id i off p:Nat}(hp:p=i*LV F t+off){l:List (ET F t)}{x y:ET F t}{C:Nat→ND F→Value→Option (Nat×Nat×Nat)→Prop}{C':World→Nat→ND F→Value→Option (Nat×Nat×Nat)→Prop}{B0 B':Mi F}{b cap:Nat}{n:Nat×NS}
  (hB:m id=some B0) (hB0:B0.owned=true) (hid:g.ids id=some (some (b,cap,n))) (hO:Ri w t l C (some (b,cap,n))) (hx:l[i]? = some x) {cs:List (MK F)} {ds:List (ND F)} {os:List (Option Nat)} (hst:hP mm cs=some (ds,os))
  (hnd:eK (id::Mx os)=true) (h3:off+ds.length≤LV F t) (hy:O7 F t ((LZ F t x).take off++ds++(LZ F t x).drop (off+ds.length))=some y) (hnn:∀d∈LZ F t y,d≠.nl)
  {vs:List Value} (hvl:vs.length=cs.length) (hv:∀(k:Nat)(c:MK F)(z:Value),cs[k]? = some c→vs[k]? = some z→Mj g w c z) {cur:List Value} {e:TypeId} (hb:w.heap[b]? = some (.cells ⟨cur⟩ e (0,0))) (hf:g.ids c=none)
  (hB1:∀g' w',g'.ids c=some (some (b,cap,n.1,n.2.take (p)++os.map (YK g)++n.2.drop (p+ds.length)))→g'.Lj=g.Lj→Ri w' t (l.set i y) (C' w') (some (b,cap,n.1,n.2.take (p)++os.map (YK g)++n.2.drop (p+ds.length)))→M_ g' w' c B') (hB2:B'.owned=true)
  (hC1:∀(w':World) k d z pl,(∀b',g.Lj b'→w'.heap[b']? = w.heap[b']?)→(∀b' c',pl=some (b',c')→w'.heap[b']? = w.heap[b']?)→p≤k→k<p+ds.length→Oz w g.Lj d z pl→C' w' k d z pl)
  (hC2:∀(w':World) k d0 d z pl,(∀b',g.Lj b'→w'.heap[b']? = w.heap[b']?)→(∀b' c',pl=some (b',c')→w'.heap[b']? = w.heap[b']?)→(k<p∨p+ds.length≤k)→(cells F t l)[k]? = some d0→Vb d0 d→C k d0 z pl→C' w' k d z pl) :
  ∃g',LQ own g' (w.setRow b ⟨cur.take (p)++vs++cur.drop (p+ds.length)⟩) (Ms m (YZ id c l.length os B'))∧Stp m g w g' (w.setRow b ⟨cur.take (p)++vs++cur.drop (p+ds.length)⟩)∧∀y,y≠c→g'.ids y=g.ids y:=by
 obtain⟨w',hw'⟩:∃w',w'=w.setRow b ⟨cur.take p++vs++cur.drop (p+ds.length)⟩:=⟨_,rfl⟩;obtain⟨ns,hns⟩:∃ns,ns=n.2.take p++os.map (YK g)++n.2.drop (p+ds.length):=⟨_,rfl⟩;rw[← hw'];rw[← hns]at hB1;obtain⟨q1,q2,q3,q4,q5,cur',e',q6,q7,q8⟩:=hO;rw[hb]at q6;cases q6;obtain⟨hdl,hol⟩:=pL hst
 have ao4:os.length=ds.length:=by omega
 have aoX:vs.length=ds.length:=by omega
 have hile:i<l.length:=(Lb.1 hx).1
 have hbig:p+ds.length≤(cells F t l).length:=by rw[iU];have:(i+1)*LV F t≤l.length*LV F t:=Ro _ hile;rw[TM]at this;omega
 have hcur:(cells F t l).length≤cur.length:=by rw[q7,iU];exact Ro _ q2
 have hsame:∀b',b'≠b→w'.heap[b']? = w.heap[b']?:=λb' h=>by rw[hw'];exact setRow_other w b b' _ h
 have hnew:w'.heap[b]? = some (.cells ⟨cur.take p++vs++cur.drop (p+ds.length)⟩ e (0,0)):=by rw[hw'];exact setRow_heap w b _ _ _ _ hb
 have hsz:w'.heap.size=w.heap.size:=by rw[hw'];simp[World.setRow]
 have hrows:=tF hst;have ak0:g.blk id b:=G.MI hid
 have adw:∀id',some id'∈some id::os→∃B,m id'=some B∧B.owned=true:=by
  intro id' h;rcases NH.1 h with h | h
  ·cases h;exact⟨_,hB,hB0⟩
  ·obtain⟨t',l',h'⟩:=hrows id' h;exact⟨_,hle _ _ h',rfl⟩
 have WO:Li ((some id::os).map (Mk g))=b::(MP n.2++Li (os.map (Mk g))):=by simp[Mk,hid,Li]
 have hN0:=kz (os:=some id::os) hm (jE hnd) adw
 have U1:∀b',b'∈Li ((some id::os).map (Mk g))→own.o b'∧¬ g.Lj b'∧b'<w.heap.size∧¬ g.len b':=by intro b' h;obtain⟨id',h1,h2⟩:=cC.1 h;obtain⟨B,h4,h5⟩:=adw id' h1;have:=hm.own id' B b' h4 h5 h2;exact⟨this.1,this.2,(hm.ok id' B h4).place hm.Lj (Mi.PV h5) h2,λhl=>(hm.len b' hl).1 this.1⟩
 have adI:b∈Li ((some id::os).map (Mk g)):=by rw[WO];simp
 have MR:∀b',g.Lj b'→w'.heap[b']? = w.heap[b']?:=λb' h=>hsame b' (λe=>(U1 b adI).2.1 (e▸h))
 have hlns:p+ds.length≤n.2.length:=by rw[q4];exact hbig
 have hsplit:MP n.2=MP (n.2.take p)++(MP ((n.2.drop p).take ds.length)++MP (n.2.drop (p+ds.length))):=by rw[← iQ,← iQ,← QfY,Xe,Xe]
 have ao_:MP ns=MP (n.2.take p)++(Li (os.map (Mk g))++MP (n.2.drop (p+ds.length))):=by rw[hns,iQ,iQ,u_ hm hle hrows,PS]
 have hperm:(b::(MP n.2++Li (os.map (Mk g)))).Perm ((b::MP ns)++MP ((n.2.drop p).take ds.length)):=by rw[hsplit,ao_];simp only[UH,PS];refine List.Perm.cons _ (QeD _ ?_);refine(List.perm_append_comm_assoc _ _ _).trans ?_;refine((QdD (l₁:=MP ((n.2.drop p).take ds.length))).append_left _).trans ?_;rw[← PS,← PS];exact List.perm_append_comm.append_right _
 have Z0:(b::MP ns).Nodup:=by have:=hperm.nodup_iff.1 (WO▸hN0);exact(Xd.1 this).1
 have hsub:∀b',b'∈b::MP ns→b'∈Li ((some id::os).map (Mk g)):=by intro b' h;rw[WO];exact hperm.mem_iff.2 (QcW _ h)
 have akQ:ns.length=(cells F t (l.set i y)).length:=by rw[hns,iU,Yc,← iU];simp only[Lc,Ox,Rn,PI];omega
 have hOw:Ri w' t (l.set i y) (C' w') (some (b,cap,n.1,ns)):=by
  refine⟨by rw[Yc];exact q1,by rw[Yc];exact q2,q3,akQ,Z0,_,e,hnew,by simp only[Lc,Ox,Rn];omega,?_⟩
  intro k d z pl p1 p2 p3
  have acu:=vG (l:=cur) (v:=vs) (p:=p) (by omega) k
  have afS:=vG (l:=n.2) (v:=os.map (YK g)) (p:=p) (by rw[PI];omega) k
  rw[PI,ao4]at afS;rw[aoX]at acu;rw[acu]at p2;dsimp only at p3;rw[hns,afS]at p3;rcases GX hx h3 hy p1 with⟨j,d0,j1,j2,j3,j4⟩ | ⟨j1,d0,j2,j3⟩
  ·rw[← hp]at j2
   rw[if_pos (by omega)]at p2 p3
   have ej:k - p=j:=by omega
   rw[ej]at p2 p3;rw[Rf]at p3;obtain⟨o',ho',rfl⟩:=Wp.1 p3;obtain⟨cc,hcc,hce⟩:=vk hst j3 ho'
   have aps:d≠.nl:=by
    rcases qh hx p1 with⟨jj,hjj,hd⟩ | ⟨hout,_⟩
    ·exact hnn d (Wx hd)
    ·omega
   have hC:=DS hm hle hce j4 (hv j cc z hcc p2) aps
   refine hC1 w' k d z _ MR ?_ (by omega) (by omega) hC
   rintro b' c' hpl;refine hsame b' ?_;rintro rfl
   have hin:b'∈Li (os.map (Mk g)):=by
    rw[← u_ hm hle hrows]
    exact kc (k:=j) (by rw[Rf,ho'];exact congrArg some hpl)
   rw[WO]at hN0;exact(Un.1 hN0).1 (QcS _ hin)
  ·rw[← hp]at j1
   rw[if_neg (by omega)]at p2 p3
   refine hC2 w' k d0 d z pl MR ?_ j1 j2 j3 (q8 k d0 z pl j2 p2 p3);rintro b' c' rfl;refine hsame b' ?_;rintro rfl;exact(Un.1 q5).1 (kc p3)
 have Y4:Le g w (g.back c [some (b,cap,n.1,ns)] g.Lj) w':=by
  refine⟨λy r hy=>?_,λ_ h=>h,MR,λ_ h=>h,λb' hl=>hsame b' (λe=>(U1 b adI).2.2.2 (e▸hl))⟩
  have hyc:¬ (c≤y∧y<c + [(some (b,cap,n.1,ns):Pl)].length):=by
   intro hc
   have:y=c:=by simp only[QcT]at hc;omega
   subst this;rw[hf]at hy;cases hy
  rw[eF hyc];exact hy
 have hc0:(g.back c [some (b,cap,n.1,ns)] g.Lj).ids c=some (some (b,cap,n.1,ns)):=by have:=u5 (g:=g) (c:=c) (LP:=[some (b,cap,n.1,ns)]) (I:=g.Lj) 0 _ rfl;simpa using this
 have aaN:Li ([]:List Pl)++Li [some (b,cap,n.1,ns)]=b::MP ns:=by simp[Li]
 have hfk:∀k,k < [(some (b,cap,n.1,ns):Pl)].length→g.ids (c+k)=none:=by
  intro k hk
  have:k=0:=by simp only[QcT]at hk;omega
  subst this;exact hf
 have hM:=sC (g1:=g) (m1:=m) (os:=some id::os) (bx:=[]) (Mg:=[]) (Ml:=[some (b,cap,n.1,ns)]) (bs:=[(c,B')]) (Ux:=g.Lj) (LU:=g.Lj) (I:=g.Lj) (w':=w') hm hm rfl rfl hall rfl
  hfk
  (λid' h=>by obtain⟨B,h1,h2⟩:=adw id' h;exact⟨B,h1,h1,h2⟩) (λid' h=>by simp at h) rfl ⟨hN0,λb' h=>(U1 b' h).2.1,λb' h=>(U1 b' h).2.2.1⟩ (λ_ h=>h) (by rw[hsz];exact MO _) (λb' _ hno=>hsame b' (λe=>hno (e▸adI))) (λ_ h=>h) (λ_ h=>h) (λb h=>.inl h) (λb' h=>by rw[hsz];exact hm.Lj b' h)
  ⟨by rw[aaN];exact Z0,λb' h=>(U1 b' (hsub b' (aaN▸h))).2.1,λb' h=>by rw[hsz];exact(U1 b' (hsub b' (aaN▸h))).2.2.1⟩
  (λb' h=>.inl (hsub b' (aaN▸h))) (λp hp=>by rw[Ld]at hp;subst hp;exact⟨hB2,hB1 _ _ hc0 rfl hOw,.inl ⟨0,rfl,by simp⟩⟩)
 refine⟨g.back c [some (b,cap,n.1,ns)] g.Lj,?_,⟨Y4,by rw[hw'];rfl,by rw[hw'];rfl,by rw[hw'];rfl,by rw[hsz];exact MO _,λb' _ hno=>hsame b' (λe=>hno id B0 hB hB0 (e▸ak0)),by rw[hw'];exact MO _⟩,λy hy=>eF (by simp only[QcT];omega)⟩
 have:=hM.Pv (id:=id) (k:=c) (n:=l.length) (.inl ⟨b,cap,n,(n.1,ns),Y4.ids _ _ hid,hc0,rfl,q1⟩)
 have e1:YZ id c l.length os B'=(nones (Mx (some id::os))++blks [(c,B')])++[(id,some (.Pv c l.length))]:=by simp[YZ,Mx,blks]
 rw[e1,il];exact this
theorem Ui(hT:Mf P T){ty:TypeId}{X Y:Operand}(ho:o.op = .store ty X Y){id sz i off:Nat}{v:Dat F}(hv:vals = [.c (.OX id sz i off),v]){t:Ty}{l:List (ET F t)}{i0:Nat}{ks:List Nat}
  (hk:(mm id=some (.Nb t l)∧ks = [])∨mm id=some (.Sq t l i0 ks)):Rule P o vals mm c K (Xf T mm c K ty id sz i off v t l i0 ks):=by
 subst hv;unfold Xf;split
 ·exact af
 ·rename_i ti hti
  have key:∀{w:World}{a:Act}{b q:Nat}{cur:List Value} {e:TypeId} {vs:List Value},a.eval X = .pointer (some ⟨b,q,none⟩)→w.heap[b]? = some (.cells ⟨cur⟩ e (0,0))→(a.eval Y).cells.toList=vs→vs.length=ti.size→
    (∀v∈vs,v.oneCell'=true)→q+vs.length≤cur.length→(execOp a.eval o).run P w = .ok .skip (w.setRow b ⟨cur.take q++vs++cur.drop (q+vs.length)⟩):=by
   intro w a b q cur e vs e1 hb e2 hl h1 hle;have hsz:=cv hT hti w
   have hs:=run_storeCells_at (P:=P) b q e vs 0 ⟨cur⟩ w hb (by simpa using hle) h1
   simp only[U9]at hs
   have hsize:(a.eval Y).cells.size=ti.size:=by rw[← WA,e2,hl]
   simp only[execOp,ho,e1,Instr.storeAt,Instr.sureAddr,OB,PL,OO,storeVar,hsz,hsize,ne_eq,not_true_eq_false,if_false,e2,hs]
  split
  ·exact af
  ·rename_i ds os hst;refine aA (λhc=>?_) (λ_=>af);simp only[Ng,decide_eq_true_eq,beq_iff_eq,R6]at hc;obtain⟨⟨⟨⟨⟨h1,h2⟩,h3⟩,h4⟩,h5⟩,h6⟩:=hc;have h3:=Va h3;subst h2
   cases hcb:(ks.isEmpty||Nat.beq i i0)with
   | false=>exact af
   | true=>
   simp only[cond_true];refine aE λx hx=>?_;split
   ·rename_i y hy;intro r hr;refine⟨_,hr,?_⟩;intro own g w a m u hle hm Wj hall hfr hrep;rw[ho]at hrep;simp only[Op.operands,Nr,Oj]at hrep;obtain⟨hxr,hyr⟩:=M5 hrep;obtain⟨b,cn,hi,e1⟩:=jz hxr;obtain⟨cap,n⟩:=cn;obtain⟨hdl,hol⟩:=pL hst;have hlt:i<l.length:=(Lb.1 hx).1
    obtain⟨r1,r2,r3⟩:=m7 hyr (qj hst) (by omega)
    have hf:g.ids c=none:=Wj c (hfr 0 (by simp))
    have hrow:∃(B0:Mi F)(C:Nat→ND F→Value→Option (Nat×Nat×Nat)→Prop),m id=some B0∧B0.owned=true∧Ri w t l C (some (b,cap,n))∧
      ∀k d z pl,(k<i*LV F t+off∨i*LV F t+off+ds.length≤k)→C k d z pl→Oz w g.Lj d z pl:=by
     rcases hk with⟨hk,rfl⟩ | hk
     ·obtain⟨pl,k1,k2⟩:=hm.ok id _ (hle _ _ hk);rw[hi]at k1;cases k1;exact⟨_,λ_=>Oz w g.Lj,hle _ _ hk,rfl,k2,λ_ _ _ _ _ h=>h⟩
     ·obtain⟨pl,k1,k2⟩:=hm.ok id _ (hle _ _ hk);rw[hi]at k1;cases k1;refine⟨_,_,hle _ _ hk,rfl,k2,λk d z pl hout hC=>hC.2 ?_⟩;rintro⟨q,hq,hkq⟩
      have hii:i=i0:=by
       rw[UG]at hcb;rcases hcb with hcb | hcb
       ·rw[QgD]at hcb;subst hcb;simp at hq
       ·exact Q_ hcb
      subst hii;have:=Tg.1 h6 q hq;simp only[Ng,R6]at this;have h7:=Va this.1;omega
    obtain⟨B0,C,hB,hBo,hO,hC⟩:=hrow;have hO':=hO;obtain⟨q1,q2,q3,q4,q5,cur,e,q6,q7,q8⟩:=hO'
    have hbig:i*LV F t+off+ds.length≤cur.length:=by
     have h8:(i+1)*LV F t≤cap*LV F t:=Ro _ (by omega)
     rw[TM]at h8;omega
    have hrun:=key (vs:=(a.eval Y).cells.toList) e1 q6 rfl (by rw[r1,← hdl,h1]) r3 (by rw[r1,← hdl];exact hbig)
    rw[r1,← hdl]at hrun;obtain⟨g',s1,s2,s3⟩:=CS (c:=c) (C:=C) (C':=λw' _=>Oz w' g.Lj) (B':=.Nb t (l.set i y)) hm hle hall (p:=i*LV F t+off) rfl hB hBo hi hO hx hst h5 h3 hy (rP hy) r1 r2 q6 hf
     (λg'' w' k1 k2 k3=>⟨_,k1,by rw[k2];exact k3⟩) rfl (λw' k d z pl k1 k2 _ _ k3=>k3.Pd (λ_ h=>h) k1 k2) (λw' k d0 d z pl k1 k2 k3 k4 k5 k6=>by have h9:=hC k d0 z pl k3 k6;rw[vW k5 h9];exact h9.Pd (λ_ h=>h) k1 k2)
    intro next Q hn;unfold Oper.wp;rw[hrun]
    exact hn undef _ g' (.c .any) s1 s2 (λid' hu hr=>by
     have hr:id'<c∨c+1≤id':=hr
     rw[s3 id' (by omega)]
     exact Wj id' hu)
   ·exact af
theorem WY(hT:Mf P T){ty:TypeId}{X Y:Operand}(ho:o.op = .store ty X Y){id sz i off:Nat}{v:Dat F}(hv:vals = [.c (.OX id sz i off),v]){t:Ty}{l:List (ET F t)}{j:Nat}
  (hk:mm id=some (.NQ t l j)):Rule P o vals mm c K (Zc T mm c K ty id sz i off v t l j):=by
 subst hv;unfold Zc;split
 ·exact af
 ·rename_i ti hti
  have key:∀{w:World}{a:Act}{b q:Nat}{cur:List Value} {e:TypeId} {vs:List Value},a.eval X = .pointer (some ⟨b,q,none⟩)→w.heap[b]? = some (.cells ⟨cur⟩ e (0,0))→(a.eval Y).cells.toList=vs→vs.length=ti.size→
    (∀v∈vs,v.oneCell'=true)→q+vs.length≤cur.length→(execOp a.eval o).run P w = .ok .skip (w.setRow b ⟨cur.take q++vs++cur.drop (q+vs.length)⟩):=by
   intro w a b q cur e vs e1 hb e2 hl h1 hle;have hsz:=cv hT hti w
   have hs:=run_storeCells_at (P:=P) b q e vs 0 ⟨cur⟩ w hb (by simpa using hle) h1
   simp only[U9]at hs
   have hsize:(a.eval Y).cells.size=ti.size:=by rw[← WA,e2,hl]
   simp only[execOp,ho,e1,Instr.storeAt,Instr.sureAddr,OB,PL,OO,storeVar,hsz,hsize,ne_eq,not_true_eq_false,if_false,e2,hs]
  split
  ·exact af
  ·rename_i ds os hst;refine aA (λhc=>?_) (λ_=>af);simp only[Ng,decide_eq_true_eq,beq_iff_eq,R6]at hc;obtain⟨⟨⟨⟨h1,h2⟩,h3⟩,h4⟩,h5⟩:=hc;have h3:=Va h3;subst h2
   cases hcb:Nat.beq i j with
   | false=>exact af
   | true=>
   simp only[cond_true];have hij:=Q_ hcb;subst hij;refine aE λx hx=>?_;refine aA (λhfl=>?_) (λ_=>af);split
   ·rename_i y hy;intro r hr;refine⟨_,hr,?_⟩;intro own g w a m u hle hm Wj hall hfr hrep;rw[ho]at hrep;simp only[Op.operands,Nr,Oj]at hrep;obtain⟨hxr,hyr⟩:=M5 hrep;obtain⟨b,cn,hi,e1⟩:=jz hxr;obtain⟨cap,n⟩:=cn;obtain⟨hdl,hol⟩:=pL hst;have hlt:i<l.length:=(Lb.1 hx).1
    obtain⟨r1,r2,r3⟩:=m7 hyr (qj hst) (by omega)
    have hf:g.ids c=none:=Wj c (hfr 0 (by simp))
    obtain⟨pl,k1,hO⟩:=hm.ok id _ (hle _ _ hk);rw[hi]at k1;cases k1;have hB:=hle _ _ hk;have hO':=hO;obtain⟨q1,q2,q3,q4,q5,cur,e,q6,q7,q8⟩:=hO'
    have hbig:i*LV F t+off+ds.length≤cur.length:=by
     have h8:(i+1)*LV F t≤cap*LV F t:=Ro _ (by omega)
     rw[TM]at h8;omega
    have hrun:=key (vs:=(a.eval Y).cells.toList) e1 q6 rfl (by rw[r1,← hdl,h1]) r3 (by rw[r1,← hdl];exact hbig)
    rw[r1,← hdl]at hrun
    have akV:∀q d0,(LZ F t x)[q]? = some d0→(q<off∨off+ds.length≤q)→d0.flat=true:=by
     intro q d0 hq hout;refine Tg.1 hfl d0 ?_;rcases hout with hout | hout
     ·exact QcW _ (Wx (i:=q) (by rw[RF,if_pos hout];exact hq))
     ·exact QcS _ (Wx (i:=q - (off+ds.length)) (by rw[Tc];rw[← hq];congr 1;omega))
    have hsz1:(i+1)*LV F t=i*LV F t+LV F t:=TM _ _;obtain⟨g',s1,s2,s3⟩:=CS (c:=c) (C:=Vn w g.Lj (LV F t) i) (C':=λw'=>Vn w' g.Lj (LV F t) (i+1)) (B':=.NQ t (l.set i y) (i+1)) hm hle hall (p:=i*LV F t+off) rfl hB rfl hi hO hx hst h5 h3 hy (rP hy) r1 r2 q6 hf
     (λg'' w' k1 k2 k3=>⟨_,k1,by rw[k2];exact k3⟩) rfl (λw' k d z pl k1 k2 p1 p2 k3=>⟨λ_=>k3.Pd (λ_ h=>h) k1 k2,λhno=>absurd (by omega) hno⟩) (λw' k d0 d z pl k1 k2 k3 k4 k5 k6=>by
      by_cases hk1:k<i*LV F t
      ·have h9:=k6.1 hk1
       refine⟨λ_=>?_,λhno=>absurd (by omega) hno⟩
       rw[vW k5 h9];exact h9.Pd (λ_ h=>h) k1 k2
      ·have h9:=k6.2 hk1;refine⟨λhlt2=>?_,λ_=>⟨h9.1,(h9.2.mono (λ_ h=>h) k1).X8 k5⟩⟩
       obtain⟨d1,hq⟩:∃d1,(LZ F t x)[k - i*LV F t]? = some d1:=⟨_,La (by rw[bC];omega)⟩
       have hcg:=a_ hx hq
       rw[show i*LV F t+(k - i*LV F t)=k by omega,k4]at hcg
       have hfd:=akV _ _ hq (by omega)
       rw[← Option.some.inj hcg]at hfd
       have hd:d=d0:=by
        cases k5 with
        | refl=>rfl
        | nl=>simp[TH.flat]at hfd
       subst hd;obtain⟨rfl,hrI⟩:=h9
       cases d with
       | sl=>simp[TH.flat]at hfd
       | nl=>simp[TH.flat]at hfd
       | _=>exact⟨rfl,rfl,hrI.mono (λ_ h=>h) k1⟩)
    intro next Q hn;unfold Oper.wp;rw[hrun]
    exact hn undef _ g' (.c .any) s1 s2 (λid' hu hr=>by
     have hr:id'<c∨c+1≤id':=hr
     rw[s3 id' (by omega)]
     exact Wj id' hu)
   ·exact af
theorem qS:∀{cs:List (ND F)} {k0:Nat} {j:Nat} {q:Nat} {B:Mi F},(cw F k0 cs)[j]? = some (q,B)→∃k t l,q=k0+k∧cs[k]? = some (.sl t l)∧B = .row t l
 | [],k0,j,q,B,h=>by simp[cw]at h
 | d::r,k0,j,q,B,h=>by
  have rest:∀{j:Nat},(cw F (k0+1) r)[j]? = some (q,B)→∃k t l,q=k0+k∧(d::r)[k]? = some (.sl t l)∧B = .row t l:=by
   intro j h;obtain⟨k,t,l,h1,h2,h3⟩:=qS h
   exact⟨k+1,t,l,by omega,by simpa using h2,h3⟩
  cases d with
  | sl t l=>
   simp only[cw]at h
   cases j with
   | zero=>
    simp only[Rh,NI,Prod.mk.injEq]at h
    exact⟨0,t,l,by omega,rfl,h.2.symm⟩
   | succ j=>exact rest (by simpa using h)
  | _=>exact rest h
theorem wW:∀{cs:List (ND F)} {k0:Nat},∀q∈(cw F k0 cs).map (·.1),k0≤q∧q<k0+cs.length:=by intro cs k0 q hq;obtain⟨p,hp,rfl⟩:=RA.1 hq;obtain⟨j,hj⟩:=Ye hp;obtain⟨k,t,l,h1,h2,_⟩:=qS (q:=p.1) (B:=p.2) hj;have:=(Lb.1 h2).1;omega
theorem qi:∀{cs:List (ND F)} {k0:Nat},((cw F k0 cs).map (·.1)).Nodup
 | [],k0=>by simp[cw]
 | d::r,k0=>by
  cases d with
  | sl t l=>
   simp only[cw,Nr,Un]
   exact⟨λh=>by have:=wW _ h;omega,qi (cs:=r)⟩
  | _=>exact qi (cs:=r) (k0:=k0+1)
theorem sJ:∀{cs:List (ND F)} {k0 c k:Nat} {y:MK F},(takeC F c cs)[k]? = some y→
  (∃t l j,cs[k]? = some (.sl t l)∧y = .Nl (c+j)∧(cw F k0 cs)[j]? = some (k0+k,.row t l))∨(∃d,cs[k]? = some d∧(∀t l,d≠.sl t l)∧y = .im d)
 | [],k0,c,k,y,h=>by simp[takeC]at h
 | d::r,k0,c,k,y,h=>by
  cases d with
  | sl t l=>
   simp only[takeC]at h
   cases k with
   | zero=>
    simp only[Rh,NI]at h
    exact .inl ⟨t,l,0,rfl,h.symm,by simp[cw]⟩
   | succ k=>
    rcases sJ (k0:=k0+1) (cs:=r) (by simpa using h)with⟨t',l',j,h1,h2,h3⟩ | ⟨d,h1,h2,h3⟩
    ·exact .inl ⟨t',l',j+1,by simpa using h1,by rw[h2];congr 1;omega,by simp only[cw,QdK];rw[h3];congr 2;omega⟩
    ·exact .inr ⟨d,by simpa using h1,h2,h3⟩
  | _=>
   simp only[takeC]at h
   cases k with
   | zero=>
    simp only[Rh,NI]at h
    exact .inr ⟨_,rfl,by simp,h.symm⟩
   | succ k=>
    rcases sJ (k0:=k0+1) (cs:=r) (by simpa using h)with⟨t',l',j,h1,h2,h3⟩ | ⟨d,h1,h2,h3⟩
    ·exact .inl ⟨t',l',j,by simpa using h1,h2,by simp only[cw];rw[h3];congr 2;omega⟩
    ·exact .inr ⟨d,by simpa using h1,h2,h3⟩
theorem Hm{w:World}{Lj:Nat→Prop}{g2:G}{id:Nat}{t:Ty}{l:List (ET F t)}{pl:Option (Nat×Nat×Nat)}{v:Value}(hi:g2.ids id=some (Nv pl))(hO:dD w Lj t l (Nv pl))(hv:Oo (Nv pl) v):Mj (F:=F) g2 w (.Nl id) v:=by
 cases pl with
 | none=>obtain⟨p,rfl⟩:=hv;exact .PN p hi
 | some q=>obtain⟨b2,cap2,n2⟩:=q;simp only[Nv,Oo]at hv;subst hv;obtain⟨r1,r2,r3,_⟩:=hO;cases r1;exact .Nl hi r2 r3
theorem Bv(hT:Mf P T){ty:TypeId}{X:Operand}(ho:o.op = .load ty X){id sz i off:Nat}(hv:vals = [.c (.OX id sz i off)]){t:Ty}{l:List (ET F t)}(hrow:mm id=some (.Nb t l)):Rule P o vals mm c K (z5 T c K ty id sz i off t l):=by
 subst hv;unfold z5
 have key:∀{w:World}{a:Act}{b q:Nat}{v:Value},a.eval X = .pointer (some ⟨b,q,none⟩)→(loadVar ty ⟨b,q,none⟩).run P w = .ok v w→(execOp a.eval o).run P w = .ok (.value v) w:=by intro w a b q v e hr;simp[execOp,ho,e,Instr.loadAt,Instr.sureAddr,hr]
 split
 ·exact af
 ·rename_i ti hti;refine aA (λhc=>?_) (λ_=>af);simp only[Ng,beq_iff_eq]at hc;obtain⟨rfl,hag⟩:=hc;refine aE λx hx=>?_;refine aA (λhfl=>?_) (λ_=>?_)
  ·refine ou λd hd=>?_;intro own g w a m hle hm hr;rw[ho]at hr;obtain⟨b,cn,hi,e⟩:=jz (Ny hr);obtain⟨_,_,_,hcell⟩:=ky hm (hle _ _ hrow) (c:=cn.1) (n:=cn.2) hi
   obtain⟨v,hrun,hrep⟩:=eC (P:=P) (g:=g) (w:=w) hT hti hd (b:=b) (q:=i*LV F t) (by
    intro k c hk;rw[Rf]at hk;obtain⟨d',hd',rfl⟩:=Wp.1 hk;obtain⟨y,pl,k1,k2,k3⟩:=hcell _ _ (a_ hx hd');refine⟨y,k1,?_⟩
    cases hf:d'.flat with
    | true=>
     cases d' with
     | sl=>simp[TH.flat]at hf
     | _=>exact .im k3.2.2
    | false=>
     refine .one ?_
     cases d' with
     | sl t2 l2=>
      have hv:=k3.2
      cases pl with
      | none=>obtain⟨p,rfl⟩:=hv;rfl
      | some q=>simp only[Nv,Oo]at hv;subst hv;rfl
     | _=>exact k3.2.2.oneCell)
   exact⟨v,key e hrun,hrep⟩
  ·refine aA (λhok=>?_) (λ_=>af);split
   ·rename_i d hd;intro r hr;refine⟨_,hr,?_⟩;intro own g w a m u hle hm Wj hall hfr hrep;rw[ho]at hrep;obtain⟨b,cn,hi,e⟩:=jz (Ny hrep);obtain⟨cap,n⟩:=cn;obtain⟨sl,hsl⟩:∃sl,sl=cw F 0 (LZ F t x):=⟨_,rfl⟩
    have acj:(sl.map (·.1)).length=sl.length:=by simp
    have hfree:∀j,j<(sl.map (·.1)).length+1→g.ids (c+j)=none:=λj hj=>Wj _ (hfr j (by simp only[← hsl];rw[acj]at hj;omega))
    obtain⟨g2,b',cap',n',k1,k2,k3,k4,k5,k6,k7,k8,k9,k10⟩:=yM (c:=c) (ks:=sl.map (·.1)) (rs:=sl.map (·.2)) hm hall (hle _ _ hrow) hx (by rw[hsl];exact qi) (by simp) (λj B hj=>by
     rw[Rf]at hj;obtain⟨p,hp,rfl⟩:=Wp.1 hj;rw[hsl]at hp;obtain⟨k,t2,l2,h1,h2,h3⟩:=qS (q:=p.1) (B:=p.2) hp;rw[OY]at h1;subst h1
     exact⟨p.1,t2,l2,by rw[Rf,hsl,hp];rfl,h3,h2⟩) (λq hq=>by
      have:=wW (cs:=LZ F t x) (k0:=0) q (by rw[← hsl];exact hq)
      rw[bC]at this;omega) hfree
    rw[hi]at k6;cases k6;obtain⟨_,_,_,hcell⟩:=ky hm (hle _ _ hrow) (c:=cap) (n:=n) hi
    obtain⟨v,hrun,hrv⟩:=eC (P:=P) (g:=g2) (w:=w) hT hti hd (b:=b) (q:=i*LV F t) (by
     intro k cc hk;rcases sJ (k0:=0) hk with⟨t2,l2,j,h1,h2,h3⟩ | ⟨d',h1,h2,h3⟩
     ·obtain⟨y,pl,q1,q2,q3⟩:=hcell _ _ (a_ hx h1);refine⟨y,q1,?_⟩;subst h2
      have hname:=k8 j k (by rw[Rf,hsl,h3];simp)
      have q2:n.2[i*LV F t+k]? = some pl:=q2;rw[q2,Wz]at hname;exact Hm hname q3.1 q3.2
     ·obtain⟨y,pl,q1,q2,q3⟩:=hcell _ _ (a_ hx h1);refine⟨y,q1,?_⟩;subst h3;refine .im ?_
      cases d' with
      | sl t2 l2=>exact absurd rfl (h2 t2 l2)
      | _=>exact(q3.2.2:Md w g.Lj _ y).mono (λb h=>by rw[k3];exact h) (λ_ _=>rfl))
    intro next Q hn;unfold Oper.wp;rw[key e hrun]
    have hmw:Ms m (Rp id c t l i (sl.map (·.1)) (sl.map (·.2)))=Ms m (Rp id c t l i ((cw F 0 (LZ F t x)).map (·.1)) ((cw F 0 (LZ F t x)).map (·.2))):=by rw[hsl]
    refine hn v w g2 hrv (hmw▸k2) ⟨k1,rfl,rfl,rfl,MO _,λ_ _ _=>rfl,MO _⟩ ?_;intro y hu hy;have hy:y<c∨c+(1+(cw F 0 (LZ F t x)).length)≤y:=hy;rw[← hsl]at hy
    rw[k5 y (by rw[acj];omega)]
    exact Wj y hu
   ·exact af
theorem V9(hT:Mf P T){ty:TypeId}{X:Operand}(ho:o.op = .load ty X){id sz i off:Nat}(hv:vals = [.c (.OX id sz i off)]){t:Ty}{l:List (ET F t)}{j:Nat}(hrow:mm id=some (.NQ t l j)):Rule P o vals mm c K (AF T K ty sz i off t l j):=by
 subst hv;unfold AF
 have key:∀{w:World}{a:Act}{b q:Nat}{v:Value},a.eval X = .pointer (some ⟨b,q,none⟩)→(loadVar ty ⟨b,q,none⟩).run P w = .ok v w→(execOp a.eval o).run P w = .ok (.value v) w:=by intro w a b q v e hr;simp[execOp,ho,e,Instr.loadAt,Instr.sureAddr,hr]
 split
 ·exact af
 ·rename_i ti hti;refine aA (λhc=>?_) (λ_=>af);simp only[beq_iff_eq]at hc;subst hc
  cases hji:Nat.ble j i with
  | false=>exact af
  | true=>
  simp only[cond_true];have hji:=Va hji;refine aE λx hx=>ou λd hd=>?_;intro own g w a m hle hm hr;rw[ho]at hr;obtain⟨b,cn,hi,e⟩:=jz (Ny hr);obtain⟨pl,k1,k2⟩:=hm.ok id _ (hle _ _ hrow);rw[hi]at k1;cases k1;obtain⟨cap,n⟩:=cn;obtain⟨q1,q2,q3,q4,q5,cur,e0,q6,q7,q8⟩:=k2;have hlt:i<l.length:=(Lb.1 hx).1
  obtain⟨v,hrun,hrep⟩:=eC (P:=P) (g:=g) (w:=w) hT hti hd (b:=b) (q:=i*LV F t) (by
   intro k c hk;obtain⟨d',hd',rfl⟩:=kO hk;have hc:=a_ hx hd'
   have hks:k<LV F t:=by rw[← bC F t x];exact(Lb.1 hd').1
   have h1:i*LV F t+k<(cells F t l).length:=(Lb.1 hc).1
   have h2:(cells F t l).length≤cur.length:=by rw[q7,iU];exact Ro _ q2
   have hC:=q8 _ _ _ _ hc (La (by omega:i*LV F t+k<cur.length)) (La (by omega:i*LV F t+k<n.2.length))
   refine⟨cur[i*LV F t+k],?_,.im (hC.2 ?_).2⟩
   ·simp[World.cell?,q6]
   ·have:j*LV F t≤i*LV F t:=Ro _ hji;omega)
  exact⟨v,key e hrun,hrep⟩
theorem yI(hT:Mf P T)(hΓ : MN P Γ):Rule P o vals mm c K (aax T Γ vals mm c K o.op):=by
 unfold aax;split
 ·exact DA hT hΓ rfl
 ·rename_i ho;split
  ·rename_i hrow;exact Ui hT ho rfl (.inl ⟨hrow,rfl⟩)
  ·rename_i hrow;exact Ui hT ho rfl (.inr hrow)
  ·rename_i hrow;exact WY hT ho rfl hrow
  ·exact pB hT hΓ
 ·rename_i ho;split
  ·rename_i hrow;split
   ·rename_i ti hti;exact aA (λ_=>Bv hT ho rfl hrow) (λ_=>pB hT hΓ)
   ·exact af
  ·rename_i hrow;exact V9 hT ho rfl hrow
  ·exact pB hT hΓ
 ·rename_i id kk n ho;split
  ·rename_i adK;split
   ·rename_i e _ _ _ _ _ ht;split
    ·rename_i te hte;refine aE λi hi=>av ?_;intro own g w a m hle hm hr;rw[ho]at hr;simp only[Op.operands,Nr,Oj]at hr;obtain⟨h1,h2⟩:=M5 hr;obtain⟨h3,h4,rfl⟩:=o0 hi;have hS:=hm.ok _ _ (hle _ _ adK);rcases bE (bj h1)with⟨hid,p,ev⟩ | ⟨b,c',len,hid,h5,h6,ev⟩
     ·rcases hS with⟨_,_,_,_,k1,_⟩ | ⟨_,_,k3⟩
      ·rw[hid]at k1;cases k1
      ·omega
     ·rcases hS with⟨_,_,_,_,k1,_,_,k4⟩ | ⟨k1,_⟩
      ·rw[hid]at k1;cases k1
       refine⟨.pointer (some ⟨b,0+n.toNat*te.size,none⟩),?_,by rw[OY];exact .c (.OX (off:=0) hid)⟩
       have hu:=run_underlying (hT.und _ _ ht) w;have hs:=cv hT hte w;have e2:=cJ h2
       have h7:0≤n∧n<len.1:=⟨h3,by omega⟩
       simp only[execOp,ho,ev,e2,OB,Instr.indexAt,asIntOf,hu,OO,PL,h7,and_self,if_true,hs,Addr.add_lit]
      ·rw[hid]at k1;cases k1
    ·exact af
   ·exact af
  ·exact pB hT hΓ
 ·exact pB hT hΓ
theorem FO(hT:Mf P T)(hΓ : MN P Γ):Rule P o vals mm c K (ac_ T Γ vals mm c K o.op):=by
 unfold ac_;split
 ·exact yI hT hΓ
 ·exact Ii (yI hT hΓ)
end
set_option linter.unusedVariables false
set_option linter.unusedSimpArgs false
section
variable{F:Fam}
def TS.st(s:TS F):St F:=⟨look s.E,look s.M,λid=>Nat.blt id s.c⟩
structure TR(F:Fam) where
 o:Oper
 s:St F
 c:Nat
 val:Dat F
 mw:List (Nat×Option (Mi F))
 nu:Nat
 run:Bool
 X_:Nat
def St.upd(s:St F)(t:TR F):St F:=⟨λx=>if t.o.dst=some x then some t.val else s.e x,Ms s.m t.mw,λid=>(decide (t.c≤id)&&decide (id<t.c+t.nu))||s.u id⟩
def TR.next(t:TR F):St F:=t.s.upd t
section
variable(P:Program)(n:Nat)(ops:List Oper)
def Grd(o:Oper)(s:St F):Prop:=
 ∃j want d,o.guard=some (j,want)∧RU ops j=some d∧s.e d=some (.c (.im (.b want)))
def Skp(o:Oper)(s:St F):Prop:=
 ∃j want d,o.guard=some (j,want)∧RU ops j=some d∧(s.e d=some (.c (.im (.b (!want))))∨s.e d=some (.Pt []))
def TR.gs(t:TR F):List Nat:=match t.o.guard with | some (j,_)=>(RU ops j).toList | none=>[]
def TR.vals(t:TR F):List (Dat F):=t.o.op.operands.toList.map (opd t.s.e)
def TR.rs(t:TR F):List Nat:=if t.run then t.gs ops++qQ t.o.op.operands.toList else t.gs ops
def TR.tm(t:TR F):List Nat:=if t.run then CQ t.s.m t.o.op t.vals else[]
def TR.rc(t:TR F):Rec:=⟨t.rs ops,t.o.dst,t.tm,t.mw.map (·.1),t.X_⟩
structure TR.ok(t:TR F):Prop where
 dst:∀d,t.o.dst=some d→d<n
 fresh:∀k,k<t.nu→t.s.u (t.c+k)=false
 ran:t.run=true→Does P t.o t.vals (Xj t.s.m t.tm) t.c { val:=t.val,mw:=t.mw,nu:=t.nu }∧(t.o.guard=none∨Grd ops t.o t.s)
 skipped:t.run=false→t.val = .Pt []∧t.mw = []∧t.nu=0∧Skp ops t.o t.s
def Chain:St F→List (TR F)→St F→Prop
 | s,[],s'=>s'=s
 | s,t::l,s'=>t.s=s∧Chain t.next l s'
def wE:List Rec→List (TR F)→Prop
 | _,[]=>True
 | rs,t::l=>t.X_=P9 rs (MX t.o.after.toList)∧wE (rs++[t.rc ops]) l
end
theorem ay{α : Type}(x y:Nat)(a:α)(l:List (Nat×α)):look ((y,a)::l) x=if Nat.beq y x then some a else look l x:=rfl
theorem re(E:List (Nat×Dat F))(dst:Option Nat)(d:Dat F)(x:Nat):look (Vf E dst d) x=if dst=some x then some d else look E x:=by
 cases dst with
 | none=>simp[Vf]
 | some y=>
  simp only[Vf,ay];by_cases h:y=x
  ·subst h;simp
  ·rw[ar h];simp[h]
theorem aJ{α : Type}(q:Nat→Bool)(x:Nat):∀(l:List (Nat×α)),look (l.filter λp=>q p.1) x=if q x then look l x else none
 | []=>by simp[look]
 | (y,a)::l=>by
  by_cases hq:q y=true
  ·rw[QfK (by simpa using hq),ay,ay,aJ q x l]
   by_cases h:y=x
   ·subst h;simp[hq]
   ·rw[ar h];simp
  ·rw[QdW (by simpa using hq),aJ q x l,ay]
   by_cases h:y=x
   ·subst h;simp[hq]
   ·rw[ar h];simp
theorem bu{α : Type}(x:Nat):∀(l r:List (Nat×α)),look (l++r) x=(look l x).or (look r x)
 | [],r=>by simp[look]
 | (y,a)::l,r=>by
  simp only[UH,ay,bu x l r]
  split<;>simp
theorem sM:∀(mw:List (Nat×Option (Mi F))) {m m':Nat→Option (Mi F)},(∀x,m x=m' x)→∀x,Ms m mw x=Ms m' mw x
 | [],_,_,h,x=>h x
 | (id,B)::r,m,m',h,x=>by
  simp only[Ms]
  exact sM r (λy=>by rw[h y]) x
theorem jr:∀(mw:List (Nat×Option (Mi F))) (M:List (Nat×Mi F)) (x:Nat),look (R7 M mw) x=Ms (look M) mw x
 | [],M,x=>rfl
 | (id,none)::r,M,x=>by
  simp only[R7,Ms];rw[jr r];refine sM r (λy=>?_) x;rw[aJ (λp=>!(Nat.beq id p))]
  cases Nat.beq id y<;>simp
 | (id,some B)::r,M,x=>by
  simp only[R7,Ms];rw[jr r];refine sM r (λy=>?_) x;rw[ay,aJ (λp=>!(Nat.beq id p))]
  cases Nat.beq id y<;>simp
structure Fr(nv:Nat)(s s':TS F):Prop where
 e:∀x,x<nv→x∉s'.dE→look s'.E x=look s.E x
 m:∀id,id<s.c→id∉s'.dM→look s'.M id=look s.M id
 c:s.c≤s'.c
 dE:∀x∈s.dE,x∈s'.dE
 dM:∀x∈s.dM,x∈s'.dM
theorem Fr.refl(nv:Nat)(s:TS F):Fr nv s s:=⟨λ_ _ _=>rfl,λ_ _ _=>rfl,MO _,λ_ h=>h,λ_ h=>h⟩
theorem Fr.trans{nv:Nat}{s s' s'':TS F}(h:Fr nv s s')(k:Fr nv s' s''):Fr nv s s'':=
 ⟨λx hx hn=>(k.e x hx hn).trans (h.e x hx (λhd=>hn (k.dE x hd))),λid hi hn=>(k.m id (UK hi h.c) hn).trans (h.m id hi (λhd=>hn (k.dM id hd))),
  P6 h.c k.c,λx hx=>k.dE x (h.dE x hx),λx hx=>k.dM x (h.dM x hx)⟩
section
variable{P:Program}{T:TypeId→Option (TI F)}{Γ : Ctx F}{nv n:Nat}{ops:List Oper}{R:Type}
def ua(P:Program)(nv n:Nat)(ops:List Oper)(o:Oper)(s:TS F)(recs:List Rec)(K:TS F→List Rec→Option R)(r:R):Prop:=
 ∃s' t,K s' (recs++[t.rc ops])=some r∧t.o=o∧t.s=s.st∧t.next=s'.st∧TR.ok P n ops t∧t.X_=P9 recs (MX o.after.toList)∧Fr nv s s'
theorem CO{o:Oper}(h:(match o.dst with | some d=>Nat.blt d n | none=>true)=true):∀d,o.dst=some d→d<n:=by intro d hd;rw[hd]at h;exact R6.mp h
theorem yS{dE:List Nat}{dst:Option Nat}{x:Nat}(hx:x<nv)(h:x∉dirty nv dE dst):dst≠some x∧x∉dE:=by
 cases dst with
 | none=>exact⟨by simp,h⟩
 | some y=>
  simp only[dirty]at h;split at h
  ·simp only[NH,not_or]at h
   exact⟨λe=>by cases e;exact h.1 rfl,h.2⟩
  ·rename_i hb;refine⟨λe=>?_,h⟩;cases e;exact hb (R6.mpr hx)
theorem yU{dE:List Nat}{dst:Option Nat}{x:Nat}(h:x∈dE):x∈dirty nv dE dst:=by
 cases dst with
 | none=>exact h
 | some y=>
  simp only[dirty];split
  ·simp[h]
  ·exact h
theorem C5{s s':St F}(h1:∀x,s.e x=s'.e x)(h2:∀x,s.m x=s'.m x)(h3:∀x,s.u x=s'.u x):s=s':=by
 cases s;cases s'
 simp only[St.mk.injEq];exact⟨funext h1,funext h2,funext h3⟩
theorem cg(a b:Nat):Nat.blt a b=decide (a<b):=by rw[Yb];simp[R6]
theorem aQ{p:Prop}[Decidable p]{x:Option R}{r:R}(h:(if p then x else none)=some r):p∧x=some r:=by
 split at h
 ·exact⟨by assumption,h⟩
 ·cases h
theorem vD{o:Oper}{gs:List Nat}{s:TS F}{recs:List Rec}{K:TS F→List Rec→Option R}{r:R}(h:VN nv n o gs s recs K=some r)
  (hgs:gs=(match o.guard with | some (j,_)=>(RU ops j).toList | none=>[])) (hsk:Skp ops o s.st):ua P nv n ops o s recs K r:=by
 unfold VN at h;obtain⟨hd,h⟩:=aQ h
 ·refine⟨⟨Vf s.E o.dst (.Pt []),s.M,s.c,dirty nv s.dE o.dst,s.dM⟩,⟨o,s.st,s.c,.Pt [],[],0,false,P9 recs (MX o.after.toList)⟩,?_,rfl,rfl,?_,⟨CO (n:=n) (o:=o) hd,λk hk=>absurd hk (Nat.not_lt_zero k),λhr=>(by cases hr),λ_=>⟨rfl,rfl,rfl,hsk⟩⟩,rfl,?_⟩
  ·rw[hgs]at h;exact h
  ·refine C5 (λx=>?_) (λx=>rfl) (λx=>?_)
   ·simp only[TR.next,St.upd,TS.st];rw[re]
   ·simp only[TR.next,St.upd,TS.st,U9];by_cases hx:s.c≤x
    ·have:¬ x<s.c:=by omega
     simp[this,cg]
    ·simp[hx]
  ·refine⟨λx hx hn=>?_,λ_ _ _=>rfl,MO _,λx hx=>yU hx,λ_ hx=>hx⟩;show look (Vf s.E o.dst (.Pt [])) x=_;rw[re,if_neg (yS hx hn).1]
theorem AM(hT:Mf P T)(hΓ : MN P Γ){o:Oper}{gs:List Nat}{s:TS F}{recs:List Rec}{K:TS F→List Rec→Option R}{r:R}(h:tGo T Γ nv n o gs s recs K=some r)
  (hgs:gs=(match o.guard with | some (j,_)=>(RU ops j).toList | none=>[])) (hgr:o.guard=none∨Grd ops o s.st):ua P nv n ops o s recs K r:=by
 unfold tGo at h;obtain⟨res,h1,h2⟩:=FO hT hΓ r h;obtain⟨hd,h1⟩:=aQ h1
 ·refine⟨⟨Vf s.E o.dst res.val,R7 s.M res.mw,s.c+res.nu,dirty nv s.dE o.dst,res.mw.map (·.1)++s.dM⟩,⟨o,s.st,s.c,res.val,res.mw,res.nu,true,P9 recs (MX o.after.toList)⟩,?_,rfl,rfl,?_,⟨CO (n:=n) (o:=o) hd,λk hk=>?_,λ_=>⟨h2,hgr⟩,λhr=>(by cases hr)⟩,rfl,?_⟩
  ·rw[hgs]at h1;exact h1
  ·refine C5 (λx=>?_) (λx=>?_) (λx=>?_)
   ·simp only[TR.next,St.upd,TS.st];rw[re]
   ·simp only[TR.next,St.upd,TS.st];rw[jr]
   ·simp only[TR.next,St.upd,TS.st,cg];rw[Yb];simp only[UG,Ng,decide_eq_true_eq];omega
  ·simp only[TS.st,cg];simp
  ·refine⟨λx hx hn=>?_,λid hi hn=>?_,Nat.le_add_right _ _,λx hx=>yU hx,λ_ hx=>QcS _ hx⟩
   ·show look (Vf s.E o.dst res.val) x=_;rw[re,if_neg (yS hx hn).1]
   ·show look (R7 s.M res.mw) id=_;rw[jr,d8];intro hm;exact hn (QcW _ hm)
theorem KF{s:TS F}{d:Nat}{v:Dat F}(h:look s.E d=some v):(⟨(d,v)::s.E,s.M,s.c,s.dE,s.dM⟩:TS F).st=s.st:=by
 refine C5 (λx=>?_) (λx=>rfl) (λx=>rfl);simp only[TS.st,ay];by_cases hx:d=x
 ·subst hx;simp[h]
 ·rw[ar hx];simp
theorem E3{s:TS F}{d:Nat}{v:Dat F}(hv:look s.E d=some v){o:Oper}{recs:List Rec}{K:TS F→List Rec→Option R}{r:R}(h:ua P nv n ops o ⟨(d,v)::s.E,s.M,s.c,s.dE,s.dM⟩ recs K r):ua P nv n ops o s recs K r:=by
 obtain⟨s',t,h1,h2,h3,h4,h5,h6,h7⟩:=h;rw[KF hv]at h3;refine⟨s',t,h1,h2,h3,h4,h5,h6,⟨λx hx hn=>?_,h7.m,h7.c,h7.dE,h7.dM⟩⟩;rw[h7.e x hx hn,ay];by_cases hdx:d=x
 ·subst hdx;simp[hv]
 ·rw[ar hdx];simp
theorem IK(hT:Mf P T)(hΓ : MN P Γ){o:Oper}{s:TS F}{recs:List Rec}{K:TS F→List Rec→Option R}{r:R}(h:Zd T Γ nv n ops o s recs K=some r):ua P nv n ops o s recs K r:=by
 unfold Zd at h;split at h
 ·rename_i hg
  exact AM hT hΓ h (by rw[hg]) (.inl hg)
 ·rename_i j want hg;split at h
  ·cases h
  ·rename_i d hd
   have hgs:[d]=(match o.guard with | some (j,_)=>(RU ops j).toList | none=>[]):=by rw[hg];simp[hd]
   split at h
   ·rename_i x hx
    have hx':∀b,x=b→look s.E d=some (.c (.im (.b b))):=λb e=>by rw[hx,e]
    have self:∀b,(⟨(d,.c (.im (.b b)))::s.E,s.M,s.c,s.dE,s.dM⟩:TS F).st.e d=some (.c (.im (.b b))):=λb=>by simp[TS.st,ay]
    cases x with
    | true=>
     refine E3 (hx' true rfl) ?_;simp only[cond_true]at h;split at h
     ·rename_i hw
      exact AM hT hΓ h hgs (.inr ⟨j,want,d,hg,hd,by rw[hw];exact self true⟩)
     ·rename_i hw
      exact vD h hgs ⟨j,want,d,hg,hd,.inl (by rw[Bool.not_eq_true]at hw;rw[hw];exact self true)⟩
    | false=>
     refine E3 (hx' false rfl) ?_;simp only[cond_false]at h;split at h
     ·rename_i hw
      exact vD h hgs ⟨j,want,d,hg,hd,.inl (by rw[hw];exact self false)⟩
     ·rename_i hw
      exact AM hT hΓ h hgs (.inr ⟨j,want,d,hg,hd,by rw[Bool.not_eq_true]at hw;rw[hw];exact self false⟩)
   ·rename_i hx;exact vD h hgs ⟨j,want,d,hg,hd,.inr hx⟩
   ·cases h
theorem qC(hT:Mf P T)(hΓ : MN P Γ):∀{l:List Oper}{s:TS F}{recs:List Rec}{K:TS F→List Rec→Option R} {r:R},WH T Γ nv n ops l s recs K=some r→
  ∃s' tr,K s' (recs++tr.map (·.rc ops))=some r∧tr.map (·.o)=l∧Chain s.st tr s'.st∧(∀t∈tr,TR.ok P n ops t)∧wE ops recs tr∧Fr nv s s'
 | [],s,recs,K,r,h=>⟨s,[],by simpa[WH]using h,rfl,rfl,by simp,trivial,.refl _ _⟩
 | o::l,s,recs,K,r,h=>by
  simp only[WH]at h;obtain⟨s1,t,h1,h2,h3,h4,h5,h6,h7⟩:=IK hT hΓ h;obtain⟨s',tr,k1,k2,k3,k4,k5,k6⟩:=qC hT hΓ h1
  refine⟨s',t::tr,by simpa using k1,by simp[h2,k2],⟨h3,by rw[h4];exact k3⟩,?_,⟨by rw[h2];exact h6,k5⟩,h7.trans k6⟩
  intro x hx;rcases NH.1 hx with rfl | hx
  ·exact h5
  ·exact k4 x hx
end
section
variable{P:Program}{n:Nat}{ops:List Oper}{own:Ow}{W0:World}
theorem w_{x:Nat}:∀{l:List Operand},Operand.tmp x∈l→x∈qQ l
 | [],h=>by simp at h
 | y::l,h=>by
  rcases NH.1 h with rfl | h
  ·simp[qQ]
  ·have:=w_ h
   cases y<;>simp[qQ,this]
theorem Bt{s:St F}{g g':G}{a:Act}{w w':World}{t:TR F}{v:Value}(h:Good P own W0 n s g a w)(hd:∀d,t.o.dst=some d→d<n)(hv:Me P g' w' t.val v)
  (hm:LQ own g' w' (Ms s.m t.mw)) (hst:Stp s.m g w g' w') (hu:∀id,s.u id=false→(id<t.c∨t.c+t.nu≤id)→g'.ids id=none):Good P own W0 n (s.upd t) g' (a.put t.o.dst v) w':=by
 have htm:(a.put t.o.dst v).tmps.size=n:=by
  rw[← h.Tq]
  cases t.o.dst<;>simp[Act.put]
 have hdf:(a.put t.o.dst v).defers = []:=by
  rw[← h.Uk]
  cases t.o.dst<;>rfl
 refine⟨hdf,htm,?_,hm,?_,λb hb=>hst.le.Lj b (h.TD b hb),h.NT.stp h.mem hst,λid p hp=>hst.le.ids id p (h.Sn id p hp)⟩
 ·intro x d hx;simp only[St.upd]at hx;split at hx
  ·rename_i hdst;cases hx;have hlt:=hd x hdst;rw[hdst];simp only[Act.put];rw[UM,QcN]
   rw[if_pos rfl,if_pos (by rw[h.Tq];exact hlt)]
   exact hv
  ·rename_i hdst;have:=(h.env x d hx).le hst.le
   cases hdd:t.o.dst with
   | none=>exact this
   | some y=>
    have hne:y≠x:=λe=>hdst (by rw[hdd,e])
    simp only[Act.put];rw[UM,QcN,if_neg hne,← UM];exact this
 ·intro id hid;simp only[St.upd,YT,QeT,decide_eq_false_iff_not]at hid
  exact hu id hid.2 (by omega)
theorem FC{ML:Array Oper}(hops:ML.toList=ops){s:St F}{g:G}{a:Act}{w:World}(h:Good P own W0 n s g a w){j d:Nat}{b:Bool}(hd:RU ops j=some d)(he:s.e d=some (.c (.im (.b b)))) :
  yielded ML a.tmps j=some b:=by
 have hv:=qw (h.env d _ he)
 have hj:(ML[j]?).bind (·.dst)=some d:=by rw[← hd];simp only[RU,← hops];simp
 have ht:a.tmps[d]? = some (.bool b):=by
  rw[UM]at hv
  cases hx:a.tmps[d]? with
  | none=>rw[hx]at hv;simp[undef]at hv
  | some x=>rw[hx]at hv;simp only[Wz]at hv;rw[hv]
 simp only[yielded,hj,K_,ht]
theorem Kh{ML:Array Oper}(hops:ML.toList=ops){s:St F}{g:G}{a:Act}{w:World}(h:Good P own W0 n s g a w){j d:Nat}(hd:RU ops j=some d)(he:s.e d=some (.Pt [])) :
  yielded ML a.tmps j=none:=by
 obtain⟨vs,hv,hl,_⟩:=Cz (h.env d _ he)
 have hj:(ML[j]?).bind (·.dst)=some d:=by rw[← hd];simp only[RU,← hops];simp
 simp only[yielded,hj,K_];rw[UM]at hv
 cases hx:a.tmps[d]? with
 | none=>rfl
 | some x=>rw[hx]at hv;simp only[Wz]at hv;rw[hv]
theorem xN{t:TR F}(ok:TR.ok P n ops t){s:St F}(hge:∀x∈t.rs ops,s.e x=t.s.e x)(hgm:∀id,id∈t.tm→s.m id=t.s.m id)
  (hfr:∀k,k<t.nu→s.u (t.c+k)=false) {g:G} {a:Act} {w:World} (hgood:Good P own W0 n s g a w) {ML:Array Oper} (hops:ML.toList=ops) {i:Nat} (hi:ML[i]? = some t.o)
  {K:Act→World→Prop} {Q:Exit→Act→World→Prop} (hK:∀g' a' w',Good P own W0 n (s.upd t) g' a' w'→K a' w'):wpOp P ML Q i K a w:=by
 unfold wpOp;rw[hi];dsimp only
 cases hrun:t.run with
 | false=>
  obtain⟨h1,h2,h3,j,want,d,hgd,hdd,hlk⟩:=ok.skipped hrun
  have hmem:d∈t.rs ops:=by simp[TR.rs,hrun,TR.gs,hgd,hdd]
  have hw:Region.wanted t.o (yielded ML a.tmps)=false:=by
   rcases hlk with hlk | hlk
   ·have he:s.e d=some (.c (.im (.b (!want)))):=by rw[hge d hmem,hlk]
    have hy:=FC hops hgood hdd he;simp only[Region.wanted,hgd,hy]
    cases want<;>rfl
   ·have he:s.e d=some (.Pt []):=by rw[hge d hmem,hlk]
    have hy:=Kh hops hgood hdd he;simp only[Region.wanted,hgd,hy];rfl
  rw[hw];simp only[R3,if_false]
  refine hK g _ w (Bt hgood ok.dst (by rw[h1];exact .Pt rfl (by simp)) (by rw[h2];exact hgood.mem) (.refl _ _ _) ?_)
  intro id hu _;exact hgood.dom id hu
 | true=>
  obtain⟨h1,h6⟩:=ok.ran hrun
  have hw:Region.wanted t.o (yielded ML a.tmps)=true:=by
   rcases h6 with h6 | ⟨j,want,d,hgd,hdd,hlk⟩
   ·simp[Region.wanted,h6]
   ·have hmem:d∈t.rs ops:=by simp[TR.rs,hrun,TR.gs,hgd,hdd]
    have he:s.e d=some (.c (.im (.b want))):=by rw[hge d hmem,hlk]
    have hy:=FC hops hgood hdd he;simp[Region.wanted,hgd,hy]
  rw[hw,if_pos rfl];left
  have hv:t.vals=t.o.op.operands.toList.map (opd s.e):=by
   unfold TR.vals;apply QdG;intro x hx
   cases x with
   | tmp y=>simp only[opd];rw[hge y (by simp[TR.rs,hrun,w_ hx])]
   | _=>rfl
  have hle:P7 (Xj t.s.m t.tm) s.m:=by
   intro id B hB;unfold Xj at hB;split at hB
   ·rename_i hm;rw[hgm id (aN.1 hm)];exact hB
   ·cases hB
  refine h1 own g w a s.m s.u hle hgood.mem hgood.dom (λb hb=>hgood.NT.fresh b (P6 hgood.NT.size hb)) hfr (by rw[hv];exact Gt hgood.env _) K Q ?_
  intro v w' g' k1 k2 k3 k4;exact hK g' _ w' (Bt hgood ok.dst k1 k2 k3 k4)
theorem qg{ML:Array Oper}(hops:ML.toList=ops){Q:Exit→Act→World→Prop}:∀(tr:List (TR F)) (k:Nat) (s s':St F),(∀j,tr[j]?.map (·.o)=ML[k+j]?)→Chain s tr s'→(∀t∈tr,TR.ok P n ops t)→
  ∀{g:G}{a:Act}{w:World},Good P own W0 n s g a w→(∀g' a' w',Good P own W0 n s' g' a' w'→Q .normal a' w')→wpOps P ML Q (List.range' k tr.length) a w
 | [],k,s,s',_,hc,_,g,a,w,hgood,hQ=>by have hc':s'=s:=hc;subst hc';exact hQ g a w hgood
 | t::tr,k,s,s',ho,hc,hok,g,a,w,hgood,hQ=>by
  obtain⟨hts,hc⟩:=hc;simp only[P5,List.range'_succ];rw[wpOps_cons]
  have hi:ML[k]? = some t.o:=by have:=ho 0;simpa using this.symm
  refine xN (hok t (by simp)) (s:=s) ?_ ?_ ?_ hgood hops hi ?_
  ·intro x _;rw[hts]
  ·intro id _;rw[hts]
  ·intro j hj
   have:=(hok t (by simp)).fresh j hj
   rw[hts]at this;exact this
  ·intro g' a' w' hg'
   refine qg hops tr (k+1) t.next s' ?_ hc (λx hx=>hok x (by simp[hx])) (by unfold TR.next;rw[hts];exact hg') hQ
   intro j;have:=ho (j+1);simpa[UF,QfB 1 j]using this
end
end
set_option linter.unusedVariables false
set_option linter.unusedSimpArgs false
section
variable{F:Fam}
def TR.nm(t:TR F)(x:Nat):Bool:=decide (t.c≤x)&&decide (x<t.c+t.nu)
theorem zH{t:TR F}(h:∀k,k<t.nu→t.s.u (t.c+k)=false){x:Nat}(hx:t.nm x=true):t.s.u x=false:=by
 simp only[TR.nm,Ng,decide_eq_true_eq]at hx
 have:=h (x - t.c) (by omega)
 rwa [QeL hx.1]at this
def MW(on:Nat→Bool):Nat→List (TR F)→(St F)→(St F)
 | _,[],s=>s
 | k,t::l,s=>MW on (k+1) l (if on k then s.upd t else s)
theorem vf:∀(mw:List (Nat×Option (Mi F))) (m m':Nat→Option (Mi F)) (x:Nat),x∈mw.map (·.1)→Ms m mw x=Ms m' mw x
 | [],m,m',x,h=>by simp at h
 | (id,B)::r,m,m',x,h=>by
  simp only[Ms];by_cases hr:x∈r.map (·.1)
  ·exact vf r _ _ x hr
  ·rw[d8 r _ x hr,d8 r _ x hr];simp only[Nr,NH]at h;rcases h with rfl | h
   ·simp
   ·exact absurd h hr
theorem u6(on on':Nat→Bool)(x:Nat):∀(l:List (TR F)) (k:Nat) (s s':(St F)),s.e x=s'.e x→(∀j t,l[j]? = some t→t.o.dst=some x→on (k+j)=on' (k+j))→(MW on k l s).e x=(MW on' k l s').e x
 | [],k,s,s',h,_=>h
 | t::l,k,s,s',h,hw=>by
  simp only[MW]
  refine u6 on on' x l (k+1) _ _ ?_ (λj t' hj hd=>by have:=hw (j+1) t' (by simpa using hj) hd;simpa[UF,QfB 1 j]using this)
  by_cases hd:t.o.dst=some x
  ·have:=hw 0 t rfl hd;simp only[U9]at this;rw[this];split
   ·simp[St.upd,hd]
   ·exact h
  ·have e1:∀s:(St F),(s.upd t).e x=s.e x:=λs=>by simp[St.upd,hd]
   split<;>split<;>simp only[e1,h]
theorem uO(on on':Nat→Bool)(x:Nat):∀(l:List (TR F)) (k:Nat) (s s':(St F)),s.m x=s'.m x→(∀j t,l[j]? = some t→x∈t.mw.map (·.1)→on (k+j)=on' (k+j))→(MW on k l s).m x=(MW on' k l s').m x
 | [],k,s,s',h,_=>h
 | t::l,k,s,s',h,hw=>by
  simp only[MW]
  refine uO on on' x l (k+1) _ _ ?_ (λj t' hj hd=>by have:=hw (j+1) t' (by simpa using hj) hd;simpa[UF,QfB 1 j]using this)
  by_cases hd:x∈t.mw.map (·.1)
  ·have:=hw 0 t rfl hd;simp only[U9]at this;rw[this];split
   ·exact vf _ _ _ x hd
   ·exact h
  ·have e1:∀s:(St F),(s.upd t).m x=s.m x:=λs=>d8 _ _ x hd
   split<;>split<;>simp only[e1,h]
theorem Aw(on:Nat→Bool)(x:Nat)(l:List (TR F))(k:Nat)(s:(St F))(h:∀j t,l[j]? = some t→t.o.dst=some x→on (k+j)=false):(MW on k l s).e x=s.e x:=by
 have:∀(l:List (TR F)) (k:Nat) (s:(St F)),(MW (λ_=>false) k l s)=s:=by
  intro l
  induction l with
  | nil=>intro k s;rfl
  | cons t l ih=>intro k s;simp only[MW];exact ih (k+1) s
 rw[u6 on (λ_=>false) x l k s s rfl h,this]
theorem At(on:Nat→Bool)(x:Nat)(l:List (TR F))(k:Nat)(s:(St F))(h:∀j t,l[j]? = some t→x∈t.mw.map (·.1)→on (k+j)=false):(MW on k l s).m x=s.m x:=by
 have:∀(l:List (TR F)) (k:Nat) (s:(St F)),(MW (λ_=>false) k l s)=s:=by
  intro l
  induction l with
  | nil=>intro k s;rfl
  | cons t l ih=>intro k s;simp only[MW];exact ih (k+1) s
 rw[uO on (λ_=>false) x l k s s rfl h,this]
theorem po(on:Nat→Bool)(x:Nat):∀(l:List (TR F)) (k:Nat) (s:(St F)),(MW on k l s).u x=true↔s.u x=true∨∃j t,l[j]? = some t∧on (k+j)=true∧t.nm x=true
 | [],k,s=>by simp[MW]
 | t::l,k,s=>by
  simp only[MW];rw[po on x l (k+1)];constructor
  ·rintro(h | ⟨j,t',h1,h2,h3⟩)
   ·split at h
    ·rename_i hk;simp only[St.upd,UG]at h;rcases h with h | h
     ·exact .inr ⟨0,t,rfl,by simpa using hk,h⟩
     ·exact .inl h
    ·exact .inl h
   ·exact .inr ⟨j+1,t',by simpa using h1,by rw[← h2];congr 1;omega,h3⟩
  ·rintro(h | ⟨j,t',h1,h2,h3⟩)
   ·left;split
    ·simp[St.upd,h]
    ·exact h
   ·cases j with
    | zero=>
     left;simp only[Rh,NI]at h1;subst h1
     rw[if_pos (by simpa using h2)]
     simp[St.upd,TR.nm]at h3 ⊢;simp[h3]
    | succ j=>exact .inr ⟨j,t',by simpa using h1,by rw[← h2];congr 1;omega,h3⟩
theorem D1(on:Nat→Bool)(i:Nat):∀(l:List (TR F)) (k:Nat) (s:(St F)) (t:TR F),l[i]? = some t→on (k+i)=false→
  (∀j t',l[j]? = some t'→i<j→on (k+j)=true→(∀x,t.o.dst=some x→t'.o.dst≠some x)∧(∀x,x∈t.mw.map (·.1)→x∉t'.mw.map (·.1)))→
  MW (λj=>on j||j == k+i) k l s=(MW on k l s).upd t:=by
 intro l k s t hi hoff Xt
 have hon:∀j,j≠i→(λj=>on j||j == k+i) (k+j)=on (k+j):=by
  intro j hj
  have:(k+j == k+i)=false:=by simp;exact hj
  simp[this]
 have e1:∀x,(MW (λj=>on j||j == k+i) k l s).e x=((MW on k l s).upd t).e x:=by
  intro x;by_cases hd:t.o.dst=some x
  ·
   have key:∀(l:List (TR F)) (k i:Nat) (s:(St F)) (on:Nat→Bool),l[i]? = some t→on (k+i)=true→(∀j t',l[j]? = some t'→i<j→on (k+j)=true→t'.o.dst≠some x)→(MW on k l s).e x=some t.val:=by
    intro l
    induction l with
    | nil=>intro k i s on h;simp at h
    | cons t0 l ih=>
     intro k i s on h1 h2 h3
     cases i with
     | zero=>
      simp only[Rh,NI]at h1;subst h1;simp only[MW]
      rw[if_pos (by simpa using h2),Aw]
      ·simp[St.upd,hd]
      ·intro j t' hj hdd
       cases hon:on (k+1+j)with
       | false=>rfl
       | true=>exact absurd hdd (h3 (j+1) t' (by simpa using hj) (by omega) (by rw[← hon];congr 1;omega))
     | succ i=>
      simp only[MW]
      exact ih (k+1) i _ on (by simpa using h1) (by rw[← h2];congr 1;omega) (λj t' hj hij ho=>h3 (j+1) t' (by simpa using hj) (by omega) (by rw[← ho];congr 1;omega))
   rw[key l k i s _ hi (by simp) (λj t' hj hij ho=>(Xt j t' hj hij (by rw[← hon j (by omega)];exact ho)).1 x hd)]
   simp[St.upd,hd]
  ·rw[u6 _ on x l k s s rfl]
   ·simp[St.upd,hd]
   ·intro j t' hj hdd;refine hon j (λe=>hd ?_);subst e;rw[hi]at hj;cases hj;exact hdd
 have e2:∀x,(MW (λj=>on j||j == k+i) k l s).m x=((MW on k l s).upd t).m x:=by
  intro x;by_cases hd:x∈t.mw.map (·.1)
  ·have key:∀(l:List (TR F)) (k i:Nat) (s:(St F)) (on:Nat→Bool),l[i]? = some t→on (k+i)=true→(∀j t',l[j]? = some t'→i<j→on (k+j)=true→x∉t'.mw.map (·.1))→(MW on k l s).m x=Ms (λ_=>none) t.mw x:=by
    intro l
    induction l with
    | nil=>intro k i s on h;simp at h
    | cons t0 l ih=>
     intro k i s on h1 h2 h3
     cases i with
     | zero=>
      simp only[Rh,NI]at h1;subst h1;simp only[MW]
      rw[if_pos (by simpa using h2),At]
      ·exact vf _ _ _ x hd
      ·intro j t' hj hdd
       cases hon:on (k+1+j)with
       | false=>rfl
       | true=>exact absurd hdd (h3 (j+1) t' (by simpa using hj) (by omega) (by rw[← hon];congr 1;omega))
     | succ i=>
      simp only[MW]
      exact ih (k+1) i _ on (by simpa using h1) (by rw[← h2];congr 1;omega) (λj t' hj hij ho=>h3 (j+1) t' (by simpa using hj) (by omega) (by rw[← ho];congr 1;omega))
   rw[key l k i s _ hi (by simp) (λj t' hj hij ho=>(Xt j t' hj hij (by rw[← hon j (by omega)];exact ho)).2 x hd)]
   exact vf _ _ _ x hd
  ·rw[uO _ on x l k s s rfl]
   ·exact(d8 _ _ x hd).symm
   ·intro j t' hj hdd;refine hon j (λe=>hd ?_);subst e;rw[hi]at hj;cases hj;exact hdd
 have e3:∀x,(MW (λj=>on j||j == k+i) k l s).u x=((MW on k l s).upd t).u x:=by
  intro x;rw[Yb,po];simp only[St.upd,UG];rw[po];constructor
  ·rintro(h | ⟨j,t',h1,h2,h3⟩)
   ·exact .inr (.inl h)
   ·by_cases hj:j=i
    ·subst hj;rw[hi]at h1;cases h1;exact .inl h3
    ·have h2':on (k+j)=true:=by
      rw[← hon j hj];simpa using h2
     exact .inr (.inr ⟨j,t',h1,h2',h3⟩)
  ·rintro(h | h | ⟨j,t',h1,h2,h3⟩)
   ·exact .inr ⟨i,t,hi,by simp,h⟩
   ·exact .inl h
   ·exact .inr ⟨j,t',h1,by simp[h2],h3⟩
 cases hA:MW (λj=>on j||j == k+i) k l s
 cases hB:(MW on k l s).upd t
 rw[hA,hB]at e1 e2 e3;simp only[St.mk.injEq];exact⟨funext e1,funext e2,funext e3⟩
theorem rB:∀(l:List (TR F)) (k:Nat) (s s':St F) (on:Nat→Bool),Chain s l s'→(∀j,j<l.length→on (k+j)=true)→MW on k l s=s'
 | [],k,s,s',on,h,_=>by have h':s'=s:=h;subst h';rfl
 | t::l,k,s,s',on,h,ho=>by
  obtain⟨h1,h2⟩:=h;simp only[MW]
  rw[if_pos (by simpa using ho 0 (by simp)),← h1]
  exact rB l (k+1) t.next s' on h2 (λj hj=>by have:=ho (j+1) (by simp;omega);rw[← this];congr 1;omega)
theorem wc:∀(l:List (TR F)) (k:Nat) (s s':St F) (i:Nat) (t:TR F),Chain s l s'→l[i]? = some t→t.s=MW (λj=>decide (j<k+i)) k l s
 | [],k,s,s',i,t,_,hi=>by simp at hi
 | t0::l,k,s,s',i,t,h,hi=>by
  obtain⟨h1,h2⟩:=h
  cases i with
  | zero=>
   simp only[Rh,NI]at hi;subst hi
   have:∀(l:List (TR F)) (k':Nat) (s:(St F)),k≤k'→(MW (λj=>decide (j<k+0)) k' l s)=s:=by
    intro l
    induction l with
    | nil=>intro k' s _;rfl
    | cons t l ih=>intro k' s hk;simp only[MW];rw[if_neg (by simp;omega)];exact ih (k'+1) s (by omega)
   rw[this _ k _ (MO _),h1]
  | succ i=>
   simp only[MW]
   rw[if_pos (by simp),← h1]
   have:=wc l (k+1) t0.next s' i t h2 (by simpa using hi)
   rw[this]
   congr 1
   funext j
   congr 1
   apply propext
   constructor<;>intro h<;>omega
variable{P:Program}{n:Nat}{ops:List Oper}{own:Ow}{W0:World}
def NJ(listed:Array Bool):Nat→Bool:=λk=>listed.getD k false
theorem B4{l:List Edge}{e:Edge}(h:e∈l)(hb:Region.binds .any e=true):e.on∈MX l:=by
 induction l with
 | nil=>simp at h
 | cons x l ih=>
  simp only[MX];rcases NH.1 h with rfl | h
  ·rw[if_pos hb];simp
  ·split
   ·exact U_ _ (ih h)
   ·exact ih h
theorem BE{l:List Edge}{k:Nat}(h:k∈MX l):∃e∈l,Region.binds .any e=true∧e.on=k:=by
 induction l with
 | nil=>simp[MX]at h
 | cons x l ih=>
  simp only[MX]at h;split at h
  ·rename_i hb;rcases NH.1 h with rfl | h
   ·exact⟨x,by simp,hb,rfl⟩
   ·obtain⟨e,h1,h2⟩:=ih h
    exact⟨e,by simp[h1],h2⟩
  ·obtain⟨e,h1,h2⟩:=ih h
   exact⟨e,by simp[h1],h2⟩
theorem FB(on:Nat→Bool)(tr:List (TR F))(hrec:∀i t,tr[i]? = some t→t.X_=P9 ((tr.map (·.rc ops)).take i) (MX t.o.after.toList))
  (akX:∀i t,tr[i]? = some t→∀k∈MX t.o.after.toList,k<i) (hclosed:∀i t,tr[i]? = some t→on i=true→∀k∈MX t.o.after.toList,on k=true) :
  ∀(i:Nat)(t:TR F),tr[i]? = some t→(∀k∈MX t.o.after.toList,on k=true)→∀k,Nat.testBit t.X_ k=true→on k=true:=by
 intro i
 induction i using Nat.strongRecOn with
 | _ i ih=>
  intro t hi hon k hk;rw[hrec i t hi]at hk;have apq:=akX i t hi
  have key:∀(es:List Nat),(∀k∈es,k<i∧on k=true)→∀k,Nat.testBit (P9 ((tr.map (·.rc ops)).take i) es) k=true→on k=true:=by
   intro es
   induction es with
   | nil=>intro _ k hk;simp[P9]at hk
   | cons d es ihe=>
    intro hes k hk
    rw[P9,show∀a b:Nat,Nat.lor a b=a ||| b fromλ_ _=>rfl,show∀a b:Nat,Nat.lor a b=a ||| b fromλ_ _=>rfl,Nat.testBit_or,Nat.testBit_or,Nat.testBit_two_pow]at hk
    simp only[UG,decide_eq_true_eq,or_assoc]at hk
    obtain⟨hd1,hd2⟩:=hes d (by simp)
    rcases hk with rfl | hk | hk
    ·exact hd2
    ·rw[RF,if_pos hd1,Rf]at hk
     cases ht:tr[d]? with
     | none=>rw[ht]at hk;simp at hk
     | some td=>rw[ht]at hk;simp only[Ya,Option.elim_some]at hk;exact ih d hd1 td ht (hclosed d td ht hd2) k hk
    ·exact ihe (λk hk=>hes k (by simp[hk])) k hk
  exact key _ (λk hk=>⟨apq k hk,hon k hk⟩) k hk
theorem tV{b:Rec}:∀{l:List Rec}{i:Nat},rX b i l=true→∀j a,l[j]? = some a→Nat.testBit b.X_ (i+j)=true∨a.conflict b=false
 | [],_,_,j,a,h=>by simp at h
 | x::l,i,ho,j,a,h=>by
  simp only[rX,Ng,UG,UJ]at ho
  cases j with
  | zero=>simp only[Rh,NI]at h;subst h;exact ho.1
  | succ j=>
   have:=tV ho.2 j a (by simpa using h)
   rw[show i+(j+1)=i+1+j by omega]
   exact this
theorem vo(all:List Rec):∀{l:List Rec}{k:Nat},all.drop k=l→k≤all.length→tv all l=true→∀j b,l[j]? = some b→rX b 0 (all.take (k+j))=true
 | [],_,_,_,_,j,b,h=>by simp at h
 | x::l,k,hd,hk,ho,j,b,h=>by
  simp only[tv,Ng]at ho
  have hlen:all.length=k+(x::l).length:=by have:=congrArg List.length hd;rw[Rn]at this;omega
  cases j with
  | zero=>
   simp only[Rh,NI]at h;subst h;have h1:=ho.1
   rw[show all.length - (x::l).length=k+0 by omega]at h1
   exact h1
  | succ j=>
   have hd':all.drop (k+1)=l:=by rw[← QfY,hd];rfl
   have:=vo all hd' (by simp at hlen;omega) ho.2 j b (by simpa using h)
   rw[show k+(j+1)=k+1+j by omega]
   exact this
theorem uC:∀{l:List Oper}{i:Nat},r9 i l=true→∀j o,l[j]? = some o→∀k∈MX o.after.toList,k<i+j
 | [],_,_,j,o,h=>by simp at h
 | x::l,i,he,j,o,h=>by
  simp only[r9,Ng]at he
  cases j with
  | zero=>simp only[Rh,NI]at h;subst h;intro k hk;have:=Tg.1 he.1 k hk;simpa using this
  | succ j=>
   have:=uC he.2 j o (by simpa using h)
   intro k hk;have:=this k hk;omega
theorem yN:∀{tr:List (TR F)} {rs:List Rec},wE ops rs tr→∀i t,tr[i]? = some t→t.X_=P9 (rs++(tr.map (·.rc ops)).take i) (MX t.o.after.toList)
 | [],_,_,i,t,h=>by simp at h
 | x::tr,rs,hr,i,t,h=>by
  obtain⟨h1,h2⟩:=hr
  cases i with
  | zero=>simp only[Rh,NI]at h;subst h;simpa using h1
  | succ i=>
   have:=yN h2 i t (by simpa using h)
   rw[this]
   congr 1
   simp
theorem tP{a b:List Nat}(h:meets a b=false){x:Nat}(ha:x∈a):x∉b:=by
 induction a with
 | nil=>simp at ha
 | cons y a ih=>
  simp only[meets,YT]at h;rcases NH.1 ha with rfl | ha
  ·intro hb;rw[aN.2 hb]at h;cases h.1
  ·exact ih h.2 ha
theorem nQ{a b:Rec}(h:a.conflict b=false):(∀x,a.d=some x→x∉b.rs∧b.d≠some x)∧(∀x,b.d=some x→x∉a.rs)∧(∀x,x∈a.wm→x∉b.tm∧x∉b.wm)∧(∀x,x∈b.wm→x∉a.tm):=by
 simp only[Rec.conflict,YT]at h;obtain⟨⟨⟨⟨h1,h2⟩,h3⟩,h4⟩,h5⟩:=h;refine⟨?_,?_,λx hx=>⟨tP h3 hx,tP h4 hx⟩,λx hx=>tP h5 hx⟩
 ·intro x hx;rw[hx]at h1;simp only[YT]at h1;refine⟨λhb=>?_,λhb=>?_⟩
  ·rw[aN.2 hb]at h1;cases h1.1
  ·rw[hb]at h1;simp at h1
 ·intro x hx ha;rw[hx]at h2;simp only at h2;rw[aN.2 ha]at h2;cases h2
theorem wq{ML:Array Oper}(hops:ML.toList=ops){Q:Exit→Act→World→Prop}{tr:List (TR F)}{s s':St F}(htr:tr.map (·.o)=ops)(hc:Chain s tr s')(hok:∀t∈tr,TR.ok P n ops t)
  (hrec:wE ops [] tr) (adV:r9 0 ops=true) (Uy:tv (tr.map (·.rc ops)) (tr.map (·.rc ops))=true) {g:G} {a:Act} {w:World} (hgood:Good P own W0 n s g a w)
  (hQ:∀g' a' w',Good P own W0 n s' g' a' w'→Q .normal a' w'):wpAny P .any ML Q ML.size (Array.replicate ML.size false) a w:=by
 have hsize:ML.size=tr.length:=by rw[← WA,hops,← htr,PI]
 have hat:∀(i:Nat)(t:TR F),tr[i]? = some t→ML[i]? = some t.o:=by
  intro i t hi
  have:ops[i]? = some t.o:=by rw[← htr,Rf,hi];rfl
  rw[← hops]at this;simpa using this
 have acn:∀(i:Nat)(t:TR F),tr[i]? = some t→t.X_=P9 ((tr.map (·.rc ops)).take i) (MX t.o.after.toList):=by intro i t hi;simpa using yN hrec i t hi
 have WU:∀(i:Nat)(t:TR F),tr[i]? = some t→∀k∈MX t.o.after.toList,k<i:=by
  intro i t hi k hk
  have:ops[i]? = some t.o:=by rw[← htr,Rf,hi];rfl
  have:=uC adV i t.o this k hk;omega
 have acv:∀(i j:Nat)(t u:TR F),tr[i]? = some t→tr[j]? = some u→j<i→Nat.testBit t.X_ j=true∨(u.rc ops).conflict (t.rc ops)=false:=by
  intro i j t u hi hj hji
  have h1:=vo (tr.map (·.rc ops)) (l:=tr.map (·.rc ops)) (k:=0) rfl (QeQ _) Uy i (t.rc ops) (by rw[Rf,hi];rfl)
  have:=tV h1 j (u.rc ops) (by rw[OY,RF,if_pos hji,Rf,hj];rfl)
  rwa [OY]at this
 have main:∀(fuel:Nat)(listed:Array Bool),listed.size=tr.length→(List.range tr.length).countP (λk=>!NJ listed k)≤fuel→
   (∀(i:Nat)(t:TR F),tr[i]? = some t→NJ listed i=true→∀k∈MX t.o.after.toList,NJ listed k=true)→
   ∀{g:G}{a:Act}{w:World},Good P own W0 n (MW (NJ listed) 0 tr s) g a w→wpAny P .any ML Q fuel listed a w:=by
  intro fuel
  induction fuel with
  | zero=>
   intro listed hls hcnt hcl g a w hg
   have hall:∀k,k<tr.length→NJ listed k=true:=by
    intro k hk
    cases hon:NJ listed k with
    | true=>rfl
    | false=>
     have:0<(List.range tr.length).countP (λk=>!NJ listed k):=List.countP_pos_iff.2 ⟨k,by simpa using hk,by simp[hon]⟩
     omega
   refine⟨?_,?_⟩
   ·cases hr:Region.ready .any ML listed with
    | nil=>rfl
    | cons i l=>
     have hi:i∈Region.ready .any ML listed:=by rw[hr];simp
     obtain⟨h1,o,ho,_⟩:=mem_ready.1 hi
     have hlt:i<tr.length:=by rw[← hsize];exact(Ws.1 ho).1
     have h2:=hall i hlt;simp only[NJ,UM]at h1 h2
     rw[QeF (by rw[hls];exact hlt)]at h1 h2
     simp only[Wz]at h1 h2;rw[h1]at h2;cases h2
   ·rw[rB tr 0 s s' (NJ listed) hc (λj hj=>by rw[OY];exact hall j hj)]at hg
    exact hQ g a w hg
  | succ fuel ih=>
   intro listed hls hcnt hcl g a w hg;refine⟨?_,?_⟩
   ·intro hr
    have hall:∀k,k<tr.length→NJ listed k=true:=by
     intro k
     induction k using Nat.strongRecOn with
     | _ k ihk=>
      intro hk
      cases hon:NJ listed k with
      | true=>rfl
      | false=>
       exfalso;have hk':=La hk
       have:k∈Region.ready .any ML listed:=by
        refine mem_ready.2 ⟨?_,tr[k].o,hat k _ hk',?_⟩
        ·simp only[NJ,UM]at hon ⊢
         rw[QeF (by rw[hls];exact hk)]at hon ⊢
         exact hon
        ·intro e he hb
         have hmem:e.on∈MX tr[k].o.after.toList:=B4 (by simpa using he) hb
         have hlt:=WU k _ hk' e.on hmem
         exact ihk e.on hlt (by omega)
       rw[hr]at this;simp at this
    rw[rB tr 0 s s' (NJ listed) hc (λj hj=>by rw[OY];exact hall j hj)]at hg
    exact hQ g a w hg
   ·intro i hi;obtain⟨h1,o,ho,akY⟩:=mem_ready.1 hi
    have hlt:i<tr.length:=by rw[← hsize];exact(Ws.1 ho).1
    have hti:=La hlt;generalize htdef:tr[i]=t at hti;have Z7:ML[i]? = some t.o:=hat i t hti;rw[ho]at Z7;cases Z7
    have hoff:NJ listed i=false:=by
     simp only[NJ,UM]at h1 ⊢
     rw[QeF (by rw[hls];exact hlt)]at h1 ⊢
     exact h1
    have afY:∀k∈MX t.o.after.toList,NJ listed k=true:=by
     intro k hk;obtain⟨e,he,hb,rfl⟩:=BE hk
     exact akY e (by simpa using he) hb
    have apy:=FB (ops:=ops) (NJ listed) tr acn WU hcl i t hti afY;have adX:∀(j:Nat)(u:TR F),tr[j]? = some u→NJ listed j=true→∀k,Nat.testBit u.X_ k=true→NJ listed k=true:=λj u hj hon=>FB (ops:=ops) (NJ listed) tr acn WU hcl j u hj (hcl j u hj hon)
    have ahead:∀(j:Nat)(u:TR F),tr[j]? = some u→j<i→(u.rc ops).conflict (t.rc ops)=true→NJ listed j=true:=by
     intro j u hj hji hcf;rcases acv i j t u hti hj hji with h | h
     ·exact apy j h
     ·rw[hcf]at h;cases h
    have behind:∀(j:Nat)(u:TR F),tr[j]? = some u→i<j→(t.rc ops).conflict (u.rc ops)=true→NJ listed j=false:=by
     intro j u hj hij hcf
     cases hon:NJ listed j with
     | false=>rfl
     | true=>
      rcases acv j i u t hj hti hij with h | h
      ·have:=adX j u hj hon i h;rw[hoff]at this;cases this
      ·rw[hcf]at h;cases h
    have okt:=hok t (Wx hti);have hst:=wc tr 0 s s' i t hc hti;simp only[OY]at hst
    have agree:∀(j:Nat)(u:TR F),tr[j]? = some u→((u.rc ops).conflict (t.rc ops)=true∨(t.rc ops).conflict (u.rc ops)=true)→j≠i→NJ listed j=decide (j<i):=by
     intro j u hj hcf hne
     have symm:∀a b:Rec,a.conflict b=true→b.conflict a=true:=by
      intro a b h
      cases hba:b.conflict a with
      | true=>rfl
      | false=>
       obtain⟨k1,k2,k3,k4⟩:=nQ hba;exfalso
       have:a.conflict b=false:=by
        simp only[Rec.conflict,YT]
        have mt:∀l r:List Nat,(∀x∈l,x∉r)→meets l r=false:=by
         intro l
         induction l with
         | nil=>intro r _;rfl
         | cons y l ihl=>
          intro r hr;simp only[meets,YT]
          refine⟨?_,ihl r (λx hx=>hr x (by simp[hx]))⟩
          cases hm:Mh y r with
          | false=>rfl
          | true=>exact absurd (aN.1 hm) (hr y (by simp))
        have nm:∀x (l:List Nat),x∉l→Mh x l=false:=by
         intro x l hx
         cases hm:Mh x l with
         | false=>rfl
         | true=>exact absurd (aN.1 hm) hx
        refine⟨⟨⟨⟨?_,?_⟩,mt _ _ (λx hx=>?_)⟩,mt _ _ (λx hx=>?_)⟩,mt _ _ (λx hx=>?_)⟩
        ·cases hd:a.d with
         | none=>rfl
         | some x=>
          simp only[YT];refine⟨nm x _ (k2 x hd),?_⟩
          cases hd2:b.d with
          | none=>rfl
          | some y=>
           have:=(k1 y hd2).2;rw[hd]at this
           exact ar (λe=>this (by rw[e]))
        ·cases hd:b.d with
         | none=>rfl
         | some x=>exact nm x _ (k1 x hd).1
        ·exact k4 x hx
        ·intro hb;exact(k3 x hb).2 hx
        ·exact(k3 x hx).1
       rw[this]at h;cases h
     rcases Nat.lt_trichotomy j i with hji | hji | hji
     ·rw[decide_eq_true hji];exact ahead j u hj hji (hcf.elim id (symm _ _))
     ·exact absurd hji hne
     ·rw[decide_eq_false (by omega)]
      exact behind j u hj hji (hcf.elim (symm _ _) id)
    refine xN okt (s:=MW (NJ listed) 0 tr s) ?_ ?_ ?_ hg hops (hat i t hti) ?_
    ·
     intro x hx;show _=t.s.e x;rw[hst];refine u6 _ _ x tr 0 _ _ rfl ?_;intro j u hj hdst;rw[OY];by_cases hne:j=i
     ·subst hne
      rw[hoff,decide_eq_false (by omega)]
     ·refine agree j u hj (.inl ?_) hne
      cases hcf:(u.rc ops).conflict (t.rc ops)with
      | true=>rfl
      | false=>exact absurd hx ((nQ hcf).1 x hdst).1
    ·intro id hid;show _=t.s.m id;rw[hst];refine uO _ _ id tr 0 _ _ rfl ?_;intro j u hj hmem;rw[OY];by_cases hne:j=i
     ·subst hne
      rw[hoff,decide_eq_false (by omega)]
     ·refine agree j u hj (.inl ?_) hne
      cases hcf:(u.rc ops).conflict (t.rc ops)with
      | true=>rfl
      | false=>exact absurd hid ((nQ hcf).2.2.1 id hmem).1
    ·
     intro kk hkk
     have hid:t.nm (t.c+kk)=true:=by simp only[TR.nm,Ng,decide_eq_true_eq];omega
     generalize t.c+kk=id at hid ⊢
     cases hu:(MW (NJ listed) 0 tr s).u id with
     | false=>rfl
     | true=>
      exfalso;rw[po]at hu;have hfr:=zH okt.fresh hid;have WQ:t.s.u id=false:=hfr
      have hnot:¬ (t.s.u id=true):=by rw[WQ];simp
      rcases hu with h | ⟨j,u,h1,h2,h3⟩
      ·refine hnot ?_;rw[hst,po];exact .inl h
      ·rw[OY]at h2;rcases Nat.lt_trichotomy j i with hji | hji | hji
       ·refine hnot ?_;rw[hst,po]
        exact .inr ⟨j,u,h1,by simpa using hji,h3⟩
       ·subst hji;rw[hoff]at h2;cases h2
       ·have oku:=hok u (Wx h1);have hfu:u.s.u id=false:=zH oku.fresh h3
        have:u.s.u id=true:=by
         have hsu:=wc tr 0 s s' j u hc h1;simp only[OY]at hsu;rw[hsu,po]
         exact .inr ⟨i,t,hti,by simpa using hji,hid⟩
        rw[hfu]at this;cases this
    ·intro g' a' w' hg'
     have hmore:=D1 (NJ listed) i tr 0 s t hti (by rw[OY];exact hoff) (by
      intro j u hj hij hon;rw[OY]at hon
      cases hcf:(t.rc ops).conflict (u.rc ops)with
      | true=>rw[behind j u hj hij hcf]at hon;cases hon
      | false=>obtain⟨k1,_,k3,_⟩:=nQ hcf;exact⟨λx hx=>(k1 x hx).2,λx hx=>(k3 x hx).2⟩)
     rw[OY]at hmore;rw[← hmore]at hg'
     have adx:NJ (listed.setIfInBounds i true) = λj=>NJ listed j||j == i:=by
      funext j
      simp only[NJ];by_cases hj:i=j
      ·subst hj
       have:(listed.setIfInBounds i true).getD i false=true:=by
        rw[UM,QcN,if_pos rfl,if_pos (by rw[hls];exact hlt)]
        rfl
       rw[this];simp
      ·rw[getD_set_ne false hj]
       have:(j == i)=false:=by simp;exactλe=>hj e.symm
       rw[this,QgX]
     refine ih (listed.setIfInBounds i true) (by simp[hls]) ?_ ?_ (by rw[adx];exact hg')
     ·rw[adx]
      have hcount:(List.range tr.length).countP (λk=>!(NJ listed k||k == i))+1=(List.range tr.length).countP (λk=>!NJ listed k):=by
       have gen:∀(l:List Nat),l.Nodup→i∈l→l.countP (λk=>!(NJ listed k||k == i))+1=l.countP (λk=>!NJ listed k):=by
        intro l
        induction l with
        | nil=>intro _ h;simp at h
        | cons y l ihl=>
         intro hnd hmem;rw[Un]at hnd;by_cases hy:y=i
         ·subst hy
          have heq:l.countP (λk=>!(NJ listed k||k == y))=l.countP (λk=>!NJ listed k):=by
           apply List.countP_congr;intro x hx
           have:(x == y)=false:=by simp;rintro rfl;exact hnd.1 hx
           simp[this]
          rw[QgY,QgY,heq,hoff];simp
         ·have hmem':i∈l:=by
           rcases NH.1 hmem with h | h
           ·exact absurd h.symm hy
           ·exact h
          have:=ihl hnd.2 hmem';rw[QgY,QgY,← this]
          have hyi:(y == i)=false:=by simp;exact hy
          rw[hyi,QgX];omega
       exact gen _ QgZ (by simpa using hlt)
      show(List.range tr.length).countP (λk=>!(NJ listed k||k == i))≤fuel;omega
     ·rw[adx];intro j u hj hon k hk;simp only[UG,beq_iff_eq]at hon ⊢;rcases hon with hon | rfl
      ·exact .inl (hcl j u hj hon k hk)
      ·rw[hti]at hj;cases hj;exact .inl (afY k hk)
 refine main ML.size (Array.replicate ML.size false) (by simp[hsize]) ?_ ?_ (g:=g) ?_
 ·rw[hsize]
  exact P6 List.countP_le_length (by simp)
 ·intro i t hi hon;simp only[NJ]at hon;simp[UM,Array.getElem?_replicate]at hon
  split at hon<;>simp at hon
 ·have:MW (NJ (Array.replicate ML.size false)) 0 tr s=s:=by
   have gen:∀(l:List (TR F)) (k:Nat) (s:(St F)),MW (NJ (Array.replicate ML.size false)) k l s=s:=by
    intro l
    induction l with
    | nil=>intro k s;rfl
    | cons t l ihl=>
     intro k s;simp only[MW];rw[if_neg]
     ·exact ihl (k+1) s
     ·simp only[NJ,UM,Array.getElem?_replicate]
      split<;>simp
   exact gen tr 0 s
  rw[this];exact hgood
end
set_option linter.unusedVariables false
set_option linter.unusedSimpArgs false
section
variable{F:Fam}{P:Program}{T:TypeId→Option (TI F)}{Γ : Ctx F}{nv n:Nat}{R:Type}{own:Ow}{W0:World}{a:Act}{w:World}{g:G}
theorem uz{s:St F}(hg:Good P own W0 n s g a w):Good P own W0 n s g a w.drew:=by have hle:Le g w g w.drew:=⟨λ_ _ h=>h,λ_ h=>h,λ_ _=>rfl,λ_ h=>h,λ_ _=>rfl⟩;exact⟨hg.Uk,hg.Tq,λx d h=>(hg.env x d h).le hle,⟨λid B h=>(hg.mem.ok id B h).le hle (λ_ _ _=>rfl),hg.mem.S_,hg.mem.own,hg.mem.Lj,hg.mem.io,hg.mem.len⟩,hg.dom,hg.TD,⟨hg.NT.os,hg.NT.tape,hg.NT.output,hg.NT.size,hg.NT.fresh,hg.NT.block,Yd hg.NT.drawn⟩,hg.Sn⟩
theorem Good.sub{s s':St F}(h:Good P own W0 n s g a w)(he:∀x d,s'.e x=some d→s.e x=some d)(hm:∀id B,s'.m id=some B→s.m id=some B)(hu:∀id,s'.u id=false→s.u id=false):Good P own W0 n s' g a w:=
 ⟨h.Uk,h.Tq,λx d hx=>h.env x d (he x d hx),h.mem.sub hm,λid hi=>h.dom id (hu id hi),h.TD,h.NT,h.Sn⟩
theorem n8{kp:List Nat}:∀{E:List (Nat×Dat F)} {seen:List Nat} {K:List (Nat×Dat F)→Option R} {r:R},rV nv kp E seen K=some r→
  ∃E',K E'=some r∧∀y,look E' y=if(Nat.blt y nv||Mh y kp)&&!(Mh y seen)then look E y else none
 | [],seen,K,r,h=>⟨[],h,λy=>by simp[look]⟩
 | (x,d)::E,seen,K,r,h=>by
  simp only[rV]at h;split at h
  ·rename_i hc;obtain⟨E',h1,h2⟩:=n8 h;refine⟨_,h1,λy=>?_⟩;rw[ay,ay,h2];by_cases hxy:x=y
   ·subst hxy;rw[bJ,if_pos rfl,if_pos rfl,if_pos hc]
   ·rw[ar hxy];simp[Mh,ar hxy]
  ·rename_i hc;obtain⟨E',h1,h2⟩:=n8 h;refine⟨E',h1,λy=>?_⟩;rw[h2,ay];by_cases hxy:x=y
   ·subst hxy;rw[if_neg hc,if_neg hc]
   ·rw[ar hxy];simp
theorem Ky(hT:Mf P T)(hΓ : MN P Γ)(NG:P.follows .mixedOrders=true){id:Nat}{ML:Array Oper}{draw:Bool}{kp:List Nat}{s:TS F}{K:TS F→Option R}{r:R}
  (h:Tv T Γ nv n kp ML.toList draw s K=some r) {Q:Exit→Act→World→Prop} (hg:Good P own W0 n s.st g a w)
  (hQ:∀s' g' a' w',K s'=some r→Fr nv s s'→Good P own W0 n s'.st g' a' w'→Q .normal a' w'):(Code.region id ML draw).wp P Q a w:=by
 unfold Tv at h;obtain⟨z,tr,h1,t1,t2,t3,t4,t5⟩:=qC hT hΓ h;obtain⟨Uy,h1⟩:=aQ h1;obtain⟨E',h2,h3⟩:=n8 h1
 have hQ':∀g' a' w',Good P own W0 n z.st g' a' w'→Q .normal a' w':=by
  intro g' a' w' hg';refine hQ _ g' a' w' h2 ⟨λx hx hn=>?_,t5.m,t5.c,t5.dE,t5.dM⟩ (hg'.sub ?_ (λ_ _ h=>h) (λ_ h=>h))
  ·show look E' x=_
   rw[h3,if_pos (by simp[Mh,R6.mpr hx])]
   exact t5.e x hx hn
  ·intro x d hx;simp only[TS.st]at hx ⊢;rw[h3]at hx;split at hx
   ·exact hx
   ·cases hx
 cases draw with
 | false=>
  have hlen:ML.size=tr.length:=by rw[← WA,← t1,PI]
  refine wp_region ?_
  have:=qg (ML:=ML) rfl (Q:=Q) tr 0 s.st z.st (by
   intro j
   have:ML.toList[j]? = (tr.map (·.o))[j]?:=by rw[t1]
   rw[Rf]at this;rw[← this];simp) t2 t3 hg hQ'
  rw[← hlen]at this;rw[QeY];exact this
 | true=>simp only[if_true,Ng,PX]at Uy;refine wp_region_any NG ?_;exact wq (ML:=ML) rfl t1 t2 t3 t4 Uy.1 Uy.2 (uz hg) hQ'
inductive Ou(p:Nat→Prop):MK F→Prop where
 | im (d:ND F):Ou p (.im d)
 | pt (cs:List (ND F)) (off:Nat):Ou p (.pt cs off)
 | ptr {id:Nat} (off:Nat) (h:p id):Ou p (.ptr id off)
 | OX {id:Nat} (sz i off:Nat) (h:p id):Ou p (.OX id sz i off)
 | Nl {id:Nat} (h:p id):Ou p (.Nl id)
 | Rz {id:Nat} (sz off n:Nat) (h:p id):Ou p (.Rz id sz off n)
 | TB {id:Nat} (sz i off:Nat) (h:p id):Ou p (.TB id sz i off)
 | Uj {id:Nat} (sz i off sz' j off':Nat) (h:p id):Ou p (.Uj id sz i off sz' j off')
 | TF {id:Nat} (n:Nat) (h:p id):Ou p (.TF id n)
 | Sz {id:Nat} (h:p id):Ou p (.Sz id)
 | UE (cs:List (ND F)):Ou p (.UE cs)
 | ln (d:ND F):Ou p (.ln d)
 | Yz (cs:List (ND F)) (off:Nat):Ou p (.Yz cs off)
 | any:Ou p .any
 | one:Ou p .one
inductive RX(p:Nat→Prop):Dat F→Prop where
 | c {x:MK F} (h:Ou p x):RX p (.c x)
 | agg {cs:List (MK F)} (h:∀(k:Nat)(c:MK F),cs[k]? = some c→Ou p c):RX p (.agg cs)
 | Pt {ds:List (Dat F)} (h:∀(k:Nat)(d:Dat F),ds[k]? = some d→RX p d):RX p (.Pt ds)
 | RZ {fn:Fn} {fs cs:List (Dat F)} (h:∀(k:Nat)(d:Dat F),fs[k]? = some d→RX p d) (h':∀(k:Nat)(d:Dat F),cs[k]? = some d→RX p d):RX p (.RZ fn fs cs)
 | fv {ks:List Ty} {r:Ty} (φ : M7 F ks→Option (ET F r)):RX p (.fv ks r φ)
 | gh {id:Nat} (h:p id):RX p (.gh id)
theorem Mj.inn{c:MK F}{x:Value}(h:Mj g w c x):Ou (λid=>g.ids id≠none) c:=by
 cases h with
 | im=>exact .im _
 | pt=>exact .pt _ _
 | ptr h=>exact .ptr _ (by rw[h];simp)
 | OX h=>exact .OX _ _ _ (by rw[h];simp)
 | PN p h=>exact .Nl (by rw[h];simp)
 | Nl h=>exact .Nl (by rw[h];simp)
 | Tx p h=>exact .Rz _ _ _ (by rw[h];simp)
 | Rz h=>exact .Rz _ _ _ (by rw[h];simp)
 | TB h=>exact .TB _ _ _ (by rw[h];simp)
 | Uj h=>exact .Uj _ _ _ _ _ _ (by rw[h];simp)
 | TF h=>exact .TF _ (by rw[h];simp)
 | Sz h=>exact .Sz (by rw[h];simp)
 | UE=>exact .UE _
 | ln=>exact .ln _
 | Yz=>exact .Yz _ _
 | any=>exact .any
 | one=>exact .one
theorem Me.inn{d:Dat F}{x:Value}(h:Me P g w d x):RX (λid=>g.ids id≠none) d:=by
 induction h with
 | c h=>exact .c h.inn
 | agg hl h=>
  refine .agg λk c hk=>?_;have hlt:=(Lb.1 hk).1
  exact(h k c _ hk (La (by rw[hl];exact hlt))).inn
 | Pt hl h ih=>
  refine .Pt λk c hk=>?_;have hlt:=(Lb.1 hk).1
  exact ih k c _ hk (La (by rw[hl];exact hlt))
 | RZ h1 h2 hf hc i1 i2=>
  refine .RZ (λk c hk=>?_) (λk c hk=>?_)
  ·have hlt:=(Lb.1 hk).1
   exact i1 k c _ hk (La (by rw[h1];exact hlt))
  ·have hlt:=(Lb.1 hk).1
   exact i2 k c _ hk (La (by rw[h2];exact hlt))
 | fv=>exact .fv _
 | gh h=>exact .gh (by rw[h];simp)
theorem Mj.ren{p:Nat→Prop}{g':G}(Ob:∀id,p id→g'.ids id=g.ids id)(MR:∀b,g.Lj b→g'.Lj b)(hlen:∀b,g.len b→g'.len b){c:MK F}(hc:Ou p c){x:Value}(h:Mj g w c x):Mj g' w c x:=by
 have hle:∀{d:ND F}{x:Value},Md w g.Lj d x→Md w g'.Lj d x:=λh=>h.mono MR (λ_ _=>rfl)
 cases h with
 | im h=>exact .im (hle h)
 | pt cs off b o f hb hcc hr=>exact .pt cs off b o f (MR b hb) hcc (λk d hk=>hle (hr k d hk))
 | ptr h=>cases hc with | ptr _ hp=>exact .ptr (by rw[Ob _ hp];exact h)
 | OX h=>cases hc with | OX _ _ _ hp=>exact .OX (by rw[Ob _ hp];exact h)
 | PN p h=>cases hc with | Nl hp=>exact .PN p (by rw[Ob _ hp];exact h)
 | Nl h h1 h2=>cases hc with | Nl hp=>exact .Nl (by rw[Ob _ hp];exact h) h1 h2
 | Tx p h=>cases hc with | Rz _ _ _ hp=>exact .Tx p (by rw[Ob _ hp];exact h)
 | Rz h h1 h2 h3 h4=>cases hc with | Rz _ _ _ hp=>exact .Rz (by rw[Ob _ hp];exact h) h1 h2 h3 h4
 | TB h h1 h2=>cases hc with | TB _ _ _ hp=>exact .TB (by rw[Ob _ hp];exact h) h1 h2
 | Uj h h1=>cases hc with | Uj _ _ _ _ _ _ hp=>exact .Uj (by rw[Ob _ hp];exact h) h1
 | TF h hm=>cases hc with | TF _ hp=>exact .TF (by rw[Ob _ hp];exact h) hm
 | Sz h=>cases hc with | Sz hp=>exact .Sz (by rw[Ob _ hp];exact h)
 | UE cs b o b2 o2 f hb hv hb2 hcc hr=>exact .UE cs b o b2 o2 f (MR b hb) hv (MR b2 hb2) hcc (λk d hk=>hle (hr k d hk))
 | ln h=>exact .ln (h.mono (λb hb=>hb.imp (MR b) (hlen b)) (λ_ _=>rfl))
 | Yz cs off b o f hb hcc hr=>exact .Yz cs off b o f (hb.imp (MR b) (hlen b)) hcc (λk d hk=>(hr k d hk).mono (λb hb=>hb.imp (MR b) (hlen b)) (λ_ _=>rfl))
 | any=>exact .any
 | one h=>exact .one h
theorem Me.ren{p:Nat→Prop}{g':G}(Ob:∀id,p id→g'.ids id=g.ids id)(MR:∀b,g.Lj b→g'.Lj b)(hlen:∀b,g.len b→g'.len b){d:Dat F}{x:Value}(h:Me P g w d x):RX p d→Me P g' w d x:=by
 induction h with
 | c h=>intro hd;cases hd with | c hc=>exact .c (h.ren Ob MR hlen hc)
 | agg hl h=>intro hd;cases hd with | agg hc=>exact .agg hl (λk c x a b=>(h k c x a b).ren Ob MR hlen (hc k c a))
 | Pt hl h ih=>intro hd;cases hd with | Pt hc=>exact .Pt hl (λk c x a b=>ih k c x a b (hc k c a))
 | RZ h1 h2 hf hc i1 i2=>intro hd;cases hd with | RZ k1 k2=>exact .RZ h1 h2 (λk c x a b=>i1 k c x a b (k1 k c a)) (λk c x a b=>i2 k c x a b (k2 k c a))
 | fv h=>intro _;obtain⟨fid,bound,captured,h1,h0,h2,h3⟩:=h;exact .fv ⟨fid,bound,captured,h1,h0,h2,λw2 adn k1 k2=>h3 w2 adn (λb hb=>k1 b (MR b hb)) k2⟩
 | gh h=>intro hd;cases hd with | gh hp=>exact .gh (by rw[Ob _ hp];exact h)
theorem M_.ren{p:Nat→Prop}{g':G}(Ob:∀id,p id→g'.ids id=g.ids id)(MR:∀b,g.Lj b→g'.Lj b)(hlen:∀b,g.len b→g'.len b){id:Nat}(hp:p id){B:Mi F}(hB:∀(cs:List (MK F)),B = .box cs→∀(k:Nat)(c:MK F),cs[k]? = some c→Ou p c)(hA:∀k n,B = .Pv k n→p k)(h:M_ g w id B):M_ g' w id B:=by
 have hle:∀{d:ND F}{x:Value},Md w g.Lj d x→Md w g'.Lj d x:=λh=>h.mono MR (λ_ _=>rfl);have hi:=Ob id hp
 cases B with
 | box cs=>
  obtain⟨b,c,arr,t,h1,h2,h3,h4⟩:=h
  exact⟨b,c,arr,t,by rw[hi];exact h1,h2,h3,λk c x a b=>(h4 k c x a b).ren Ob MR hlen (hB cs rfl k c a)⟩
 | row t l=>
  rcases h with⟨h1,h2⟩ | ⟨b,cap,cur,e,h1,h2,h3,h4,h5,h6⟩
  ·exact .inl ⟨by rw[hi];exact h1,h2⟩
  ·exact .inr ⟨b,cap,cur,e,by rw[hi];exact h1,h2,h3,h4,h5,λk d x a b=>hle (h6 k d x a b)⟩
 | Nb t l=>
  obtain⟨pl,h1,h2⟩:=h
  exact⟨pl,by rw[hi];exact h1,h2.Pd MR (λ_ _=>rfl) (λ_ _ _ _ _=>rfl)⟩
 | Tf t l=>
  rcases h with⟨h1,h2⟩ | ⟨b,cap,ns,h1,hn,h2,h3,h4,h5⟩
  ·exact .inl ⟨by rw[hi];exact h1,h2⟩
  ·exact .inr ⟨b,cap,ns,by rw[hi];exact h1,λb' hb'=>MR b' (hn b' hb'),MR b h2,h3,h4,λk d hk=>by obtain⟨x,k1,k2⟩:=h5 k d hk;exact⟨x,k1,hle k2⟩⟩
 | Z8 cs=>
  obtain⟨b,c,h1,h2,h5⟩:=h
  exact⟨b,c,by rw[hi];exact h1,MR b h2,λk d hk=>by obtain⟨x,k1,k2⟩:=h5 k d hk;exact⟨x,k1,hle k2⟩⟩
 | mp t l=>
  obtain⟨b,h1,h2⟩:=h
  exact⟨b,by rw[hi];exact h1,h2.Pd MR (λ_ _=>rfl) rfl⟩
 | it ob=>
  obtain⟨b,h1,h2⟩:=h
  exact⟨b,by rw[hi];exact h1,h2⟩
 | Pv k n=>exact N7.mono (λr hr=>by rw[hi];exact hr) (λr hr=>by rw[Ob k (hA k n rfl)];exact hr) h
 | Sq t l i ks=>
  obtain⟨pl,h1,h2⟩:=h
  exact⟨pl,by rw[hi];exact h1,h2.Pd (λ_ _ _ _ _=>rfl) λk d x p hp hc=>hc.Pd MR (λ_ _=>rfl) hp⟩
 | NQ t l j=>
  obtain⟨pl,h1,h2⟩:=h
  exact⟨pl,by rw[hi];exact h1,h2.Pd (λ_ _ _ _ _=>rfl) λk d x p hp hc=>hc.Pd MR (λ_ _=>rfl) hp⟩
theorem M_.afI{id:Nat}{B:Mi F}(h:M_ g w id B):∀k n,B = .Pv k n→g.ids k≠none:=by
 rintro k n rfl
 rcases h with⟨_,_,_,_,_,h,_⟩ | ⟨_,h,_⟩<;>(rw[h];simp)
theorem M_.inn{id:Nat}{B:Mi F}(h:M_ g w id B):∀(cs:List (MK F)),B = .box cs→∀(k:Nat)(c:MK F),cs[k]? = some c→Ou (λid=>g.ids id≠none) c:=by
 rintro cs rfl k c hk;obtain⟨b,_,arr,t,h1,h2,h3,h4⟩:=h;have hlt:=(Lb.1 hk).1
 exact(h4 k c _ hk (La (by rw[h3];exact hlt))).inn
def Yu(o:Option Nat)(bx:Pl)(v v':Value):Prop:=
 match o with
 | some n=>if Nat.beq n 4997=true then∃b c,bx=some (b,c)else n≤maxLen∧∃b c,bx=some (b,c)∧v = .slice (some ⟨b,0,none⟩) n n
 | none=>v=v'
def AsB(k:Kd)(bx:Pl)(v v':Value):Prop:=
 match k with
 | .box _ ow=>Yu (Uq ow) bx v v'
 | _=>v=v'
def pZ(P:Program)(w:World)(Lj:Nat→Prop)(e:Option Nat)(k:Kd)(x:k.El F)(v:Value)(LP:List Pl)(sb:List (Nat×Pl)):Prop:=
 match e with
 | some id=>∃bx v',sb = [(id,bx)]∧Held P w Lj k x v' (bx::LP) [bx]∧k.Ni=true∧AsB k bx v v'
 | none=>sb = []∧∃Mg,Held P w Lj k x v LP Mg
def ZX(P:Program)(w:World)(Lj:Nat→Prop)(val:Nat→Value)(s0:TS F):(ks:Ks)→TLS F ks→List Pl→List (Nat×Pl)→Prop
 | [],_,LP,sb=>LP = []∧sb = []
 | [k],x,LP,sb=>pZ P w Lj (iD k.2 (look s0.E k.1)) k.2 x (val k.1) LP sb
 | k::l::r,a,LP,sb=>∃p1 p2 b1 b2,LP=p1++p2∧sb=b1++b2∧pZ P w Lj (iD k.2 (look s0.E k.1)) k.2 a.1 (val k.1) p1 b1∧ZX P w Lj val s0 (l::r) a.2 p2 b2
def af4(g:G)(s0:TS F)(sb:List (Nat×Pl)):Prop:=∀q∈sb,g.ids q.1=some q.2∧∃x k,iD k (look s0.E x)=some q.1
theorem jp{k:Kd}{d:Option (Dat F)}{id:Nat}(h:iD k d=some id):(∃t ow,k = .box t ow∧d=some (YN ow id))∨∃t arr,k = .row t arr∧d=some (Ph t arr id):=by
 unfold iD at h;split at h
 ·split at h
  ·rename_i hs;cases h;exact .inl ⟨_,_,rfl,by simp[YN,hs]⟩
  ·cases h
 ·split at h
  ·rename_i hs;obtain⟨h1,h⟩:=aQ h;cases h;simp only[Ng,UJ]at h1;have:=Q_ h1.1;subst this
   exact .inl ⟨_,_,rfl,by simp[YN,hs,h1.2]⟩
  ·cases h
 ·split at h
  ·rename_i hs;obtain⟨h1,h⟩:=aQ h;cases h
   exact .inl ⟨_,_,rfl,by simp[YN,hs,h1]⟩
  ·cases h
 ·exact .inr ⟨_,_,rfl,congrArg some (tK h)⟩
 ·cases h
theorem CR{ow:List Nat}{id:Nat}{v:Value}(h:Me (F:=F) P g w (YN ow id) v):∃v',Me P g w (VL (YN (F:=F) ow id)) v'∧(∃b c,g.ids id=some (some (b,c)))∧∀(bx:Pl),g.ids id=some bx→Yu (Uq ow) bx v v':=by
 unfold YN at h ⊢;generalize Uq ow=o at h ⊢
 cases o with
 | none=>obtain⟨b,c,h1,h2⟩:=ci h;exact⟨v,h,⟨b,c,h1⟩,λ_ _=>rfl⟩
 | some n=>
  dsimp only at h ⊢
  cases hn:Nat.beq n 4997 with
  | false=>
   rw[hn]at h;obtain⟨b,c,h1,hm,h2⟩:=xB h;refine⟨_,.c (.ptr h1),⟨b,c,h1⟩,λbx hb=>?_⟩;unfold Yu;dsimp only
   rw[if_neg (by rw[hn];simp)]
   refine⟨hm,b,c,?_,h2⟩;rw[h1]at hb;exact(Option.some.inj hb).symm
  | true=>
   rw[hn]at h;have h:Me (F:=F) P g w (.gh id) v:=h
   cases h with
   | gh h1=>refine⟨_,.c (.ptr h1),⟨_,_,h1⟩,λbx hb=>?_⟩;unfold Yu;dsimp only;rw[if_pos hn];rw[h1]at hb;exact⟨_,_,(Option.some.inj hb).symm⟩
theorem Gu{ow:List Nat}{id:Nat}{v v':Value}{bx:Nat×Nat×Nat}(hv':v' = .pointer (some ⟨bx.1,0,none⟩))(h:Yu (Uq ow) (some (Vv bx)) v v')(hid:g.ids id=some (some (Vv bx))):Me (F:=F) P g w (YN ow id) v:=by
 unfold YN;generalize Uq ow=o at h ⊢
 cases o with
 | none=>have h:v=v':=h;subst h;subst hv';exact .c (.ptr hid)
 | some n=>
  dsimp only;unfold Yu at h;dsimp only at h
  cases hn:Nat.beq n 4997 with
  | false=>
   rw[if_neg (by rw[hn];simp)]at h
   obtain⟨hm,b,c,e,rfl⟩:=h;cases e;exact .c (.TF hid hm)
  | true=>exact .gh hid
theorem vB{s0 s:TS F}(hΓ : MN P Γ)(hm:LQ own g w (look s.M)){val:Nat→Value}(hv:∀x d,look s.E x=some d→Me P g w d (val x)){x:Nat}{k:Kd}{p:Pk (k.El F)}(h:wS Γ s0 s x k=some p){Lj:Nat→Prop}(hi:TT g p.fz Lj) :
  ∃LP sb,pZ P w Lj (iD k (look s0.E x)) k p.x (val x) LP sb∧af4 g s0 sb∧(∀q∈sb,some q.1∈p.os)∧(Li (p.os.map (Mk g))).Perm (Li (sb.map (·.2))++Li LP)∧R4 (look s.M) p.fz∧(∀id,some id∈p.os→∃B,look s.M id=some B∧B.owned=true):=by
 unfold wS at h;split at h
 ·rename_i id hs;split at h
  ·cases h
  ·rename_i d hd;split at h
   ·rename_i id' hs';obtain⟨hb,h'⟩:=aQ h;have:=Q_ hb;subst this;rcases jp hs with⟨t,ow,rfl,hs0⟩ | ⟨t,arr,rfl,hs0⟩
    ·rcases jp hs' with⟨t',ow',e1,e2⟩ | ⟨t',arr',e1,e2⟩
     ·cases e1;cases e2
      obtain⟨v',p1,p2,p3⟩:=CR (hv x _ hd);obtain⟨q,bx,os,h1,h2,h3,h4,h5,h6,h7,h8⟩:=oM (t:=t) (ow:=ow) hm (λ_ _ h=>h) h' hi p1
      have hq:q=id:=by
       unfold YN at h3
       cases hsl:Uq ow with
       | none=>rw[hsl]at h3;simp only[VL,Dat.c.injEq,MK.ptr.injEq,and_true]at h3;exact h3.symm
       | some n=>
        rw[hsl]at h3;dsimp only at h3
        cases hn:Nat.beq n 4997<;>rw[hn]at h3<;>simp only[cond_true,cond_false,VL,Dat.c.injEq,MK.ptr.injEq,and_true]at h3<;>exact h3.symm
      subst hq
      refine⟨os.map (Mk g),[(q,some (Vv bx))],by unfold pZ;rw[hs];exact⟨some (Vv bx),v',rfl,⟨bx,_,rfl,rfl,h5,h6⟩,rfl,p3 _ h4⟩,?_,?_,?_,R4.Pq h7,h8⟩
      ·intro q hq;rw[Ld]at hq;subst hq;exact⟨h4,x,_,hs⟩
      ·intro q hq;rw[Ld]at hq;subst hq;rw[h1];simp
      ·rw[h1];simp[Mk,h4,Li]
     ·cases e1
    ·have etp:VL d=d:=by
      rcases jp hs' with⟨t',ow',e1,e2⟩ | ⟨t',arr',e1,e2⟩
      ·cases e1
      ·cases e2;unfold Ph;cases t'.Nz<;>cases arr'<;>rfl
     rw[etp]at h';obtain⟨q,pl,h1,h2,h3,h4,h5,h6,h7,l,h8⟩:=uf (t:=t) (arr:=arr) hm (λ_ _ h=>h) h' hi.Lj (hv x _ hd);rcases jp hs' with⟨t',ow',e1,e2⟩ | ⟨t',arr',e1,e2⟩
     ·cases e1
     ·cases e1
      have hq:q=id:=by
       have e3:Ph (F:=F) t arr q=Ph t arr id:=by rw[← h4];exact Option.some.inj e2
       unfold Ph at e3
       cases hmp:t.Nz<;>rw[hmp]at e3<;>cases arr<;>simpa using e3
      subst hq
      refine⟨[],[(q,pl)],by unfold pZ;rw[hs];exact⟨pl,_,rfl,⟨pl,rfl,rfl,h6,h7⟩,rfl,rfl⟩,?_,?_,?_,λid hid=>by rw[h3]at hid;simp at hid,?_⟩
      ·intro q' hq;rw[Ld]at hq;subst hq;exact⟨h5,x,_,hs⟩
      ·intro q' hq;rw[Ld]at hq;subst hq;rw[h1];simp
      ·rw[h1];simp only[Nr,Oj,Mk,h5,Wz,Li,Wo];exact .refl _
      ·intro id' NU;rw[h1]at NU;simp only[Ld,NI]at NU;subst NU;exact⟨_,h8,kj⟩
   ·cases h
 ·rename_i hs;split at h
  ·cases h
  ·rename_i d hd;obtain⟨Mg,h1,h2,h3,h4,h5⟩:=sr hΓ hm (λ_ _ h=>h) h hi (hv x d hd)
   refine⟨p.os.map (Mk g),[],by unfold pZ;rw[hs];exact⟨rfl,Mg,h1⟩,λq hq=>by simp at hq,λq hq=>by simp at hq,by simp[Li],h3,h4⟩
theorem Ht{α : Type}{a b c d:List α}{x y:List α}(h1:x.Perm (a++b))(h2:y.Perm (c++d)):(x++y).Perm ((a++c)++(b++d)):=by refine(h1.append h2).trans ?_;rw[PS,PS];refine QeD a ?_;rw[← PS,← PS];exact QgU d QdD
theorem xe{s0 s:TS F}(hΓ : MN P Γ)(hm:LQ own g w (look s.M)){val:Nat→Value}(hv:∀x d,look s.E x=some d→Me P g w d (val x)):∀{ks:Ks}{p:Pk (TLS F ks)},T_ Γ s0 s ks=some p→∀{Lj:Nat→Prop},TT g p.fz Lj→
  ∃LP sb,ZX P w Lj val s0 ks p.x LP sb∧af4 g s0 sb∧(∀q∈sb,some q.1∈p.os)∧(Li (p.os.map (Mk g))).Perm (Li (sb.map (·.2))++Li LP)∧R4 (look s.M) p.fz∧(∀id,some id∈p.os→∃B,look s.M id=some B∧B.owned=true)
 | [],p,h,Lj,hi=>by
  simp only[T_,NI]at h;subst h
  exact⟨[],[],⟨rfl,rfl⟩,λq hq=>by simp at hq,by simp,by simp[Li],λid hid=>by simp at hid,by simp⟩
 | [k],p,h,Lj,hi=>vB hΓ hm hv h hi
 | k::l::r,p,h,Lj,hi=>by
  simp only[T_]at h;split at h
  ·cases h
  ·rename_i p1 hp1;split at h
   ·cases h
   ·rename_i p2 hp2;cases h
    obtain⟨l1,b1,h1,h2,h3,h4,h5,h6⟩:=vB hΓ hm hv hp1 (hi.sub (λid hid=>by simp[hid]))
    obtain⟨l2,b2,k1,k2,k3,k4,k5,k6⟩:=xe hΓ hm hv hp2 (hi.sub (λid hid=>by simp[hid]))
    refine⟨l1++l2,b1++b2,⟨l1,l2,b1,b2,rfl,rfl,h1,k1⟩,?_,?_,?_,h5.append k5,?_⟩
    ·intro q hq;rcases N_.1 hq with hq | hq
     ·exact h2 q hq
     ·exact k2 q hq
    ·intro q hq;rcases N_.1 hq with hq | hq
     ·exact QcW _ (h3 q hq)
     ·exact QcS _ (k3 q hq)
    ·show(Li ((p1.os++p2.os).map (Mk g))).Perm _;rw[Uo,aM,aM,Uo,aM];exact Ht h4 k4
    ·intro id hid;rcases N_.1 hid with hid | hid
     ·exact h6 id hid
     ·exact k6 id hid
theorem zW{s0:TS F}{x:Nat}{k:Kd}{y:k.El F}{v:Value}{LP:List Pl}{sb:List (Nat×Pl)}{c:Nat}(h:pZ P w g.Lj (iD k (look s0.E x)) k y v LP sb)(hn:Po g c LP)(hsb:∀q∈sb,g.ids q.1=some q.2) :
  Me P g w (Sc s0.E x k y c).1 v∧SG g w c LP.length (sb.map (·.1)) (Sc s0.E x k y c).2.1∧(Sc s0.E x k y c).2.2=c+LP.length:=by
 unfold Sc;unfold pZ at h
 cases hs:iD k (look s0.E x)with
 | none=>rw[hs]at h;dsimp only at h ⊢;obtain⟨rfl,Mg,h⟩:=h;obtain⟨h1,h2,h3⟩:=d4 (c:=c) h hn;exact⟨h1,h2.back,h3⟩
 | some id=>
  rw[hs]at h;dsimp only at h ⊢;rcases jp hs with⟨t,ow,rfl,_⟩ | ⟨t,arr,rfl,_⟩
  ·obtain⟨bx,v',rfl,⟨bx',rest,e1,e2,hv',hB⟩,_,has⟩:=h;cases e1;cases e2
   have hid:=hsb (id,some (Vv bx')) (by simp)
   obtain⟨k1,k2⟩:=vM (c:=c) hB hid hn;exact⟨Gu hv' has hid,k1,k2⟩
  ·obtain⟨bx,v',rfl,⟨pl,e1,e2,h1,h2⟩,_,has⟩:=h;cases e1;cases e2;cases has
   have hid:g.ids id=some bx:=hsb (id,bx) (by simp)
   refine⟨Bu h1 hid h2,?_,rfl⟩;intro p hp;simp only[Yf,Ld]at hp;subst hp
   exact⟨kj,qZ h1 hid,.inr (by simp)⟩
theorem CZ{s0:TS F}{val:Nat→Value}:∀{ks:Ks}{x:TLS F ks}{LP:List Pl}{sb:List (Nat×Pl)} {c:Nat},ZX P w g.Lj val s0 ks x LP sb→Po g c LP→(∀q∈sb,g.ids q.1=some q.2)→
  (∀y d,look (M6 s0.E ks x c).1 y=some d→Me P g w d (val y))∧SG g w c LP.length (sb.map (·.1)) (M6 s0.E ks x c).2.1∧(M6 s0.E ks x c).2.2=c+LP.length∧(∀y,y∉keysOf ks→look (M6 s0.E ks x c).1 y=none)
 | [],x,LP,sb,c,h,hn,hsb=>by
  obtain⟨rfl,rfl⟩:=h
  exact⟨λy d h=>by simp[M6,look]at h,λp hp=>by simp[M6]at hp,rfl,λ_ _=>rfl⟩
 | [k],x,LP,sb,c,h,hn,hsb=>by
  obtain⟨h1,h2,h3⟩:=zW (c:=c) h hn hsb;simp only[M6];refine⟨?_,h2,h3,?_⟩
  ·intro y d hy;rw[ay]at hy;split at hy
   ·rename_i hb;have:=Q_ hb;subst this;cases hy;exact h1
   ·simp[look]at hy
  ·intro y hy;rw[ay,ar]
   ·rfl
   ·rintro rfl;simp[keysOf]at hy
 | k::l::r,x,LP,sb,c,h,hn,hsb=>by
  obtain⟨p1,p2,b1,b2,rfl,rfl,h,h'⟩:=h
  obtain⟨h1,h2,h3⟩:=zW (c:=c) h hn.left (λq hq=>hsb q (by simp[hq]))
  obtain⟨k1,k2,k3,k4⟩:=CZ (c:=c+p1.length) h' hn.right (λq hq=>hsb q (by simp[hq]))
  simp only[M6];rw[h3]
  refine⟨?_,by rw[Lc,Uo];exact h2.append k2,by rw[k3,Lc];omega,?_⟩
  ·intro y d hy;rw[ay]at hy;split at hy
   ·rename_i hb;have:=Q_ hb;subst this;cases hy;exact h1
   ·exact k1 y d hy
  ·intro y hy
   rw[ay,ar (λe=>hy (by simp[keysOf,e]))]
   exact k4 y (λh=>hy (by simp only[keysOf,Nr,NH]at h ⊢;exact .inr h))
theorem p8{c0:Nat}{kill l:List Nat}(h:SN c0 kill l=true){id:Nat}(hi:id∈l):c0≤id∨id∈kill:=by have:=Tg.1 h id hi;simp only[UG]at this;exact this.imp (λh=>Va h) aN.1
def G.cut(g:G)(c0:Nat)(LP:List Pl)(I:Nat→Prop):G:=⟨λx=>if x<c0 then g.ids x else if x<c0+LP.length then LP[x - c0]? else none,I,g.len⟩
theorem xb{c0:Nat}{LP:List Pl}{I:Nat→Prop}{x:Nat}(h:x<c0):(g.cut c0 LP I).ids x=g.ids x:=by simp only[G.cut];rw[if_pos h]
theorem KX{c0:Nat}{LP:List Pl}{I:Nat→Prop}:Po (g.cut c0 LP I) c0 LP:=by
 intro j pl hj;have hlt:=(Lb.1 hj).1;simp only[G.cut]
 rw[if_neg (by omega),if_pos (by omega),QfJ]
 exact hj
theorem An{s:TS F}{dr kill:List Nat}{ks:Ks}{x:TLS F ks}(hk:∀y∈keysOf ks,y∈dr)(hks:∀y,y∉keysOf ks→look (M6 s.E ks x s.c).1 y=none)(hb:∀q∈(M6 s.E ks x s.c).2.1,s.c≤q.1∨q.1∈kill)(hc:s.c≤(M6 s.E ks x s.c).2.2):Fr nv s (merge nv dr kill s ks x):=by
 refine⟨?_,?_,hc,λy hy=>QcS _ hy,λy hy=>QcS _ hy⟩
 ·intro y hy hn;have hnd:y∉dr:=λh=>hn (QcW _ h);show look ((M6 s.E ks x s.c).1++s.E.filter λp=>Nat.blt p.1 nv&&!(Mh p.1 dr)) y=_;rw[bu,hks y (λh=>hnd (hk y h)),VD,aJ (λy=>Nat.blt y nv&&!(Mh y dr)),if_pos];rw[R6.mpr hy]
  cases hm:Mh y dr with
  | true=>exact absurd (aN.1 hm) hnd
  | false=>rfl
 ·intro id hid hn;have hnd:id∉kill:=λh=>hn (QcW _ h);show look ((M6 s.E ks x s.c).2.1++s.M.filter λp=>!(Mh p.1 kill)) id=_
  have hnone:∀{l:List (Nat×Mi F)},(∀q∈l,s.c≤q.1∨q.1∈kill)→look l id=none:=by
   intro l
   induction l with
   | nil=>intro _;rfl
   | cons q l ih=>
    intro h;obtain⟨y,C⟩:=q
    have hne:y≠id:=by
     rintro rfl
     rcases h (y,C) (by simp)with h | h
     ·simp only at h;omega
     ·exact hnd h
    rw[ay,ar hne]
    exact ih (λq hq=>h q (by simp[hq]))
  rw[bu,hnone hb,VD,aJ (λy=>!(Mh y kill)),if_pos]
  cases hm:Mh id kill with
  | true=>exact absurd (aN.1 hm) hnd
  | false=>rfl
theorem wO(hΓ : MN P Γ){s z:TS F}{gs:G}{as:Act}{ws W1:World}(hs:Good P own W1 n s.st gs as ws)(hz:Good P own W0 n z.st g a w){dr kill:List Nat}
  (he:∀x,x<nv→x∉dr→look z.E x=look s.E x) (hm:∀id,id<s.c→id∉kill→look z.M id=look s.M id) {ks:Ks} {p:Pk (TLS F ks)} (hp:T_ Γ s z ks=some p)
  (hnd:eK (Mx p.os)=true) (hdj:RV (Mx p.os) p.fz=true) (ho:SN s.c kill (Mx p.os)=true) (hf:SN s.c kill p.fz=true) :
  (∃g',Good P own W0 n (merge nv dr kill s ks p.x).st g' a w)∧((∀y∈keysOf ks,y∈dr)→Fr nv s (merge nv dr kill s ks p.x)∧Fr nv (clean s) (merge nv dr kill (clean s) ks p.x))∧
  (∀q∈(M6 s.E ks p.x s.c).2.1,s.c≤q.1∨q.1∈kill)∧(∀y,y∉keysOf ks→look (M6 s.E ks p.x s.c).1 y=none)∧s.c≤(M6 s.E ks p.x s.c).2.2:=by
 have hfz:TT g p.fz (g.Rl p.fz).Lj:=⟨λ_ h=>.inl h,λid hid b hb=>.inr ⟨id,hid,hb⟩⟩;obtain⟨LP,sb,h1,hsb,adr,hperm,h2,h3⟩:=xe (s0:=s) (val:=λx=>a.tmps.getD x undef) hΓ hz.mem hz.env hp hfz;have hfr:=nK hz.mem (λ_ _ h=>h) h2
 have Rj:∀{id:Nat},gs.ids id≠none→id<s.c:=by
  intro id hid;apply Nat.lt_of_not_le;intro hle
  exact hid (hs.dom id (by simp only[TS.st,cg,decide_eq_false_iff_not];omega))
 let g':G:=g.cut s.c LP (g.Rl p.fz).Lj
 have Ob:∀id,gs.ids id≠none→g'.ids id=g.ids id:=λid hid=>xb (Rj hid);have MR:∀b,g.Lj b→g'.Lj b:=λb hb=>.inl hb
 have aoZ:∀q∈sb,q.1<s.c:=by
  intro q hq;obtain⟨_,x,k,hx⟩:=hsb q hq;rcases jp hx with⟨t,ow,_,hx⟩ | ⟨t,arr,_,hx⟩
  ·obtain⟨_,_,⟨b,c,hi⟩,_⟩:=CR (hs.env x _ hx)
   exact Rj (by rw[hi];simp)
  ·obtain⟨⟨pl,hi⟩,_⟩:=yJ (t:=t) (hs.env x _ hx)
   exact Rj (by rw[hi];simp)
 have afL:∀q∈sb,g'.ids q.1=some q.2:=λq hq=>(xb (aoZ q hq)).trans (hsb q hq).1;obtain⟨k1,k2,k3,k4⟩:=CZ (g:=g') (c:=s.c) h1 KX afL
 have hpl:∀{b:Nat},b∈Li (sb.map (·.2))++Li LP→∃id B,id∈Mx p.os∧look z.M id=some B∧B.owned=true∧g.blk id b:=by intro b hb;obtain⟨id,q1,q2⟩:=cC.1 (hperm.mem_iff.2 hb);obtain⟨B,q3,q4⟩:=h3 id q1;exact⟨id,B,gz.2 q1,q3,q4,q2⟩
 have afT:(Li (sb.map (·.2))++Li LP).Nodup:=hperm.nodup_iff.1 (kz hz.mem (jE hnd) h3);have ao3:(Li LP).Nodup:=(Xd.1 afT).2.1
 have afO:∀{b:Nat},b∈Li (sb.map (·.2))++Li LP→own.o b∧¬ (g.Rl p.fz).Lj b:=by
  intro b hb;obtain⟨id,B,q1,q2,q3,q4⟩:=hpl hb;refine⟨(hz.mem.own id B b q2 q3 q4).1,?_⟩;have hno:id∉p.fz:=n9 hdj id q1
  exact(hfr.own id B b (by rw[lE,if_neg hno];exact q2) q3 q4).2
 have hmem:∀{id:Nat}{B:Mi F},look ((M6 s.E ks p.x s.c).2.1++s.M.filter λq=>!(Mh q.1 kill)) id=some B→
   (M_ g' w id B∧s.c≤id∧∀b,g'.blk id b→∃b0 q,LP[id - s.c]? = some (some (b0,q))∧b∈b0::MP q.2.2)∨
   (M_ g' w id B∧∃bx,(id,bx)∈sb∧∀b,g'.blk id b→∃b0 q,bx=some (b0,q)∧b∈b0::MP q.2.2)∨
   (id<s.c∧id∉kill∧look z.M id=some B∧M_ g' w id B∧∀b,g'.blk id b→g.blk id b):=by
  intro id B hB;rw[bu]at hB
  cases hl:look (M6 s.E ks p.x s.c).2.1 id with
  | some B'=>
   rw[hl]at hB;cases hB
   have hin:∀{l:List (Nat×Mi F)} {B:Mi F},look l id=some B→(id,B)∈l:=by
    intro l
    induction l with
    | nil=>intro B h;simp[look]at h
    | cons q l ih=>
     intro B h;obtain⟨y,C⟩:=q;rw[ay]at h;split at h
     ·rename_i hb;have:=Q_ hb;subst this;cases h;simp
     ·exact U_ _ (ih h)
   obtain⟨q3,q4,⟨j,q1,q2⟩ | q1⟩:=k2 _ (hin hl)
   ·simp only at q1 q4
    refine .inl ⟨q4,by omega,?_⟩
    rintro b ⟨b0,q,hq,hbb⟩;refine⟨b0,q,?_,hbb⟩
    have:¬ id<s.c:=by omega
    simp only[g',G.cut]at hq
    rw[if_neg this,if_pos (by omega)]at hq
    exact hq
   ·simp only at q1 q4;obtain⟨⟨i,bx⟩,r1,r2⟩:=RA.1 q1;simp only at r2;subst r2;refine .inr (.inl ⟨q4,bx,r1,?_⟩);rintro b ⟨b0,q,hq,hbb⟩;rw[afL _ r1]at hq;cases hq;exact⟨_,_,rfl,hbb⟩
  | none=>
   rw[hl,VD]at hB;rw[aJ (λy=>!(Mh y kill))]at hB;split at hB
   ·rename_i hk
    have hk':id∉kill:=λh=>by rw[aN.2 h]at hk;simp at hk
    have hok:=hs.mem.ok id B hB;have hlt:id<s.c:=Rj hok.named
    have hzB:look z.M id=some B:=by rw[hm id hlt hk'];exact hB
    refine .inr (.inr ⟨hlt,hk',hzB,(hz.mem.ok id B hzB).ren Ob MR (λ_ h=>h) hok.named hok.inn hok.afI,?_⟩);rintro b ⟨b0,q,hq,hbb⟩
    exact⟨b0,q,by rw[← xb (g:=g) (LP:=LP) (I:=(g.Rl p.fz).Lj) hlt];exact hq,hbb⟩
   ·cases hB
 have hkept:∀{id:Nat}{B:Mi F}{b:Nat},id<s.c→id∉kill→look z.M id=some B→B.owned=true→g.blk id b→b∉Li (sb.map (·.2))++Li LP∧¬ (g.Rl p.fz).Lj b:=by
  intro id B b q1 q2 q3 q4 q5;refine⟨λhb=>?_,?_⟩
  ·obtain⟨id',B',r1,r2,r3,r4⟩:=hpl hb;have:=hz.mem.S_ id id' B B' b q3 r2 q4 r3 q5 r4;subst this;rcases p8 ho r1 with h | h
   ·omega
   ·exact q2 h
  ·have hno:id∉p.fz:=λh=>by
    rcases p8 hf h with h | h
    ·omega
    ·exact q2 h
   exact(hfr.own id B b (by rw[lE,if_neg hno];exact q3) q4 q5).2
 have OV:∀{id b b0:Nat}{q:Nat×Nat×NS},(id,some (b0,q))∈sb→b∈b0::MP q.2.2→b∈Li (sb.map (·.2))++Li LP:=λh hb=>QcW _ (sQ (RA.2 ⟨_,h,rfl⟩) hb);have inP:∀{j b b0:Nat}{q:Nat×Nat×NS},LP[j]? = some (some (b0,q))→b∈b0::MP q.2.2→b∈Li (sb.map (·.2))++Li LP:=λh hb=>QcS _ (db.2 ⟨_,_,_,h,hb⟩)
 have apart:∀{id j b b1:Nat}{bx:Pl}{q:Nat×Nat×NS},(id,bx)∈sb→(∃b0 q,bx=some (b0,q)∧b∈b0::MP q.2.2)→LP[j]? = some (some (b1,q))→b∈b1::MP q.2.2→False:=by rintro id j b b1 bx q h ⟨b0,q',rfl,hb⟩ h' hb';exact(Xd.1 afT).2.2 b (sQ (RA.2 ⟨_,h,rfl⟩) hb) b (db.2 ⟨_,_,_,h',hb'⟩) rfl
 have hb:∀q∈(M6 s.E ks p.x s.c).2.1,s.c≤q.1∨q.1∈kill:=λq hq=>by
  obtain⟨_,_,⟨j,q1,_⟩ | q1⟩:=k2 q hq
  ·exact .inl (by omega)
  ·obtain⟨⟨i,bx⟩,r1,r2⟩:=RA.1 q1;simp only at r2;rw[← r2];rcases p8 ho (gz.2 (adr _ r1))with h | h
   ·exact .inl h
   ·exact .inr h
 refine⟨⟨g',hz.Uk,hz.Tq,?_,⟨?_,?_,?_,hfr.Lj,hfr.io,hz.mem.len⟩,?_,λb hb=>.inl (hz.TD b hb),hz.NT,λid q h=>(xb (Rj (by rw[hs.Sn id q h];simp))).trans (hz.Sn id q h)⟩,λhk=>?_,hb,k4,by rw[k3];omega⟩
 ·intro x d hx;simp only[TS.st,merge]at hx;rw[bu]at hx
  cases hl:look (M6 s.E ks p.x s.c).1 x with
  | some d'=>rw[hl]at hx;cases hx;exact k1 x d hl
  | none=>
   rw[hl,VD,aJ (λy=>Nat.blt y nv&&!(Mh y dr))]at hx;split at hx
   ·rename_i hc;simp only[Ng,UJ]at hc;have hlt:x<nv:=R6.mp hc.1
    have hnd:x∉dr:=λh=>by rw[aN.2 h]at hc;simp at hc
    have hzx:look z.E x=some d:=by rw[he x hlt hnd];exact hx
    exact(hz.env x d hzx).ren Ob MR (λ_ h=>h) (hs.env x d hx).inn
   ·cases hx
 ·intro id B hB
  rcases hmem hB with⟨q,_⟩ | ⟨q,_⟩ | ⟨_,_,_,q,_⟩<;>exact q
 ·intro id id' B B' b hB hB' ob PK hb hb';rcases hmem hB with⟨_,q1,q2⟩ | ⟨_,bx,q1,q2⟩ | ⟨q1,q2,q3,_,q4⟩
  ·obtain⟨x0,x,q3,q5⟩:=q2 b hb;rcases hmem hB' with⟨_,r1,r2⟩ | ⟨_,bx',r1,r2⟩ | ⟨r1,r2,r3,_,r4⟩
   ·obtain⟨y0,y,r3,r5⟩:=r2 b hb';have:=nh ao3 q3 q5 r3 r5;omega
   ·exact(apart r1 (r2 b hb') q3 q5).elim
   ·exact absurd (inP q3 q5) (hkept r1 r2 r3 PK (r4 b hb')).1
  ·have e1:=q2 b hb;rcases hmem hB' with⟨_,r1,r2⟩ | ⟨_,bx',r1,r2⟩ | ⟨r1,r2,r3,_,r4⟩
   ·obtain⟨y0,y,r3,r5⟩:=r2 b hb';exact(apart q1 e1 r3 r5).elim
   ·have e2:=r2 b hb';obtain⟨B1,s1,s2⟩:=h3 id (adr _ q1);obtain⟨B2,t1,t2⟩:=h3 id' (adr _ r1);obtain⟨x0,x1,rfl,x2⟩:=e1;obtain⟨y0,y1,rfl,y2⟩:=e2;exact hz.mem.S_ id id' B1 B2 b s1 t1 s2 t2 ⟨x0,x1,(hsb _ q1).1,x2⟩ ⟨y0,y1,(hsb _ r1).1,y2⟩
   ·obtain⟨x0,x1,rfl,x2⟩:=e1;have:=OV q1 x2;exact absurd this (hkept r1 r2 r3 PK (r4 b hb')).1
  ·rcases hmem hB' with⟨_,r1,r2⟩ | ⟨_,bx',r1,r2⟩ | ⟨r1,r2,r3,_,r4⟩
   ·obtain⟨y0,y,r3,r5⟩:=r2 b hb';exact absurd (inP r3 r5) (hkept q1 q2 q3 ob (q4 b hb)).1
   ·obtain⟨x0,x1,rfl,x2⟩:=r2 b hb';have:=OV r1 x2;exact absurd this (hkept q1 q2 q3 ob (q4 b hb)).1
   ·exact hz.mem.S_ id id' B B' b q3 r3 ob PK (q4 b hb) (r4 b hb')
 ·intro id B b hB ob hb;rcases hmem hB with⟨_,q1,q2⟩ | ⟨_,bx,q1,q2⟩ | ⟨q1,q2,q3,_,q4⟩
  ·obtain⟨x0,x,q3,q5⟩:=q2 b hb;exact afO (inP q3 q5)
  ·obtain⟨x0,x1,rfl,x2⟩:=q2 b hb;exact afO (OV q1 x2)
  ·exact⟨(hz.mem.own id B b q3 ob (q4 b hb)).1,(hkept q1 q2 q3 ob (q4 b hb)).2⟩
 ·intro id hid;simp only[TS.st,merge,cg,decide_eq_false_iff_not]at hid;rw[k3]at hid;simp only[g',G.cut]
  rw[if_neg (by omega),if_neg (by omega)]
 ·exact⟨An hk k4 hb (by rw[k3];omega),An (s:=clean s) hk k4 hb (by show s.c≤(M6 s.E ks p.x s.c).2.2;rw[k3];omega)⟩
end
set_option linter.unusedVariables false
set_option linter.unusedSimpArgs false
section
variable{F:Fam}{P:Program}{own:Ow}{W0:World}{n nv:Nat}
theorem tX{s z:TS F}{gs g:G}{a0 a:Act}{w0 w:World}(hs:Good P own W0 n s.st gs a0 w0)(hz:Good P own W0 n z.st g a w){id ix kk:Nat}{dr:List Nat}{B B':Mi F}{len:Nat}{nn:Int}(hid:id<s.c)
  (he:∀y,y<nv→y∉ix::dr→look z.E y=look s.E y) (hi:look z.E ix=some (.c (.im (.i .i64 nn)))) (hm:∀y,y<s.c→y≠id→look z.M y=look s.M y)
  (hB:look z.M kk=some B) (hBo:B.owned=true) (hkk:kk=id∨s.c≤kk) (hsame:N7 len (g.ids id) (g.ids kk)) (hB':∀g2:G,g2.ids s.c=g.ids kk→g2.Lj=g.Lj→M_ g2 w s.c B') (hBo':B'.owned=true) :
  ∃g2,Good P own W0 n (OI nv s id ix dr B' len nn).st g2 a w:=by
 have Rj:∀{y:Nat},gs.ids y≠none→y<s.c:=by
  intro y hy;by_cases h:y<s.c
  ·exact h
  ·exact absurd (hs.dom y (by simp only[TS.st,cg];simpa using h)) hy
 obtain⟨g2,hg2⟩:∃g2:G,g2=⟨λy=>if y=s.c then g.ids kk else if y<s.c then g.ids y else none,g.Lj,g.len⟩:=⟨_,rfl⟩
 have h2c:g2.ids s.c=g.ids kk:=by rw[hg2];simp
 have h2l:∀y,y<s.c→g2.ids y=g.ids y:=λy hy=>by rw[hg2];simp only;rw[if_neg (by omega),if_pos hy]
 have h2g:∀y,s.c<y→g2.ids y=none:=λy hy=>by rw[hg2];simp only;rw[if_neg (by omega),if_neg (by omega)]
 have h2i:g2.Lj=g.Lj:=by rw[hg2]
 have acC:g2.len=g.len:=by rw[hg2]
 have Ob:∀y,gs.ids y≠none→g2.ids y=g.ids y:=λy hy=>h2l y (Rj hy)
 have MR:∀b,g.Lj b→g2.Lj b:=λb h=>by rw[h2i];exact h
 have hlen:∀b,g.len b→g2.len b:=λb h=>by rw[acC];exact h
 have hcase:∀y B0,look (OI nv s id ix dr B' len nn).M y=some B0→(y=id∧B0 = .Pv s.c len)∨(y=s.c∧B0=B')∨(y<s.c∧y≠id∧look s.M y=some B0∧look z.M y=some B0):=by
  intro y B0 h;simp only[OI]at h;rw[ay]at h;by_cases h1:id=y
  ·subst h1;rw[if_pos (YO _)]at h;cases h;exact .inl ⟨rfl,rfl⟩
  ·have hb1:Nat.beq id y=false:=ar h1
   rw[if_neg (by rw[hb1];simp),ay]at h
   by_cases h2:s.c=y
   ·subst h2;rw[if_pos (YO _)]at h;cases h;exact .inr (.inl ⟨rfl,rfl⟩)
   ·have hb2:Nat.beq s.c y=false:=ar h2
    rw[if_neg (by rw[hb2];simp),aJ (λy=>!(Nat.beq id y))]at h
    rw[if_pos (by rw[hb1];rfl)]at h
    have hlt:y<s.c:=Rj (hs.mem.ok y B0 h).named
    exact .inr (.inr ⟨hlt,λe=>h1 e.symm,h,by rw[hm y hlt (λe=>h1 e.symm)];exact h⟩)
 have hback:∀y B0,look (OI nv s id ix dr B' len nn).M y=some B0→B0.owned=true→∀b,g2.blk y b→∃y' B1,look z.M y'=some B1∧B1.owned=true∧g.blk y' b∧((y=s.c∧y'=kk)∨(y<s.c∧y≠id∧y'=y)):=by
  intro y B0 h ho b hb;rcases hcase y B0 h with⟨_,rfl⟩ | ⟨rfl,rfl⟩ | ⟨h1,h2,h3,h4⟩
  ·cases ho
  ·obtain⟨b0,c,k1,k2⟩:=hb;rw[h2c]at k1;exact⟨kk,B,hB,hBo,⟨b0,c,k1,k2⟩,.inl ⟨rfl,rfl⟩⟩
  ·obtain⟨b0,c,k1,k2⟩:=hb;rw[h2l y h1]at k1;exact⟨y,B0,h4,ho,⟨b0,c,k1,k2⟩,.inr ⟨h1,h2,rfl⟩⟩
 refine⟨g2,hz.Uk,hz.Tq,?_,⟨?_,?_,?_,λb hb=>hz.mem.Lj b (by rw[← h2i];exact hb),λb hb=>hz.mem.io b (by rw[← h2i];exact hb),λb hb=>hz.mem.len b (by rw[← acC];exact hb)⟩,?_,λb hb=>MR b (hz.TD b hb),hz.NT,?_⟩
 ·intro x d hx;have hx:look ((ix,.c (.im (.i .i64 nn)))::s.E.filter (λp=>Nat.blt p.1 nv&&!(Mh p.1 (ix::dr)))) x=some d:=hx;rw[ay]at hx;by_cases h1:ix=x
  ·subst h1;rw[if_pos (YO _)]at hx;cases hx;have:=hz.env ix _ hi
   cases this with
   | c h=>cases h with
    | im h=>exact .c (.im (by rw[h2i];exact h))
  ·have hb1:Nat.beq ix x=false:=ar h1
   rw[if_neg (by rw[hb1];simp),aJ (λy=>Nat.blt y nv&&!(Mh y (ix::dr)))]at hx
   split at hx
   ·rename_i hc;simp only[Ng,cg,decide_eq_true_eq,UJ]at hc
    have hn:x∉ix::dr:=λh=>by rw[aN.2 h]at hc;cases hc.2
    have hzx:look z.E x=some d:=by rw[he x hc.1 hn];exact hx
    exact(hz.env x d hzx).ren Ob MR hlen (hs.env x d hx).inn
   ·cases hx
 ·intro y B0 h;rcases hcase y B0 h with⟨rfl,rfl⟩ | ⟨rfl,rfl⟩ | ⟨h1,h2,h3,h4⟩
  ·show N7 len (g2.ids y) (g2.ids s.c);rw[h2l y hid,h2c];exact hsame
  ·exact hB' g2 h2c h2i
  ·have hok:=hs.mem.ok y B0 h3;exact(hz.mem.ok y B0 h4).ren Ob MR hlen hok.named hok.inn hok.afI
 ·intro y y' B0 B1 b h h' ho ho' hb hb';obtain⟨q,C,k1,k2,k3,k4⟩:=hback y B0 h ho b hb;obtain⟨q',C',l1,l2,l3,l4⟩:=hback y' B1 h' ho' b hb';have:=hz.mem.S_ q q' C C' b k1 l1 k2 l2 k3 l3;omega
 ·intro y B0 b h ho hb;obtain⟨q,C,k1,k2,k3,k4⟩:=hback y B0 h ho b hb;have:=hz.mem.own q C b k1 k2 k3
  exact⟨this.1,by rw[h2i];exact this.2⟩
 ·intro y hy;have hy:Nat.blt y (s.c+1)=false:=hy;rw[cg]at hy
  have hy':¬ y<s.c+1:=by simpa using hy
  exact h2g y (by omega)
 ·intro y p hp;have h1:=hs.Sn y p hp
  rw[h2l y (Rj (by rw[h1];simp))]
  exact hz.Sn y p hp
theorem N7.len{w:World}{t:Ty}{l:List (ET F t)}{C:Nat→ND F→Value→Option (Nat×Nat×Nat)→Prop}{x:Nat}{p q:Option Pl}(h:N7 x p q)(hq:∃pl,q=some pl∧Ri w t l C pl):N7 l.length p q:=by
 obtain⟨pl,h1,h2⟩:=hq;rcases h with⟨b,c,n,n',k1,k2,k3,k4⟩ | ⟨k1,k2,k3⟩
 ·rw[k2]at h1;cases h1;exact .inl ⟨b,c,n,n',k1,k2,k3,k3.symm.trans h2.1⟩
 ·rw[k2]at h1;cases h1;have:l = []:=h2;subst this;exact .inr ⟨k1,k2,rfl⟩
theorem Ih{m:Nat→Option (Mi F)}{g:G}{w:World}(hm:LQ own g w m){id c:Nat}{t:Ty}{l:List (ET F t)}(hB:m id=some (.row t l))(hf:g.ids c=none) :
  ∃g',LQ own g' w (Ms m [(id,none),(c,some (.NQ t l 0)),(id,some (.Pv c l.length))])∧Stp m g w g' w∧∀y,y≠c→g'.ids y=g.ids y:=by
 have hnb:∀k:Nat,MP (List.replicate k (none:Option (Nat×Nat×Nat))) = []:=by
  intro k
  induction k with
  | zero=>rfl
  | succ k ih=>rw[QgJ];exact ih
 obtain⟨pl,WZ,hid,hO,hbl,hSm⟩:∃pl WZ,g.ids id=some pl∧Ri w t l (Vn w g.Lj (LV F t) 0) WZ∧(∀b0 c',WZ=some (b0,c')→∀b∈b0::MP c'.2.2,∃c2,pl=some (b,c2))∧N7 l.length (some pl) (some WZ):=by
  rcases hm.ok id _ hB with⟨k1,k2⟩ | ⟨b,cap,cur,e,k1,k2,k3,k4,k5,k6⟩
  ·exact⟨none,none,k1,k2,λ_ _ h=>by simp at h,.inr ⟨rfl,rfl,by rw[k2];rfl⟩⟩
  ·refine⟨_,some (b,cap,l.length,List.replicate (cells F t l).length none),k1,⟨rfl,k3,k4,by simp,by rw[hnb];simp,cur,e,k2,k5,λk d y p h1 h2 h3=>⟨λh=>by omega,λ_=>⟨?_,k6 k d y h1 h2⟩⟩⟩,?_,.inl ⟨b,cap,_,_,rfl,rfl,rfl,rfl⟩⟩
   ·dsimp only at h3;rw[List.getElem?_replicate]at h3;split at h3
    ·cases h3;rfl
    ·cases h3
   ·rintro b0 c' h b' hb';cases h;rw[hnb]at hb';rw[Ld]at hb';subst hb';exact⟨_,rfl⟩
 obtain⟨k1,k2⟩:=lN (rm:=[id]) (id:=c) (pl:=WZ) (B:=.NQ t l 0) (w':=w) hm hf
  (λb0 c' e b hb=>by
   obtain⟨c2,hc2⟩:=hbl b0 c' e b hb
   exact .inr ⟨id,by simp,_,hB,rfl,b,c2,by rw[hid,hc2],YS⟩) rfl rfl rfl (MO _) (MO _) (λ_ _ _=>rfl) (λg' hle hi=>⟨WZ,hi,hO.Pd (λ_ _ _ _ _=>rfl) λk d y p hp hc=>hc.Pd hle.Lj hle.heap hp⟩)
 refine⟨g.name c WZ,?_,k2,λy hy=>cF _ _ _ hy⟩
 have h2:=k1.Pv (id:=id) (k:=c) (n:=l.length) (by rw[k2.le.ids _ _ hid,bD];exact hSm)
 have e:([(id,none),(c,some (.NQ t l 0)),(id,some (.Pv c l.length))]:List (Nat×Option (Mi F)))=([id].map (λr=>(r,none))++[(c,some (.NQ t l 0))])++[(id,some (.Pv c l.length))]:=rfl;rw[e,il];exact h2
theorem FG{g:G}{w:World}{id:Nat}{t:Ty}{l:List (ET F t)}{j:Nat}(h:M_ g w id (.NQ t l j))(hj:l.length≤j):M_ g w id (.Nb t l):=by
 obtain⟨pl,h1,h2⟩:=h;refine⟨pl,h1,?_⟩
 cases pl with
 | none=>exact h2
 | some q=>obtain⟨b,cap,n⟩:=q;obtain⟨q1,q2,q3,q4,q5,cur,e,q6,q7,q8⟩:=h2;refine⟨q1,q2,q3,q4,q5,cur,e,q6,q7,λk d x p p1 p2 p3=>(q8 k d x p p1 p2 p3).1 ?_⟩;have hk:k<(cells F t l).length:=(Lb.1 p1).1;rw[iU]at hk;have:l.length*LV F t≤j*LV F t:=Ro _ hj;omega
end
set_option linter.unusedVariables false
set_option linter.unusedSimpArgs false
def exC:Nat→Exit
 | 0=>.normal
 | 1=>.ret
 | i+2=>.exit i
section
variable{F:Fam}{P:Program}{T:TypeId→Option (TI F)}{Γ : Ctx F}{nv n:Nat}{own:Ow}{W0:World}
def YU(P:Program)(own:Ow)(W0:World)(n nv:Nat)(s:TS F){R:Type}(K:Nat→TS F→Option R)(r:R):Exit→Act→World→Prop:=
 λe a w=>∃k s' g',exC k=e∧K k s'=some r∧Fr nv s s'∧Good P own W0 n s'.st g' a w
theorem YU.back{s s1:TS F}(h:Fr nv s s1){R:Type}{K:Nat→TS F→Option R}{r:R}{e:Exit}{a:Act}{w:World}(k:YU P own W0 n nv s1 K r e a w):YU P own W0 n nv s K r e a w:=by obtain⟨i,s',g',h1,h2,h3,h4⟩:=k;exact⟨i,s',g',h1,h2,h.trans h3,h4⟩
def bA(P:Program)(own:Ow)(W0:World)(n nv:Nat)(c:Code)(run:TS F→{R:Type}→(Nat→TS F→Option R)→Option R):Prop:=
 ∀(s:TS F){R:Type}(K:Nat→TS F→Option R)(r:R),run s K=some r→∀(g:G)(a:Act)(w:World),Good P own W0 n s.st g a w→c.wp P (YU P own W0 n nv s K r) a w
theorem F9{x y:Code}{f k:TS F→{R:Type}→(Nat→TS F→Option R)→Option R}(hx:bA P own W0 n nv x f)(hy:bA P own W0 n nv y k) :
  bA P own W0 n nv (x.seq y) (λs R K=>f s λe s'=>match e with | 0=>k s' K | e=>K e s'):=by
 intro s R K r h g a w hg;refine wp_seq (wp_mono (hx s _ r h g a w hg) ?_);rintro e a' w' ⟨i,s',g',rfl,h2,h3,h4⟩
 match i,h2 with
 | 0,h2=>exact wp_mono (hy s' K r h2 g' a' w' h4) (λe a w hq=>hq.back h3)
 | 1,h2=>exact⟨1,s',g',rfl,h2,h3,h4⟩
 | i+2,h2=>exact⟨i+2,s',g',rfl,h2,h3,h4⟩
theorem Cu{t:Nat}{x y:Code}{f k:TS F→{R:Type}→(Nat→TS F→Option R)→Option R}(hx:bA P own W0 n nv x f)(hy:bA P own W0 n nv y k) :
  bA P own W0 n nv (.cond (.tmp t) x y) (λs R K=>match look s.E t with
  | some (.c (.im (.b b)))=>cond b (f s K) (k s K)
  | _=>none):=by
 intro s R K r h g a w hg;dsimp only at h;split at h
 ·rename_i b hb;refine wp_cond_split (qw (hg.env t _ hb)) (λe=>?_) (λe=>?_)
  ·subst e;exact hx s K r h g a w hg
  ·subst e;exact hy s K r h g a w hg
 ·cases h
theorem A2{b:Bool}{x y:Code}{f k:TS F→{R:Type}→(Nat→TS F→Option R)→Option R}(hx:bA P own W0 n nv x f)(hy:bA P own W0 n nv y k) :
  bA P own W0 n nv (.cond (.const (.bool b)) x y) (λs R K=>cond b (f s K) (k s K)):=by
 intro s R K r h g a w hg;refine wp_cond_split (t:=b) rfl (λe=>?_) (λe=>?_)
 ·subst e;exact hx s K r h g a w hg
 ·subst e;exact hy s K r h g a w hg
theorem AA{i:Nat}{x:Code}{f:TS F→{R:Type}→(Nat→TS F→Option R)→Option R}(hx:bA P own W0 n nv x f) :
  bA P own W0 n nv (.block i x) (λs R K=>f s λe s'=>if Nat.beq e (i+2)then K 0 s' else K e s'):=by
 intro s R K r h g a w hg;refine wp_block (wp_mono (hx s _ r h g a w hg) ?_);rintro e a' w' ⟨j,s',g',rfl,h2,h3,h4⟩
 match j,h2 with
 | 0,h2=>exact⟨0,s',g',rfl,h2,h3,h4⟩
 | 1,h2=>exact⟨1,s',g',rfl,h2,h3,h4⟩
 | j+2,h2=>
  simp only at h2;show Exit.inBlock i _ (.exit j) a' w';simp only[Exit.inBlock];by_cases hij:j=i
  ·subst hij;rw[bJ,if_pos rfl]at h2;rw[if_pos rfl];exact⟨0,s',g',rfl,h2,h3,h4⟩
  ·rw[ar (by omega)]at h2
   rw[if_neg hij];exact⟨j+2,s',g',rfl,h2,h3,h4⟩
theorem Ba{x:Code}{f:TS F→{R:Type}→(Nat→TS F→Option R)→Option R}(hx:bA P own W0 n nv x f) :
  bA P own W0 n nv (.scope x) (λs R K=>f s K):=by
 intro s R K r h g a w hg;refine wp_scope_straight (wp_mono (hx s _ r h g a w hg) ?_);rintro e a' w' ⟨j,s',g',rfl,h2,h3,h4⟩
 match j,h2 with
 | 0,h2=>exact⟨0,s',g',rfl,h2,h3,h4⟩
 | 1,h2=>exact⟨1,s',g',rfl,h2,h3,h4⟩
 | j+2,h2=>exact⟨j+2,s',g',rfl,h2,h3,h4⟩
theorem yP(hT:Mf P T)(hΓ : MN P Γ)(NG:P.follows .mixedOrders=true){id:Nat}{ops:Array Oper}{draw:Bool}{kp:List Nat} :
  bA P own W0 n nv (.region id ops draw) (λs R K=>Tv T Γ nv n kp ops.toList draw s (K 0)):=by
 intro s R K r h g a w hg;refine Ky hT hΓ NG h hg ?_;intro s' g' a' w' h1 h2 h3;exact⟨0,s',g',rfl,h1,h2,h3⟩
theorem EQ{F:Fam}(Γ : Ctx F)(f:Nat):look (mark Γ) f=look Γ f:=by
 cases Γ with
 | nil=>rfl
 | cons a l=>
  simp only[mark,look]
  split<;>first | rfl | simp_all
theorem tn(hΓ : MN P Γ){b:Bool}:MN P (cond b (mark Γ) Γ):=by
 cases b with
 | false=>exact hΓ
 | true=>exactλf sp h=>hΓ f sp (by rw[← EQ];exact h)
theorem B3{s:TS F}{g:G}{a:Act}{w:World}(hg:Good P own W0 n s.st g a w)(id:Nat):(∃g',Good P own W0 n (wL id s).st g' a w)∧Fr nv s (wL id s):=by
 unfold wL;split
 ·rename_i t l hB
  obtain⟨g',k1,k2,k3⟩:=Ew (c:=s.c) hg.mem hB (hg.dom s.c (by simp only[TS.st,cg];simp))
  refine⟨⟨g',hg.Uk,hg.Tq,λx d h=>(hg.env x d h).le k2.le,?_,λy hy=>?_,λb hb=>k2.le.Lj b (hg.TD b hb),hg.NT.stp hg.mem k2,λy p hp=>k2.le.ids _ _ (hg.Sn y p hp)⟩,?_⟩
  ·have e:(⟨s.E,R7 s.M [(id,none),(s.c,some (.Nb t l)),(id,some (.Pv s.c l.length))],s.c+1,s.dE,id::s.c::s.dM⟩:TS F).st.m=Ms s.st.m [(id,none),(s.c,some (.Nb t l)),(id,some (.Pv s.c l.length))]:=by
    funext x
    simp only[TS.st];rw[jr]
   rw[e];exact k1
  ·have hy:Nat.blt y (s.c+1)=false:=hy;rw[cg]at hy
   have hy':¬ y<s.c+1:=by simpa using hy
   rw[k3 y (by omega)]
   exact hg.dom y (by simp only[TS.st,cg];simp;omega)
  ·refine⟨λ_ _ _=>rfl,λy hy hn=>?_,QfR _,λ_ h=>h,λx hx=>by simp[hx]⟩
   show look (R7 s.M _) y=_;rw[jr,d8];simp only[NH,not_or]at hn;simp only[Nr,Oj,NH,QfC,or_false,not_or];exact⟨hn.1,hn.2.1,hn.1⟩
 ·exact⟨⟨g,hg⟩,.refl _ _⟩
theorem DP{s:TS F}{g:G}{a:Act}{w:World}(hg:Good P own W0 n s.st g a w)(x gs:Nat):Good P own W0 n (Xx x gs s).st g a w∧Fr nv s (Xx x gs s):=by
 unfold Xx;split
 ·rename_i fn y id hE;have hr:=hg.env x _ hE
  have hid:∃b c,g.ids id=some (some (b,c)):=by
   generalize a.tmps.getD x undef=v at hr
   cases hr with
   | RZ h1 h2 h3 h4=>
    rename_i us
    match us,h2 with
    | [u0,u1],_=>obtain⟨b,c,q,_⟩:=ci (h4 1 _ u1 rfl rfl);exact⟨b,c,q⟩
  obtain⟨b,c,hid⟩:=hid;refine⟨⟨hg.Uk,hg.Tq,λz d h=>?_,hg.mem,hg.dom,hg.TD,hg.NT,hg.Sn⟩,λz hz hn=>?_,λ_ _ _=>rfl,MO _,λz hz=>U_ _ hz,λ_ h=>h⟩
  ·have h:look ((gs,.gh id)::s.E) z=some d:=h;simp only[look]at h;split at h
   ·cases h;exact .gh hid
   ·exact hg.env z d h
  ·show look ((gs,.gh id)::s.E) z=_;simp only[look];split
   ·rename_i e;have:gs=z:=Q_ e;subst this;exact absurd YS hn
   ·rfl
 ·exact⟨hg,.refl _ _⟩
theorem nI:∀(kp:List Nat){s:TS F}{g:G}{a:Act} {w:World},Good P own W0 n s.st g a w→(∃g',Good P own W0 n (nU kp s).st g' a w)∧Fr nv s (nU kp s)
 | [],s,g,a,w,hg=>⟨⟨g,hg⟩,.refl _ _⟩
 | x::r,s,g,a,w,hg=>by
  simp only[nU]
  cases Nat.ble 10000 x with
  | false=>exact nI r hg
  | true=>
   cases Nat.ble 1000000 x with
   | true=>obtain⟨h1,h2⟩:=DP (nv:=nv) hg (x / 1000 - 1000) (x % 1000);obtain⟨h3,h4⟩:=nI r h1;exact⟨h3,h2.trans h4⟩
   | false=>obtain⟨⟨g1,h1⟩,h2⟩:=B3 (nv:=nv) hg (x - 10000);obtain⟨h3,h4⟩:=nI r h1;exact⟨h3,h2.trans h4⟩
theorem E1{c:Code}{f:TS F→{R:Type}→(Nat→TS F→Option R)→Option R}(hf:bA P own W0 n nv c f)(kp:List Nat):bA P own W0 n nv c (λs R K=>f (nU kp s) K):=by intro s R K r h g a w hg;obtain⟨⟨g',h1⟩,h2⟩:=nI (nv:=nv) kp hg;exact wp_mono (hf _ K r h g' a w h1) (λe a' w' hq=>hq.back h2)
theorem OL(hT:Mf P T)(hΓ : MN P Γ)(NG:P.follows .mixedOrders=true):∀(c:Code),bA P own W0 n nv c (MU T Γ nv n c)
 | .skip=>λs R K r h g a w hg=>wp_skip ⟨0,s,g,rfl,by simpa[MU]using h,.refl _ _,hg⟩
 | .exit i=>λs R K r h g a w hg=>wp_exit ⟨i+2,s,g,rfl,by simpa[MU]using h,.refl _ _,hg⟩
 | .ret=>λs R K r h g a w hg=>wp_ret ⟨1,s,g,rfl,by simpa[MU]using h,.refl _ _,hg⟩
 | .region id ops draw=>λs R K r h g a w hg=>yP (id:=id) (kp:=[]) hT hΓ NG s K r (by simp only[MU]at h;exact h) g a w hg
 | .seq x y=>λs R K r h g a w hg=>F9 (OL hT hΓ NG x) (OL hT hΓ NG y) s K r (by simp only[MU]at h;exact h) g a w hg
 | .cond (.tmp t) x y=>λs R K r h g a w hg=>Cu (OL hT hΓ NG x) (OL hT hΓ NG y) s K r (by simp only[MU]at h;exact h) g a w hg
 | .cond (.const v) x y=>by
  cases v with
  | bool b=>exactλs R K r h g a w hg=>A2 (OL hT hΓ NG x) (OL hT hΓ NG y) s K r (by simp only[MU]at h;exact h) g a w hg
  | _=>exactλs R K r h g a w hg=>by simp[MU]at h
 | .cond (.global _) x y=>λs R K r h g a w hg=>by simp[MU]at h
 | .cond (.func _) x y=>λs R K r h g a w hg=>by simp[MU]at h
 | .block i x=>λs R K r h g a w hg=>AA (OL hT hΓ NG x) s K r (by simp only[MU]at h;exact h) g a w hg
 | .loop x=>λs R K r h g a w hg=>by simp[MU]at h
 | .goto x=>λs R K r h g a w hg=>by simp[MU]at h
 | .label x=>λs R K r h g a w hg=>wp_label ⟨0,s,g,rfl,by simpa[MU]using h,.refl _ _,hg⟩
 | .rangeFunc _ _ _ _=>λs R K r h g a w hg=>by simp[MU]at h
 | .refuse _=>λs R K r h g a w hg=>by simp[MU]at h
 | .scope x=>λs R K r h g a w hg=>Ba (OL hT hΓ NG x) s K r (by simp only[MU]at h;exact h) g a w hg
theorem Ao{dr kill:List Nat}{c0:Nat}{ks:Ks}{s0 z:TS F}{v:TLS F ks}(h:Oq Γ s0 dr c0 kill ks z=some v) :
  (∀x∈z.dE,x∈dr)∧SN c0 kill z.dM=true∧∃p,T_ Γ s0 z ks=some p∧p.x=v∧eK (Mx p.os)=true∧RV (Mx p.os) p.fz=true∧SN c0 kill (Mx p.os)=true∧SN c0 kill p.fz=true:=by
 unfold Oq at h;obtain⟨h1,h⟩:=aQ h;simp only[Ng]at h1;split at h
 ·cases h
 ·rename_i p hp;obtain⟨h2,h⟩:=aQ h;simp only[Ng,and_assoc]at h2;cases h;exact⟨λx hx=>aN.1 (Tg.1 h1.1 x hx),h1.2,p,hp,rfl,h2⟩
theorem uV{dr kill:List Nat}{c0:Nat}{s0:TS F}:∀{xs:List (Nat×Ks)} {e:Nat} {z:TS F} {v:ExT F xs},TW Γ s0 dr c0 kill xs e z=some v→
  ∃ks x,Oq Γ s0 dr c0 kill ks z=some x∧(∀y∈keysOf ks,y∈PW xs)∧∀{R:Type}(K:(e:Nat)→(ks:Ks)→TLS F ks→Option R),Tp K xs v=K e ks x
 | [],e,z,v,h=>by cases h
 | [x],e,z,v,h=>by
  simp only[TW]at h;obtain⟨h1,h⟩:=aQ h;have:=Q_ h1;subst this;rw[h1]at h
  exact⟨x.2,v,h,λy hy=>by simpa[PW]using hy,λK=>rfl⟩
 | x::y::r,e,z,v,h=>by
  simp only[TW]at h;split at h
  ·rename_i hb;have:=Q_ hb;subst this;split at h
   ·rename_i v' hv';cases h
    exact⟨x.2,v',hv',λy hy=>by simp[PW,hy],λK=>rfl⟩
   ·cases h
  ·split at h
   ·rename_i v' hv';cases h;obtain⟨ks,x',h1,h2,h3⟩:=uV hv'
    exact⟨ks,x',h1,λy hy=>by have:=h2 y hy;simp only[PW,QfU,N_]at this ⊢;exact .inr this,λK=>h3 K⟩
   ·cases h
theorem qz(hΓ : MN P Γ){s z:TS F}{gs g:G}{as a:Act}{ws w W1:World}(hs:Good P own W1 n s.st gs as ws)(hz:Good P own W0 n z.st g a w){dr kill:List Nat}
  (hE:∀x,x<nv→x∉dr→x∉z.dE→look z.E x=look s.E x) (hM:∀id,id<s.c→id∉kill→id∉z.dM→look z.M id=look s.M id) {ks:Ks} (hk:∀y∈keysOf ks,y∈dr) {v:TLS F ks} (h:Oq Γ s dr s.c kill ks z=some v) :
  (∃g',Good P own W0 n (merge nv dr kill s ks v).st g' a w)∧Fr nv s (merge nv dr kill s ks v)∧Fr nv (clean s) (merge nv dr kill (clean s) ks v):=by
 obtain⟨h1,h2,p,h3,rfl,h4,h5,h6,h7⟩:=Ao h
 obtain⟨k1,k2,_⟩:=wO hΓ hs hz (dr:=dr) (kill:=kill) (λx hx hn=>hE x hx hn (λhd=>hn (h1 x hd))) (λid hi hn=>hM id hi hn (λhd=>by
  rcases p8 h2 hd with h | h
  ·omega
  ·exact hn h)) h3 h4 h5 h6 h7
 exact⟨k1,k2 hk⟩
theorem xl(hΓ : MN P Γ){s z:TS F}{gs g:G}{as a:Act}{ws w W1:World}(hs:Good P own W1 n s.st gs as ws)(hz:Good P own W0 n z.st g a w){dr kill:List Nat}
  (hE:∀x,x<nv→x∉dr→x∉z.dE→look z.E x=look s.E x) (hM:∀id,id<s.c→id∉kill→id∉z.dM→look z.M id=look s.M id) {ks:Ks} {v:TLS F ks} (h:Oq Γ s dr s.c kill ks z=some v) :
  (∃g',Good P own W0 n (merge nv dr kill s ks v).st g' a w)∧(∀q∈(M6 s.E ks v s.c).2.1,s.c≤q.1∨q.1∈kill)∧(∀y,y∉keysOf ks→look (M6 s.E ks v s.c).1 y=none)∧s.c≤(M6 s.E ks v s.c).2.2:=by
 obtain⟨h1,h2,p,h3,rfl,h4,h5,h6,h7⟩:=Ao h
 obtain⟨k1,k2,k3,k4,k5⟩:=wO hΓ hs hz (dr:=dr) (kill:=kill) (λx hx hn=>hE x hx hn (λhd=>hn (h1 x hd))) (λid hi hn=>hM id hi hn (λhd=>by
  rcases p8 h2 hd with h | h
  ·omega
  ·exact hn h)) h3 h4 h5 h6 h7
 exact⟨k1,k3,k4,k5⟩
theorem Jh(hΓ : MN P Γ){c:Code}{f:TS F→{R:Type}→(Nat→TS F→Option R)→Option R}(hf:bA P own W0 n nv c f){dr:List Nat}{xs:List (Nat×Ks)}(hx:∀y∈PW xs,y∈dr) :
  bA P own W0 n nv c (λs R K=>(f (clean s) λe s'=>TW Γ s dr s.c (aT s dr) xs e s').bind λv=>Tp (λe ks x=>K e (merge nv dr (aT s dr) s ks x)) xs v):=by
 intro s R K r h g a w hg;rw[QcL]at h;obtain⟨v,hv,he⟩:=h;refine wp_mono (hf (clean s) _ v hv g a w hg) ?_;rintro e a' w' ⟨i,s',g',rfl,h2,h3,h4⟩;obtain⟨ks,x,hp,hsub,hel⟩:=uV h2;rw[hel]at he;obtain⟨⟨g2,k1⟩,k2,_⟩:=qz hΓ hg h4 (λx hx _ hn=>h3.e x hx hn) (λid hi _ hn=>h3.m id hi hn) (λy hy=>hx y (hsub y hy)) hp;exact⟨i,_,g2,rfl,he,k2,k1⟩
def LW(P:Program)(c:Code)(Q:Exit→Act→World→Prop)(a:Act)(w:World):Prop:=
 ∀b tl cs,∃e a' w',Q e a' w'∧Arrives P (lone (b.at a (.code c::.inLoop c::tl)) cs w) b tl cs e a' w'
theorem LW.loop{c:Code}{Q:Exit→Act→World→Prop}{a:Act}{w:World}(h:LW P c Q a w):(Code.loop c).wp P Q a w:=by intro b tl cs;obtain⟨e,a',w',hq,harr⟩:=h b tl cs;exact⟨e,a',w',hq,.of_steps (.one step_loop) harr⟩
theorem LW.mono{c:Code}{Q Q':Exit→Act→World→Prop}{a:Act}{w:World}(h:LW P c Q a w)(hq:∀e a w,Q e a w→Q' e a w):LW P c Q' a w:=by intro b tl cs;obtain⟨e,a',w',h1,harr⟩:=h b tl cs;exact⟨e,a',w',hq _ _ _ h1,harr⟩
theorem LW.round{c:Code}{Q:Exit→Act→World→Prop}{a:Act}{w:World}(h:c.wp P (Exit.then (λa' w'=>LW P c Q a' w') Q) a w):LW P c Q a w:=by
 intro b tl cs;obtain⟨e,a₁,w₁,hq,harr⟩:=h b (.inLoop c::tl) cs
 cases e with
 | normal=>obtain⟨e₂,a₂,w₂,hq₂,harr₂⟩:=hq b tl cs;exact⟨e₂,a₂,w₂,hq₂,.of_steps (Steps.trans harr (.one step_inLoop)) harr₂⟩
 | exit id=>exact⟨_,a₁,w₁,hq,.pass (x:=.inLoop c) rfl (λ_ _=>.inl (by simp)) harr⟩
 | goto l=>exact⟨_,a₁,w₁,hq,.pass (x:=.inLoop c) rfl (λ_ _=>.inl (by simp)) harr⟩
 | ret=>exact⟨_,a₁,w₁,hq,.pass (x:=.inLoop c) rfl (λ_ _=>.inl (by simp)) harr⟩
 | panic ch=>exact⟨_,a₁,w₁,hq,.pass (x:=.inLoop c) rfl (λ_ _=>.inl (by simp)) harr⟩
 | outgrown=>exact⟨_,a₁,w₁,hq,.pass (x:=.inLoop c) rfl (λ_ _=>.inl (by simp)) harr⟩
theorem z_{c:Code}{Q:Exit→Act→World→Prop}(I:Nat→Act→World→Prop)(round:∀k a w,I k a w→c.wp P (Exit.then (λa' w'=>∃j,j<k∧I j a' w') Q) a w){k:Nat}{a:Act}{w:World}(h₀ : I k a w):LW P c Q a w:=by
 intro b tl cs
 have key:∀n a w,I n a w→∃e a' w',Q e a' w'∧Arrives P (lone (b.at a (.code c::.inLoop c::tl)) cs w) b tl cs e a' w':=by
  intro n
  induction n using Nat.strongRecOn with
  | _ n ih=>
   intro a w hI;obtain⟨e,a₁,w₁,hq,harr⟩:=round n a w hI b (.inLoop c::tl) cs
   cases e with
   | normal=>obtain⟨j,hlt,hI₁⟩:=hq;obtain⟨e₂,a₂,w₂,hq₂,harr₂⟩:=ih j hlt a₁ w₁ hI₁;exact⟨e₂,a₂,w₂,hq₂,.of_steps (Steps.trans harr (.one step_inLoop)) harr₂⟩
   | exit id=>exact⟨_,a₁,w₁,hq,.pass (x:=.inLoop c) rfl (λ_ _=>.inl (by simp)) harr⟩
   | goto l=>exact⟨_,a₁,w₁,hq,.pass (x:=.inLoop c) rfl (λ_ _=>.inl (by simp)) harr⟩
   | ret=>exact⟨_,a₁,w₁,hq,.pass (x:=.inLoop c) rfl (λ_ _=>.inl (by simp)) harr⟩
   | panic ch=>exact⟨_,a₁,w₁,hq,.pass (x:=.inLoop c) rfl (λ_ _=>.inl (by simp)) harr⟩
   | outgrown=>exact⟨_,a₁,w₁,hq,.pass (x:=.inLoop c) rfl (λ_ _=>.inl (by simp)) harr⟩
 exact key k a w h₀
theorem sX{c:Code}{Q:Exit→Act→World→Prop}(I:Nat→Act→World→Prop)(round:∀k a w,I k a w→c.wp P (Exit.then (λa' w'=>∃j,j<k∧I j a' w') Q) a w){k:Nat}{a:Act}{w:World}(h₀ : I k a w):(Code.loop c).wp P Q a w:=
 LW.loop (z_ I round h₀)
def Al(P:Program)(own:Ow)(W0:World)(n nv:Nat)(c:Code)(f:TS F→{R:Type}→(Nat→TS F→Option R)→Option R):Prop:=
 ∀(s:TS F){R:Type}(K:Nat→TS F→Option R)(r:R),f s K=some r→∀(g:G)(a:Act)(w:World),Good P own W0 n s.st g a w→LW P c (YU P own W0 n nv s K r) a w
theorem A4(hΓ : MN P Γ){c:Code}{f:TS F→{R:Type}→(Nat→TS F→Option R)→Option R}(hf:bA P own W0 n nv c f){dr:List Nat}{ks:Ks}{xs:List (Nat×Ks)}(hx:∀y∈PW xs,y∈dr)(hk:∀y∈keysOf ks,y∈dr) :
  Al P own W0 n nv c (λs R K=>match Oq Γ s dr s.c (aT s dr) ks (clean s)with
  | none=>none
  | some t0=>(loop (λt:TLS F ks=>f (clean (merge nv dr (aT s dr) s ks t)) λe s'=>match e with
    | 0=>(match Oq Γ s dr s.c (aT s dr) ks s' with | some t'=>some (Sum.inl t') | none=>none)
    | e=>(match TW Γ s dr s.c (aT s dr) xs e s' with | some v=>some (Sum.inr v) | none=>none)) t0).bind λv=>Tp (λe ks x=>K e (merge nv dr (aT s dr) s ks x)) xs v):=by
 intro s R K r h g a w hg;dsimp only at h;split at h
 ·cases h
 ·rename_i t0 ht0;rw[QcL]at h;obtain⟨v,hv,he⟩:=h
  generalize hstep:(λt:TLS F ks=>f (clean (merge nv dr (aT s dr) s ks t)) λe s'=>match e with
    | 0=>(match Oq Γ s dr s.c (aT s dr) ks s' with | some t'=>some (Sum.inl t') | none=>none)
    | e=>(match TW Γ s dr s.c (aT s dr) xs e s' with | some v=>some (Sum.inr v) | none=>none))=step at hv
  obtain⟨m,hm⟩:=rr hv;obtain⟨⟨g0,b1⟩,_,b3⟩:=qz hΓ hg (z:=clean s) hg (λ_ _ _ _=>rfl) (λ_ _ _ _=>rfl) hk ht0;refine z_ (λm a w=>∃t,iter step m t=some v∧(∃g,Good P own W0 n (merge nv dr (aT s dr) s ks t).st g a w)∧Fr nv (clean s) (merge nv dr (aT s dr) (clean s) ks t)) ?_ (k:=m) ⟨t0,hm,⟨g0,b1⟩,b3⟩;rintro m a w ⟨t,hit,⟨g1,hg1⟩,hfr⟩
  cases m with
  | zero=>cases hit
  | succ m=>
   simp only[iter]at hit
   have hend:∀{z:TS F}{g':G}{a':Act}{w':World},Fr nv (clean (merge nv dr (aT s dr) s ks t)) z→Good P own W0 n z.st g' a' w'→∀{ks':Ks},(∀y∈keysOf ks',y∈dr)→∀{x:TLS F ks'},Oq Γ s dr s.c (aT s dr) ks' z=some x→
     (∃g',Good P own W0 n (merge nv dr (aT s dr) s ks' x).st g' a' w')∧Fr nv s (merge nv dr (aT s dr) s ks' x)∧Fr nv (clean s) (merge nv dr (aT s dr) (clean s) ks' x):=by
    intro z g' a' w' hz hgz ks' hk' x hp;refine qz hΓ hg hgz (λy hy hn hd=>?_) (λid hi hn hd=>?_) hk' hp
    ·exact(hz.e y hy hd).trans (hfr.e y hy (by simpa[merge,clean]using hn))
    ·exact(hz.m id (UK hi hfr.c) hd).trans (hfr.m id hi (by simpa[merge,clean]using hn))
   cases hst:step t with
   | none=>rw[hst]at hit;cases hit
   | some q=>
    have hst':=hst;rw[← hstep]at hst';refine wp_mono (hf (clean (merge nv dr (aT s dr) s ks t)) _ q hst' g1 a w hg1) ?_;rintro e a' w' ⟨i,z,g',rfl,h2,h3,h4⟩;rw[hst]at hit
    match i,h2 with
    | 0,h2=>
     simp only at h2;split at h2
     ·rename_i t' ht';cases h2;obtain⟨k1,_,k3⟩:=hend h3 h4 hk ht';exact⟨m,Qh_ m,t',hit,k1,k3⟩
     ·cases h2
    | i+1,h2=>
     simp only at h2;split at h2
     ·rename_i v' hv';cases h2;cases hit;obtain⟨ks',x,hp,hsub,hel⟩:=uV hv';rw[hel]at he;obtain⟨⟨g2,k1⟩,k2,_⟩:=hend h3 h4 (λy hy=>hx y (hsub y hy)) hp;have:YU P own W0 n nv s K r (exC (i+1)) a' w':=⟨i+1,_,g2,rfl,he,k2,k1⟩
      cases i with
      | zero=>exact this
      | succ i=>exact this
     ·cases h2
theorem jB(hΓ : MN P Γ){c:Code}{f:TS F→{R:Type}→(Nat→TS F→Option R)→Option R}(hf:bA P own W0 n nv c f){dr:List Nat}{ks:Ks}{xs:List (Nat×Ks)}(hx:∀y∈PW xs,y∈dr)(hk:∀y∈keysOf ks,y∈dr) :
  bA P own W0 n nv (.loop c) (λs R K=>match Oq Γ s dr s.c (aT s dr) ks (clean s)with
  | none=>none
  | some t0=>(loop (λt:TLS F ks=>f (clean (merge nv dr (aT s dr) s ks t)) λe s'=>match e with
    | 0=>(match Oq Γ s dr s.c (aT s dr) ks s' with | some t'=>some (Sum.inl t') | none=>none)
    | e=>(match TW Γ s dr s.c (aT s dr) xs e s' with | some v=>some (Sum.inr v) | none=>none)) t0).bind λv=>Tp (λe ks x=>K e (merge nv dr (aT s dr) s ks x)) xs v):=λs R K r h g a w hg=>LW.loop (A4 hΓ hf hx hk s K r h g a w hg)
theorem It{c:Code}{f:TS F→{R:Type}→(Nat→TS F→Option R)→Option R}(hf:bA P own W0 n nv c f){x ix ex:Nat}{dr:List Nat} :
  bA P own W0 n nv (.loop c) (λs R K=>match look s.E x with
  | some (.c (.Nl id))=>match look s.M id with
   | some (.row t l0)=>match look s.E ix with
    | some (.c (.im (.i .i64 n0)))=>if Nat.blt id s.c&&Nat.blt 0 ex then
      (loop (λq:List (ET F t)×Nat×Int=>f (clean (OI nv s id ix dr (.NQ t q.1 q.2.1) q.1.length q.2.2)) λe s'=>match e with
       | 0=>(match VI s.c id ix dr t s' with | some q'=>some (Sum.inl q') | none=>none)
       | e=>if Nat.beq e ex then(match VI s.c id ix dr t s' with | some q'=>some (Sum.inr q') | none=>none)else none) (l0,0,n0)).bind λv=>
        cond (Nat.ble v.1.length v.2.1) (K ex (OI nv s id ix dr (.Nb t v.1) v.1.length v.2.2)) none
     else none
    | _=>none
   | _=>none
  | _=>none):=by
 intro s R K r h g a w hg;dsimp only at h;split at h
 ·rename_i id hx;split at h
  ·rename_i t l0 hB;split at h
   ·rename_i n0 hi;obtain⟨hc,h⟩:=aQ h;simp only[Ng,cg,decide_eq_true_eq]at hc;rw[QcL]at h;obtain⟨v,hv,he⟩:=h
    generalize hstep:(λq:List (ET F t)×Nat×Int=>f (clean (OI nv s id ix dr (.NQ t q.1 q.2.1) q.1.length q.2.2)) λe s'=>match e with
       | 0=>(match VI s.c id ix dr t s' with | some q'=>some (Sum.inl q') | none=>none)
       | e=>if Nat.beq e ex then(match VI s.c id ix dr t s' with | some q'=>some (Sum.inr q') | none=>none)else none)=step at hv
    obtain⟨m,hm⟩:=rr hv
    have acB:∀(B:Mi F)(len:Nat)(nn:Int) y,y<nv→y∉ix::dr→look (OI nv s id ix dr B len nn).E y=look s.E y:=by
     intro B len nn y hy hn;simp only[OI]
     rw[ay,if_neg (by rw[ar (λe=>hn (by simp[e]))];simp),aJ (λy=>Nat.blt y nv&&!(Mh y (ix::dr)))]
     rw[if_pos];simp only[Ng,cg,decide_eq_true_eq,UJ];refine⟨hy,?_⟩
     cases hmm:Mh y (ix::dr)with
     | false=>rfl
     | true=>exact absurd (aN.1 hmm) hn
    have acA:∀(B:Mi F)(len:Nat)(nn:Int) y,y<s.c→y≠id→look (OI nv s id ix dr B len nn).M y=look s.M y:=by
     intro B len nn y hy hn;simp only[OI]
     rw[ay,if_neg (by rw[ar (λe=>hn e.symm)];simp),ay,if_neg (by rw[ar (by omega)];simp),aJ (λy=>!(Nat.beq id y)),if_pos]
     rw[ar (λe=>hn e.symm)];rfl
    have hstart:∃g0,Good P own W0 n (OI nv s id ix dr (.NQ t l0 0) l0.length n0).st g0 a w:=by
     obtain⟨g1,k1,k2,k3⟩:=Ih (c:=s.c) hg.mem hB (hg.dom s.c (by simp only[TS.st,cg];simp))
     have hz:Good P own W0 n (⟨s.E,R7 s.M [(id,none),(s.c,some (.NQ t l0 0)),(id,some (.Pv s.c l0.length))],s.c+1,s.dE,s.dM⟩:TS F).st g1 a w:=by
      refine⟨hg.Uk,hg.Tq,λx d h=>(hg.env x d h).le k2.le,?_,λy hy=>?_,λb hb=>k2.le.Lj b (hg.TD b hb),hg.NT.stp hg.mem k2,λy p hp=>k2.le.ids _ _ (hg.Sn y p hp)⟩
      ·have e:(⟨s.E,R7 s.M [(id,none),(s.c,some (.NQ t l0 0)),(id,some (.Pv s.c l0.length))],s.c+1,s.dE,s.dM⟩:TS F).st.m=Ms s.st.m [(id,none),(s.c,some (.NQ t l0 0)),(id,some (.Pv s.c l0.length))]:=by
        funext x
        simp only[TS.st];rw[jr]
       rw[e];exact k1
      ·have hy:Nat.blt y (s.c+1)=false:=hy;rw[cg]at hy
       have hy':¬ y<s.c+1:=by simpa using hy
       rw[k3 y (by omega)]
       exact hg.dom y (by simp only[TS.st,cg];simp;omega)
     have hMs:look (R7 s.M [(id,none),(s.c,some (.NQ t l0 0)),(id,some (.Pv s.c l0.length))]) s.c=some (.NQ t l0 0):=by
      rw[jr];simp only[Ms]
      rw[if_neg (by rw[ar (by omega)];simp),if_pos (YO _)]
     have hMi:look (R7 s.M [(id,none),(s.c,some (.NQ t l0 0)),(id,some (.Pv s.c l0.length))]) id=some (.Pv s.c l0.length):=by rw[jr];simp only[Ms];rw[if_pos (YO _)]
     refine tX (kk:=s.c) (B:=.NQ t l0 0) hg hz hc.1 (λ_ _ _=>rfl) hi (λy hy hn=>?_) hMs rfl (.inr (MO _)) (hz.mem.ok id _ hMi) (λg2 e1 e2=>?_) rfl
     ·show look (R7 s.M _) y=_;rw[jr,d8];simp only[Nr,Oj,NH,QfC,or_false,not_or]
      exact⟨hn,by omega,hn⟩
     ·obtain⟨pl,p1,p2⟩:=hz.mem.ok s.c _ hMs
      exact⟨pl,by rw[e1];exact p1,by rw[e2];exact p2⟩
    have ZY:∀{z:TS F}{g':G}{a':Act}{w':World} {q0 q:List (ET F t)×Nat×Int},Fr nv (clean (OI nv s id ix dr (.NQ t q0.1 q0.2.1) q0.1.length q0.2.2)) z→Good P own W0 n z.st g' a' w'→VI s.c id ix dr t z=some q→
      (∃g2,Good P own W0 n (OI nv s id ix dr (.NQ t q.1 q.2.1) q.1.length q.2.2).st g2 a' w')∧(q.1.length≤q.2.1→∃g2,Good P own W0 n (OI nv s id ix dr (.Nb t q.1) q.1.length q.2.2).st g2 a' w'):=by
     intro z g' a' w' q0 q hfr hz hq;unfold VI at hq;obtain⟨hq1,hq⟩:=aQ hq;simp only[Ng,Tg]at hq1;split at hq
     ·rename_i nn hnn;split at hq
      ·rename_i k len adK;split at hq
       ·rename_i t' l j V4;split at hq
        ·rename_i Wi;subst Wi;obtain⟨hkk,hq⟩:=aQ hq;have hkk:=Va hkk;cases hq
         have hS:N7 l.length (g'.ids id) (g'.ids (Tw (look z.M) 8 k)):=by
          have h1:N7 len (g'.ids id) (g'.ids k):=hz.mem.ok id _ adK
          have h2:N7 len (g'.ids id) (g'.ids (Tw (look z.M) 8 k)):=by
           rcases uq hz.mem (λ_ _ h=>h) 8 k with e | ⟨_,e⟩
           ·have e':Tw (look z.M) 8 k=k:=e;rw[e'];exact h1
           ·exact h1.trans e
          exact h2.len (hz.mem.ok _ _ V4)
         have hE:∀y,y<nv→y∉ix::dr→look z.E y=look s.E y:=by intro y hy hn;rw[hfr.e y hy (λhd=>hn (aN.1 (hq1.1 y hd)))];exact acB (.NQ _ q0.1 q0.2.1) q0.1.length q0.2.2 y hy hn
         have hM:∀y,y<s.c→y≠id→look z.M y=look s.M y:=by
          intro y hy hn
          rw[hfr.m y (by show y<s.c+1;omega) (λhd=>by
           have:=hq1.2 y hd;rw[UG]at this;rcases this with this | this
           ·have:=Va this;omega
           ·exact hn (Q_ this))]
          exact acA (.NQ _ q0.1 q0.2.1) q0.1.length q0.2.2 y hy hn
         refine⟨tX (kk:=Tw (look z.M) 8 k) hg hz hc.1 hE hnn hM V4 rfl (.inr hkk) hS (λg2 e1 e2=>?_) rfl,λhj=>tX (kk:=Tw (look z.M) 8 k) hg hz hc.1 hE hnn hM V4 rfl (.inr hkk) hS (λg2 e1 e2=>?_) rfl⟩
         ·obtain⟨pl,p1,p2⟩:=hz.mem.ok _ _ V4
          exact⟨pl,by rw[e1];exact p1,by rw[e2];exact p2⟩
         ·obtain⟨pl,p1,p2⟩:=FG (hz.mem.ok _ _ V4) hj
          exact⟨pl,by rw[e1];exact p1,by rw[e2];exact p2⟩
        ·cases hq
       ·cases hq
      ·cases hq
     ·cases hq
    refine sX (λm a w=>∃q,iter step m q=some v∧∃g,Good P own W0 n (OI nv s id ix dr (.NQ t q.1 q.2.1) q.1.length q.2.2).st g a w) ?_ (k:=m) ⟨(l0,0,n0),hm,hstart⟩;rintro m a w ⟨q,hit,g1,hg1⟩
    cases m with
    | zero=>cases hit
    | succ m=>
     simp only[iter]at hit
     cases hst:step q with
     | none=>rw[hst]at hit;cases hit
     | some qq=>
      have hst':=hst;rw[← hstep]at hst';refine wp_mono (hf (clean (OI nv s id ix dr (.NQ t q.1 q.2.1) q.1.length q.2.2)) _ qq hst' g1 a w hg1) ?_;rintro e a' w' ⟨i,z,g',rfl,h2,h3,h4⟩;rw[hst]at hit
      match i,h2 with
      | 0,h2=>
       simp only at h2;split at h2
       ·rename_i q' hq';cases h2;exact⟨m,Qh_ m,q',hit,(ZY h3 h4 hq').1⟩
       ·cases h2
      | i+1,h2=>
       simp only at h2;obtain⟨hie,h2⟩:=aQ h2;have hie:=Q_ hie;split at h2
       ·rename_i q' hq';cases h2;cases hit
        cases adH:Nat.ble v.1.length v.2.1 with
        | false=>rw[adH]at he;cases he
        | true=>
         rw[adH]at he;obtain⟨g2,k1⟩:=(ZY h3 h4 hq').2 (Va adH)
         have:YU P own W0 n nv s K r (exC (i+1)) a' w':=by
          refine⟨i+1,_,g2,rfl,by rw[hie];exact he,⟨λy hy hn=>?_,λy hy hn=>?_,QfR _,λy hy=>?_,λy hy=>?_⟩,k1⟩
          ·exact acB _ _ _ y hy (λhh=>hn (by
            show y∈ix::(dr++s.dE);rcases NH.1 hh with rfl | hh
            ·simp
            ·simp[hh]))
          ·exact acA _ _ _ y hy (λhh=>hn (by show y∈id::s.dM;simp[hh]))
          ·show y∈ix::(dr++s.dE);simp[hy]
          ·show y∈id::s.dM;simp[hy]
         cases i with
         | zero=>exact this
         | succ i=>exact this
       ·cases h2
   ·cases h
  ·cases h
 ·cases h
theorem KI{c:Code}{f:TS F→{R:Type}→(Nat→TS F→Option R)→Option R}(hf:bA P own W0 n nv c f)(k:Nat):bA P own W0 n nv (.loop c) (unr f k):=by
 intro s R K r h g a w hg;refine LW.loop ?_
 induction k generalizing s g a w with
 | zero=>simp[unr]at h
 | succ k ih=>
  simp only[unr]at h;refine LW.round (wp_mono (hf s _ r h g a w hg) ?_);rintro e a' w' ⟨i,s',g',rfl,h2,h3,h4⟩
  match i,h2 with
  | 0,h2=>exact(ih s' h2 g' a' w' h4).mono (λ_ _ _ hq=>hq.back h3)
  | 1,h2=>exact⟨1,s',g',rfl,h2,h3,h4⟩
  | i+2,h2=>exact⟨i+2,s',g',rfl,h2,h3,h4⟩
theorem Jg{c:Code}{f f2:TS F→{R:Type}→(Nat→TS F→Option R)→Option R}(hf:bA P own W0 n nv c f)(hf2:Al P own W0 n nv c f2) :
  bA P own W0 n nv (.loop c) (λs R K=>f s λe s'=>match e with | 0=>f2 s' K | e=>K e s'):=by
 intro s R K r h g a w hg;refine LW.loop (LW.round (wp_mono (hf s _ r h g a w hg) ?_));rintro e a' w' ⟨i,s',g',rfl,h2,h3,h4⟩
 match i,h2 with
 | 0,h2=>exact(hf2 s' K r h2 g' a' w' h4).mono (λ_ _ _ hq=>hq.back h3)
 | 1,h2=>exact⟨1,s',g',rfl,h2,h3,h4⟩
 | i+2,h2=>exact⟨i+2,s',g',rfl,h2,h3,h4⟩
theorem FA{τ α ω : Type}{t0:ω→Option τ}{step:ω→τ→α→Option τ}{l:List α}{r:τ}(h:rng t0 step l=some r):∃st,st=step∧∃t,(∀ob,t0 ob=some t)∧Sg st l l.length [] t r:=⟨step,rfl,Ge h⟩
theorem GQ{s s':St F}{g:G}{a a':Act}{w:World}(hg:Good P own W0 n s g a w)(hd:a'.defers = [])(hs:a'.tmps.size=n)(he:∀x d,s'.e x=some d→d = .c .any∨(s.e x=some d∧a'.tmps.getD x undef=a.tmps.getD x undef))
  (hm:∀id B,s'.m id=some B→s.m id=some B) (hu:∀id,s'.u id=false→s.u id=false):Good P own W0 n s' g a' w:=by
 refine⟨hd,hs,λx d h=>?_,hg.mem.sub hm,λid hi=>hg.dom id (hu id hi),hg.TD,hg.NT,hg.Sn⟩;rcases he x d h with rfl | ⟨h1,h2⟩
 ·exact .c .any
 ·rw[h2];exact hg.env x d h1
theorem AX{s:TS F}{g:G}{a:Act}{w:World}(hg:Good P own W0 n s.st g a w){d:Nat}(hd:d<n){v:Dat F}{x:Value}(hv:Me P g w v x)(dE dM:List Nat) :
  Good P own W0 n (⟨(d,v)::s.E,s.M,s.c,dE,dM⟩:TS F).st g (a.put (some d) x) w:=by
 refine⟨hg.Uk,by simp[Act.put,hg.Tq],?_,hg.mem,hg.dom,hg.TD,hg.NT,hg.Sn⟩
 intro y e hy;simp only[TS.st,ay]at hy;simp only[Act.put];rw[UM,QcN];by_cases hdy:d=y
 ·subst hdy;rw[bJ]at hy;simp only[if_true,NI]at hy;subst hy
  rw[if_pos rfl,if_pos (by rw[hg.Tq];exact hd)]
  exact hv
 ·rw[ar hdy]at hy;rw[if_neg hdy,← UM]
  exact hg.env y e (by simpa[TS.st]using hy)
theorem qD{a:Act}{d:Nat}(hd:d<a.tmps.size){x:Value}:(a.put (some d) x).eval (.tmp d)=x:=by simp only[Act.put,Act.eval];rw[UM,QcN,if_pos rfl,if_pos hd];rfl
theorem qY{ML:Array Oper}{i:Nat}{o:Oper}(hi:ML[i]? = some o)(hg:o.guard=none){v:Value}{w w':World}{a:Act}(hrun:(execOp a.eval o).run P w = .ok (.value v) w'){rest:List Nat}{Q:Exit→Act→World→Prop}(hn:wpOps P ML Q rest (a.put o.dst v) w'):wpOps P ML Q (i::rest) a w:=by
 rw[wpOps_cons];unfold wpOp;rw[hi];dsimp only
 rw[show Region.wanted o (yielded ML a.tmps)=true by simp[Region.wanted,hg],if_pos rfl]
 left;unfold Oper.wp;rw[hrun];exact hn
theorem yQ{s s':St F}{g:G}{a:Act}{w:World}(hg:Good P own W0 n s g a w){id b:Nat}{ob PK:Obj}(hB:s.m id=some (.it ob))(hid:g.ids id=some (some (b,0,0,[])))(he:s'.e=s.e)(hu:s'.u=s.u)
  (hm:∀x B,s'.m x=some B→if x=id then B = .it PK else s.m x=some B):Good P own W0 n s' g a (R_ w b PK):=by
 obtain⟨k1,k2⟩:=sA (ob:=PK) (B':=.it PK) hg.mem hB rfl (G.MI hid) (λhh _=>⟨b,hid,hh⟩)
 refine⟨hg.Uk,hg.Tq,λx d h=>(hg.env x d (by rw[← he];exact h)).le k2.le,k1.sub ?_,λid hi=>hg.dom id (by rw[← hu];exact hi),hg.TD,hg.NT.stp hg.mem k2,hg.Sn⟩
 intro x B hx;have:=hm x B hx;simp only[Ms];by_cases hxi:x=id
 ·subst hxi;rw[if_pos rfl]at this;rw[bJ,if_pos rfl,this]
 ·rw[if_neg hxi]at this;rw[ar (λe=>hxi e.symm)];simpa using this
def Ow.fix(own:Ow)(i1:Nat)(p1:Pl)(i2:Nat)(p2:Pl):Ow:=⟨own.o,own.i,λid=>if id=i1 then some p1 else if id=i2 then some p2 else own.nm id⟩
theorem Good.fix{s:St F}{g:G}{a:Act}{w:World}(hg:Good P own W0 n s g a w){i1 i2:Nat}{p1 p2:Pl}(h1:g.ids i1=some p1)(h2:g.ids i2=some p2):Good P (own.fix i1 p1 i2 p2) W0 n s g a w:=by
 refine⟨hg.Uk,hg.Tq,hg.env,⟨hg.mem.ok,hg.mem.S_,hg.mem.own,hg.mem.Lj,hg.mem.io,hg.mem.len⟩,hg.dom,hg.TD,⟨hg.NT.os,hg.NT.tape,hg.NT.output,hg.NT.size,hg.NT.fresh,hg.NT.block,hg.NT.drawn⟩,?_⟩;intro id p hp;simp only[Ow.fix]at hp;split at hp
 ·rename_i e;cases hp;rw[e];exact h1
 ·split at hp
  ·rename_i e;cases hp;rw[e];exact h2
  ·exact hg.Sn id p hp
theorem Good.af7{s:St F}{g:G}{a:Act}{w:World}{i1 i2:Nat}{p1 p2:Pl}(hg:Good P (own.fix i1 p1 i2 p2) W0 n s g a w)(h1:∀p,own.nm i1=some p→p=p1)(h2:∀p,own.nm i2=some p→p=p2):Good P own W0 n s g a w:=by
 refine⟨hg.Uk,hg.Tq,hg.env,⟨hg.mem.ok,hg.mem.S_,hg.mem.own,hg.mem.Lj,hg.mem.io,hg.mem.len⟩,hg.dom,hg.TD,⟨hg.NT.os,hg.NT.tape,hg.NT.output,hg.NT.size,hg.NT.fresh,hg.NT.block,hg.NT.drawn⟩,?_⟩;intro id p hp;refine hg.Sn id p ?_;simp only[Ow.fix];split
 ·rename_i e;rw[e]at hp;rw[h1 p hp]
 ·split
  ·rename_i e;rw[e]at hp;rw[h2 p hp]
  ·exact hp
theorem BL{PY O4 Rw:List Oper}{c2:Nat}{h:RgS}(hh:xG n PY O4 Rw c2=some h) :
  ∃(oa ob oc od oe:Oper),PY = [oa,ob]∧O4 = [oc,od]∧Rw=oe::h.rest∧(oa.dst=some h.b∧oa.op = .move (.tmp h.a)∧oa.guard=none)∧(ob.dst=some h.it∧ob.op = .range h.ty (.tmp h.b)∧ob.guard=none)∧
   (oc.dst=some h.d1∧oc.op = .next (.tmp h.it) false∧oc.guard=none)∧(od.dst=some c2∧od.op = .extract (.tmp h.d1) 0∧od.guard=none)∧(oe.dst=some h.d3∧oe.op = .entry (.tmp h.it)∧oe.guard=none)∧
   (h.b<n∧h.it<n∧h.d1<n∧c2<n∧h.d3<n)∧h.it≠h.b∧h.it≠h.d1∧h.it≠c2∧h.it≠h.d3∧c2≠h.d1:=by
 unfold xG at hh;split at hh
 ·obtain⟨hc,hh⟩:=aQ hh;cases hh;simp only[Ng,and_assoc,Nat.beq_eq,R6,UJ,Nat.beq_eq_true_eq]at hc;obtain⟨e1,e2,e3,e4,e5,l1,l2,l3,l4,l5,n1,n2,n3,n4,n5⟩:=hc;subst e1 e2 e3 e4 e5
  have hne:∀{x y:Nat},Nat.beq x y=false→x≠y:=λh e=>by rw[e,bJ]at h;cases h
  exact⟨_,_,_,_,_,rfl,rfl,rfl,⟨rfl,rfl,rfl⟩,⟨rfl,rfl,rfl⟩,⟨rfl,rfl,rfl⟩,⟨rfl,rfl,rfl⟩,⟨rfl,rfl,rfl⟩,⟨l1,l2,l3,l4,l5⟩,hne n1,hne n2,hne n3,hne n4,hne n5⟩
 ·cases hh
theorem wP{E E':List (Nat×Dat F)}:∀{ks:Ks}{x:TLS F ks}{c:Nat},(∀y∈keysOf ks,look E y=look E' y)→M6 E ks x c=M6 E' ks x c
 | [],x,c,h=>rfl
 | [k],x,c,h=>by
  simp only[M6,Sc]
  rw[h k.1 (by simp[keysOf])]
 | k::l::r,x,c,h=>by
  simp only[M6,Sc]
  rw[h k.1 (by simp[keysOf])]
  rw[wP (λy hy=>h y (by simp only[keysOf,Nr,NH]at hy ⊢;exact .inr hy))]
theorem tL:∀{l1 l2:List Nat},l1.Nodup→(∀x∈l1,x∈l2)→l1.length≤l2.length
 | [],_,_,_=>QeQ _
 | a::l,l2,hn,hs=>by
  have hn':=Un.1 hn
  have h:=tL (l2:=l2.erase a) hn'.2 (λx hx=>by
   have hxa:x≠a:=λe=>hn'.1 (e▸hx)
   exact(List.mem_erase_of_ne hxa).2 (hs x (by simp[hx])))
  have ha:=hs a (by simp)
  rw[QgN ha]at h;have:=QeR ha;simp only[P5];omega
theorem H2{N:Nat}{l:List Nat}(hn:l.Nodup)(hl:∀x∈l,x<N):l.length≤N:=by have h:=tL (l2:=List.range N) hn (λx hx=>QfZ.2 (hl x hx));simpa using h
structure Nm(nv:Nat)(s:TS F)(it:Nat)(kill:List Nat)(ks:Ks)(t:TLS F ks):Prop where
 m:∀q∈(M6 ((it,.c (.ptr s.c 0))::s.E) ks t (s.c+1)).2.1,s.c+1≤q.1∨q.1∈kill
 e:∀y,y∉keysOf ks→look (M6 ((it,.c (.ptr s.c 0))::s.E) ks t (s.c+1)).1 y=none
 c:s.c+1≤(M6 ((it,.c (.ptr s.c 0))::s.E) ks t (s.c+1)).2.2
theorem u3{c:Nat}{kill:List Nat}{id:Nat}(hid:id<c)(hnd:id∉kill):∀{l:List (Nat×Mi F)},(∀q∈l,c≤q.1∨q.1∈kill)→look l id=none:=by
 intro l
 induction l with
 | nil=>intro _;rfl
 | cons q l ih=>
  intro h;obtain⟨y,C⟩:=q
  have hne:y≠id:=by
   rintro rfl
   rcases h (y,C) (by simp)with h | h
   ·simp only at h;omega
   ·exact hnd h
  rw[ay,ar hne]
  exact ih (λq hq=>h q (by simp[hq]))
theorem Nm.Xp{s:TS F}{it:Nat}{kill dr:List Nat}{ks:Ks}{t:TLS F ks}(h:Nm nv s it kill ks t)(ob:Obj){id:Nat}(hi:id<s.c+1)(hk:id∉kill):look (merge nv dr kill (Sb s it ob) ks t).M id=look (Sb s it ob).M id:=by
 show look ((M6 ((it,.c (.ptr s.c 0))::s.E) ks t (s.c+1)).2.1++(Sb s it ob).M.filter λp=>!(Mh p.1 kill)) id=_;rw[bu,u3 hi hk h.m,VD,aJ (λy=>!(Mh y kill)),if_pos]
 cases hm:Mh id kill with
 | true=>exact absurd (aN.1 hm) hk
 | false=>rfl
theorem Nm.ZA{s:TS F}{it:Nat}{kill dr:List Nat}{ks:Ks}{t:TLS F ks}(h:Nm nv s it kill ks t)(ob:Obj){y:Nat}(hk:y∉keysOf ks):look (merge nv dr kill (Sb s it ob) ks t).E y=if Nat.blt y nv&&!(Mh y dr)then look ((it,.c (.ptr s.c 0))::s.E) y else none:=by show look ((M6 ((it,.c (.ptr s.c 0))::s.E) ks t (s.c+1)).1++((it,.c (.ptr s.c 0))::s.E).filter λp=>Nat.blt p.1 nv&&!(Mh p.1 dr)) y=_;rw[bu,h.e y hk,VD,aJ (λy=>Nat.blt y nv&&!(Mh y dr))]
theorem IM{s:St F}{g:G}{a a':Act}{w:World}(hg:Good P own W0 n s g a w)(hd:a'.defers = [])(hs:a'.tmps.size=n)(he:∀x d,s.e x=some d→a'.tmps.getD x undef=a.tmps.getD x undef):Good P own W0 n s g a' w:=
 ⟨hd,hs,λx d h=>by rw[he x d h];exact hg.env x d h,hg.mem,hg.dom,hg.TD,hg.NT,hg.Sn⟩
theorem Vg{a:Act}{d x:Nat}{v:Value}:(a.put (some d) v).tmps.getD x undef=if d=x then(if d<a.tmps.size then v else undef)else a.tmps.getD x undef:=by
 simp only[Act.put];rw[UM,QcN];by_cases h:d=x
 ·rw[if_pos h,if_pos h];by_cases h2:d<a.tmps.size
  ·rw[if_pos h2,if_pos h2];rfl
  ·rw[if_neg h2,if_neg h2];rfl
 ·rw[if_neg h,if_neg h,← UM]
theorem HB(hT:Mf P T)(hΓ : MN P Γ){id0 id1 id2 i j c2:Nat}{PY O4 Rw:Array Oper}{body:Code}{f:TS F→{R:Type}→(Nat→TS F→Option R)→Option R}
  (hf:∀own:Ow,bA P own W0 n nv body f) {ks:Ks} {dr:List Nat} (hk:∀y∈keysOf ks,y∈dr) :
  bA P own W0 n nv (.seq (.region id0 PY false) (.block i (.loop (.seq (.region id1 O4 false) (.seq (.cond (.tmp c2) .skip (.exit i)) (.block j (.seq (.region id2 Rw false) body))))))) (λs R K=>zC T Γ nv n f PY.toList O4.toList Rw.toList j c2 ks dr s K):=by
 intro s R K r h g a w hg;dsimp only at h;unfold zC at h;split at h
 ·cases h
 rename_i hs hsh;split at h
 rotate_left
 ·cases h
 rename_i mid ha;split at h
 rotate_left
 ·cases h
 rename_i tt l hmid;split at h
 ·cases h
 rename_i mty hmt;obtain⟨hc,h⟩:=aQ h;rw[QcL]at h;obtain⟨v,hv,hK⟩:=h;obtain⟨step,hstep,t0,ht0,ao1⟩:=FA hv;generalize akR:aT s dr=kill at *;simp only[Ng,and_assoc,UJ,R6]at hc;obtain⟨c1,c2',c3,c4,c5,c6,c7,c8⟩:=hc;obtain⟨oa,ob,oc,od,oe,e0,e1,e2,⟨a1,a2,a3⟩,⟨b1,b2,b3⟩,⟨n1,n2,n3⟩,⟨x1,x2,x3⟩,⟨y1,y2,y3⟩,⟨l1,l2,l3,l4,l5⟩,m1,m2,m3,m4,m5⟩:=BL hsh
 have Xn:∀{x:Nat}{l:List Nat},Mh x l=false→x∉l:=λh hm=>by rw[aN.2 hm]at h;cases h
 have c2n:=Xn c2';have c3n:=Xn c3;have c5n:=Xn c5;have adA:hs.it∉keysOf ks:=λhh=>c5n (hk _ hh)
 have hdrop:∀x∈[hs.b,hs.d1,c2,hs.d3],(Nat.blt x nv&&!(Mh x dr))=false:=by
  intro x hx;have:=Tg.1 c6 x hx;simp only[UG]at this;rcases this with h1 | h1
  ·have:=Va h1
   rw[show Nat.blt x nv=false by rw[cg,decide_eq_false_iff_not];omega]
   rfl
  ·rw[h1];simp
 have acr:∀x∈[hs.b,hs.d1,c2],x∉keysOf ks:=by
  intro x hx;have:=Tg.1 c7 x hx
  exact Xn (by simpa using this)
 obtain⟨bm,k1,k2,es,k3,k4,k5⟩:=r7 hg.mem hmid;obtain⟨bm',cm',k6,hval⟩:=rT (bj (hg.env _ _ ha));rw[k2]at k6;cases k6;obtain⟨ti,hti,hde,_⟩:=vJ (k:=mty.1) (v:=mty.2.1) (tt:=mty.2.2) hmt;have hu:=hT.und _ _ hti;rw[hde]at hu
 have hfr:g.ids s.c=none:=hg.dom s.c (by simp only[TS.st,cg,decide_eq_false_iff_not];omega)
 generalize hbit:w.heap.size=bit
 obtain⟨q1,q2⟩:=lN (rm:=[]) (pl:=some (w.heap.size,0,0,[])) (B:=Mi.it (.mapIter (some bm) es.length #[] es.length)) hg.mem hfr (w':=w.alloc (.mapIter (some bm) es.length #[] es.length)) (by
  intro b0 c e b hb;cases e;simp only[MP,Ld]at hb;subst hb
  exact .inl ⟨MO _,by rw[World.size_alloc];omega,hg.NT.fresh _ hg.NT.size⟩) rfl rfl rfl (MO _) (by rw[World.size_alloc];omega) (λb hb _=>heap_alloc_old w _ hb) (λg' hle hi=>⟨_,hi,heap_alloc_new w _⟩)
 rw[hbit]at q1 q2;generalize hg1:g.name s.c (some (bit,0,0,[]))=g1 at q1 q2
 have adE:g1.ids s.c=some (some (bit,0,0,[])):=by rw[← hg1];exact bD _ _ _
 generalize hN:es.length=N at *
 have adW:Good P own W0 n (Sb s hs.it (.mapIter (some bm) N #[] N)).st g1 (a.put (some hs.it) (.pointer (some ⟨bit,0,none⟩))) (w.alloc (.mapIter (some bm) N #[] N)):=by
  refine⟨hg.Uk,by simp[Act.put,hg.Tq],?_,q1.sub ?_,?_,λb hb=>q2.le.Lj b (hg.TD b hb),hg.NT.stp hg.mem q2,λid p hp=>q2.le.ids id p (hg.Sn id p hp)⟩
  ·intro y e hy;simp only[TS.st,Sb,ay]at hy;rw[Vg];by_cases hdy:hs.it=y
   ·rw[if_pos hdy,if_pos (by rw[hg.Tq];exact l2)]
    rw[hdy,bJ]at hy;simp only[if_true,NI]at hy;subst hy;exact .c (.ptr adE)
   ·rw[if_neg hdy];rw[ar hdy]at hy
    exact(hg.env y e (by simpa[TS.st]using hy)).le q2.le
  ·intro id B hB;simp only[TS.st,Sb,ay]at hB;simp only[Oj,PX,Ms];exact hB
  ·intro id hid;simp only[TS.st,Sb,cg,decide_eq_false_iff_not]at hid
   rw[← hg1,cF _ _ _ (by omega)]
   exact hg.dom id (by simp only[TS.st,cg,decide_eq_false_iff_not];omega)
 have Vj:g1.ids mid=some (some (bm,0,0,[])):=q2.le.ids mid _ k2;have WV:=adW.fix Vj adE;generalize hown:own.fix mid (some (bm,0,0,[])) s.c (some (bit,0,0,[]))=own' at WV
 have ao7:own'.nm mid=some (some (bm,0,0,[])):=by rw[← hown];simp[Ow.fix]
 have ao6:own'.nm s.c=some (some (bit,0,0,[])):=by
  rw[← hown];simp only[Ow.fix];rw[if_neg (by omega)];simp
 have adQ:∀{z:St F}{g':G}{a':Act}{w':World},Good P own' W0 n z g' a' w'→Good P own W0 n z g' a' w':=by
  intro z g' a' w' hh;rw[← hown]at hh;refine hh.af7 (λp hp=>?_) (λp hp=>?_)
  ·have:=hg.Sn _ _ hp;rw[k2]at this;exact(Option.some.inj this).symm
  ·have:=hg.Sn _ _ hp;rw[hfr]at this;cases this
 generalize hw1:w.alloc (.mapIter (some bm) N #[] N)=w1 at *;generalize haB:a.put (some hs.it) (.pointer (some ⟨bit,0,none⟩))=aB at *
 have hbase:∀PK,Good P own' W0 n (Sb s hs.it PK).st g1 aB (R_ w1 bit PK):=by
  intro PK
  refine yQ (s:=(Sb s hs.it (.mapIter (some bm) N #[] N)).st) WV (id:=s.c) (ob:=.mapIter (some bm) N #[] N) (by simp[TS.st,Sb,ay]) adE rfl rfl ?_
  intro x B hx;simp only[TS.st,Sb,ay]at hx ⊢;by_cases hxc:x=s.c
  ·subst hxc;rw[if_pos rfl];rw[bJ]at hx;simpa using hx.symm
  ·rw[if_neg hxc];rw[ar (λe=>hxc e.symm)]at hx ⊢;exact hx
 have aco:∀{PK:Obj}{z:TS F}{t:TLS F ks}{g':G} {a':Act} {w':World},Good P own' W0 n z.st g' a' w'→(∀x,x<nv→x∉dr→x∉z.dE→look z.E x=look ((hs.it,.c (.ptr s.c 0))::s.E) x)→
   (∀id,id<s.c+1→id∉kill→id∉z.dM→look z.M id=look (Sb s hs.it PK).M id)→Oq Γ (Sb s hs.it PK) dr (s.c+1) kill ks z=some t→
   Nm nv s hs.it kill ks t∧∃g'',Good P own' W0 n (merge nv dr kill (Sb s hs.it PK) ks t).st g'' a' w':=by
  intro PK z t g' a' w' hz hE hM hp;obtain⟨p1,p2,p3,p4⟩:=xl hΓ (hbase PK) hz hE hM hp;exact⟨⟨p2,p3,p4⟩,p1⟩
 obtain⟨hn0,g0,hg0⟩:=aco (PK:=.mapIter (some bm) N #[] N) WV (λ_ _ _ _=>rfl) (λ_ _ _ _=>rfl) (ht0 _);obtain rfl:PY = #[oa,ob]:=Array.toList_inj.1 e0;obtain rfl:O4 = #[oc,od]:=Array.toList_inj.1 e1;refine wp_seq (wp_region ?_)
 refine qY (o:=oa) (i:=0) (rest:=[1]) rfl a3 (v:=a.eval (.tmp hs.a)) (w':=w) (by simp[execOp,a2]) ?_
 have hmv:(a.put oa.dst (a.eval (.tmp hs.a))).eval (.tmp hs.b) = .map (some bm):=by
  rw[a1,qD (by rw[hg.Tq];exact l1)]
  exact hval
 refine qY (o:=ob) (i:=1) (rest:=[]) rfl b3 (v:=.pointer (some ⟨bit,0,none⟩)) (w':=w1) ?_ ?_
 ·have hrr:=run_range_map (P:=P) w hs.ty mty.1 mty.2.1 bm ⟨es⟩ N hu k3;rw[hbit,hw1]at hrr;simp[execOp,b2,hmv,OB,hrr,Result.andThen]
 simp only[wpOps,Exit.then]
 refine wp_block (sX (λm a w=>∃(t:TLS F ks)(seen:List Nat),Sg step l m seen t v∧seen.Nodup∧(∀x∈seen,x<N)∧m+seen.length=N∧Nm nv s hs.it kill ks t∧
   ∃g',Good P own' W0 n (merge nv dr kill (Sb s hs.it (.mapIter (some bm) N ⟨seen⟩ N)) ks t).st g' a w) ?_ (k:=N) ?_)
 rotate_left
 ·refine⟨t0,[],by rw[k4];exact ao1,QeB,by simp,by simp,hn0,g0,IM hg0 ?_ ?_ ?_⟩
  ·rw[a1,b1];exact hg.Uk
  ·rw[a1,b1];simp[Act.put,hg.Tq]
  ·intro x d hx;rw[a1,b1,← haB,Vg,Vg,Vg]
   have hxb:hs.b≠x:=by
    rintro rfl;have hx:look (merge nv dr kill (Sb s hs.it (.mapIter (some bm) N #[] N)) ks t0).E hs.b=some d:=hx
    rw[hn0.ZA _ (acr _ (by simp)),hdrop _ (by simp)]at hx
    cases hx
   rw[if_neg hxb];simp[Act.put]
 intro m a w hI;obtain⟨t,seen,hr,hnd,hlt,hlen,hnm,g',hg'⟩:=hI
 have hM1:look (merge nv dr kill (Sb s hs.it (.mapIter (some bm) N ⟨seen⟩ N)) ks t).M s.c=some (.it (.mapIter (some bm) N ⟨seen⟩ N)):=by
  rw[hnm.Xp _ (by omega) c3n]
  simp[Sb,ay]
 have hM2:look (merge nv dr kill (Sb s hs.it (.mapIter (some bm) N ⟨seen⟩ N)) ks t).M mid=some (.mp tt l):=by
  rw[hnm.Xp _ (by omega) c2n]
  simp only[Sb,ay]
  rw[ar (by omega)]
  simpa using hmid
 have hE1:look (merge nv dr kill (Sb s hs.it (.mapIter (some bm) N ⟨seen⟩ N)) ks t).E hs.it=some (.c (.ptr s.c 0)):=by rw[hnm.ZA _ adA,if_pos,ay,bJ,if_pos rfl];rw[R6.mpr c4,c5];rfl
 have Vi:=hg'.Sn _ _ ao6;have apf:=hg'.Sn _ _ ao7;obtain⟨bb,hb1,hh⟩:=hg'.mem.ok s.c _ hM1;rw[Vi]at hb1;cases hb1;obtain⟨bm2,_,j2,es2,j3,j4,j5⟩:=r7 hg'.mem hM2;rw[apf]at j2;cases j2
 have ads:a.eval (.tmp hs.it) = .pointer (some ⟨bit,0,none⟩):=by obtain⟨b',c',e1,e2⟩:=ci (hg'.env _ _ hE1);rw[Vi]at e1;cases e1;exact e2
 have apn:es2.length=N:=by omega
 have hborn:∀(k:Nat)(e:MapEntry),es2[k]? = some e→e.born=k∧k<N:=by
  intro k e hke;have hk2:k<es2.length:=(Lb.1 hke).1
  have hk3:k<l.length:=by omega
  exact⟨(j5 k _ e (La hk3) hke).1,by omega⟩
 have hold:∀x∈(⟨es2⟩:Array MapEntry).toList,x.born<N:=by intro x hx;obtain⟨k,hk2⟩:=Ye hx;obtain⟨p1,p2⟩:=hborn k x hk2;omega
 have hbn:es2.map (·.born)=List.range N:=by
  apply QeI;intro k;rw[Rf];by_cases hkN:k<N
  ·rw[La (by omega),La (by simpa using hkN)]
   simp only[Ya,List.getElem_range]
   rw[(hborn k _ (La (by omega))).1]
  ·rw[QeU (by omega),QeU (by simp;omega)]
   rfl
 have hsz0:a.tmps.size=n:=hg'.Tq;rcases run_next_at (P:=P) w oc.type bit bm N N ⟨seen⟩ ⟨es2⟩ es2.length hh j3 hold (MO _)with⟨z1,z2⟩ | ⟨e,he,w2,hw2,hrun⟩
 ·refine wp_seq (wp_region ?_)
  refine qY (o:=oc) (i:=0) (rest:=[1]) rfl n3 (v:=.tuple #[.bool false]) (w':=w) (by simp[execOp,n2,ads,OB,z2,Result.andThen]) ?_
  have hex:(a.put oc.dst (.tuple #[.bool false])).eval (.tmp hs.d1) = .tuple #[.bool false]:=by
   rw[n1,qD (by rw[hsz0];exact l3)]
  refine qY (o:=od) (i:=1) (rest:=[]) rfl x3 (v:=.bool false) (w':=w) (by simp[execOp,x2,hex,Instr.extract]) ?_
  simp only[wpOps,Exit.then]
  refine wp_seq (wp_cond_split (t:=false) ?_ (λe=>by cases e) (λ_=>wp_exit ?_))
  ·rw[x1,qD (by rw[n1];simpa[Act.put,hsz0]using l4)]
  simp only[Exit.then,Exit.inBlock,if_true]
  have hm0:m=0:=by
   have hsub:∀k∈List.range N,k∈seen:=by
    intro k hkN;rw[QfZ]at hkN
    have hk2:k<es2.length:=by omega
    have h0:leftOf ⟨es2⟩ ⟨seen⟩ = #[]:=QfN z1;unfold leftOf at h0;rw[Array.filter_eq_empty_iff]at h0
    have:=h0 es2[k] (by simp)
    rw[(hborn k _ (La hk2)).1]at this;simpa using this
   have:=tL QgZ hsub;simp at this;omega
  subst hm0;have htv:t=v:=hr;subst htv
  have U3:M6 ((hs.it,.c .any)::s.E) ks t (s.c+1)=M6 ((hs.it,.c (.ptr s.c 0))::s.E) ks t (s.c+1):=wP (λy hy=>by
   rw[ay,ay,ar (λ(e:hs.it=y)=>adA (by rw[e];exact hy))];rfl)
  refine⟨0,_,g',rfl,hK,?_,?_⟩
  ·refine⟨?_,?_,?_,λx hx=>?_,λx hx=>?_⟩
   ·intro x hx hn;have hn:x∉dr++hs.it::s.dE:=hn;simp only[N_,NH,not_or]at hn;show look ((M6 ((hs.it,.c .any)::s.E) ks t (s.c+1)).1++((hs.it,.c .any)::s.E).filter λp=>Nat.blt p.1 nv&&!(Mh p.1 dr)) x=_;rw[U3,bu,hnm.e x (λh=>hn.1 (hk x h)),VD,aJ (λy=>Nat.blt y nv&&!(Mh y dr)),if_pos,ay,ar (λe=>hn.2.1 e.symm)]
    ·rfl
    ·rw[R6.mpr hx]
     cases hm:Mh x dr with
     | true=>exact absurd (aN.1 hm) hn.1
     | false=>rfl
   ·intro id hid hn;have hn:id∉kill++s.dM:=hn;simp only[N_,not_or]at hn;show look ((M6 ((hs.it,.c .any)::s.E) ks t (s.c+1)).2.1++s.M.filter λp=>!(Mh p.1 kill)) id=_;rw[U3,bu,u3 (Nat.lt_succ_of_lt hid) hn.1 hnm.m,VD,aJ (λy=>!(Mh y kill)),if_pos]
    cases hm:Mh id kill with
    | true=>exact absurd (aN.1 hm) hn.1
    | false=>rfl
   ·show s.c≤(M6 ((hs.it,.c .any)::s.E) ks t (s.c+1)).2.2;rw[U3];exact P6 (QfR _) hnm.c
   ·show x∈dr++hs.it::s.dE;simp[hx]
   ·show x∈kill++s.dM;simp[hx]
  ·refine GQ (adQ hg') ?_ ?_ ?_ ?_ ?_
   ·rw[n1,x1];exact hg'.Uk
   ·rw[n1,x1];simp[Act.put,hsz0]
   ·intro x d hx;have hx:look ((M6 ((hs.it,.c .any)::s.E) ks t (s.c+1)).1++((hs.it,.c .any)::s.E).filter λp=>Nat.blt p.1 nv&&!(Mh p.1 dr)) x=some d:=hx;rw[U3,bu,aJ (λy=>Nat.blt y nv&&!(Mh y dr))]at hx;by_cases hxi:x=hs.it
    ·subst hxi
     rw[hnm.e _ adA,VD,if_pos (by rw[R6.mpr c4,c5];rfl),ay,bJ,if_pos rfl]at hx
     cases hx;exact .inl rfl
    ·right;rw[ay,ar (λe=>hxi e.symm)]at hx
     have hne:∀y∈[hs.b,hs.d1,c2],y≠x:=by
      rintro y hy rfl
      rw[hnm.e _ (acr _ hy),VD,hdrop _ (by simp only[NH,QfC,or_false]at hy ⊢;rcases hy with h | h | h<;>simp[h])]at hx
      cases hx
     refine⟨?_,?_⟩
     ·show look ((M6 ((hs.it,.c (.ptr s.c 0))::s.E) ks t (s.c+1)).1++((hs.it,.c (.ptr s.c 0))::s.E).filter λp=>Nat.blt p.1 nv&&!(Mh p.1 dr)) x=some d;rw[bu,aJ (λy=>Nat.blt y nv&&!(Mh y dr)),ay,ar (λe=>hxi e.symm)];exact hx
     ·rw[n1,x1,Vg,Vg,if_neg (hne c2 (by simp)),if_neg (hne hs.d1 (by simp))]
   ·intro id B hB;have hB:look ((M6 ((hs.it,.c .any)::s.E) ks t (s.c+1)).2.1++s.M.filter λp=>!(Mh p.1 kill)) id=some B:=hB;show look ((M6 ((hs.it,.c (.ptr s.c 0))::s.E) ks t (s.c+1)).2.1++((s.c,.it (.mapIter (some bm) N ⟨seen⟩ N))::s.M).filter λp=>!(Mh p.1 kill)) id=some B;rw[U3,bu,aJ (λy=>!(Mh y kill))]at hB;rw[bu,aJ (λy=>!(Mh y kill)),ay];by_cases hic:id=s.c
    ·subst hic;rw[u3 (Qh_ _) c3n hnm.m,VD]at hB;split at hB
     ·exact absurd hfr (hg.mem.ok _ B hB).named
     ·cases hB
    ·rw[ar (λe=>hic e.symm)];exact hB
   ·intro id hid;have hid:Nat.blt id (M6 ((hs.it,.c .any)::s.E) ks t (s.c+1)).2.2=false:=hid;rw[U3]at hid;exact hid
 ·have he':e∈es2∧e.born∉seen:=by
   unfold leftOf at he;simpa using he
  obtain⟨k,hke⟩:=Ye he'.1;obtain⟨hbk,hkN⟩:=hborn k e hke;have hkn:k∉seen:=hbk▸he'.2
  have hkl:k<l.length:=by omega
  cases m with
  | zero=>
   have:=H2 (N:=N) (l:=k::seen) (Un.2 ⟨hkn,hnd⟩) (λx hx=>by
    rcases NH.1 hx with rfl | hx
    ·exact hkN
    ·exact hlt x hx)
   simp at this;omega
  | succ m=>
   obtain⟨t',hs1,hs2⟩:=hr k l[k] hkn (La hkl);obtain⟨_,kd0,afj,r1,r2,r3⟩:=j5 k l[k] e (La hkl) hke
   have hob:Obj.mapIter (some bm) N ((⟨seen⟩:Array Nat).push e.born) es2.length = .mapIter (some bm) N ⟨seen++[k]⟩ N:=by rw[hbk,apn];simp
   rw[hob]at hrun;generalize afR:Obj.mapIter (some bm) N ⟨seen++[k]⟩ N=PK at hrun;have h1:=hs1 PK;rw[hstep]at h1;simp only[r1]at h1;split at h1
   ·rename_i kd _ d hkd hd;cases hkd
    have ado:Good P own' W0 n (merge nv dr kill (Sb s hs.it (.mapIter (some bm) N ⟨seen⟩ N)) ks t).st g' a w2:=by
     rcases hw2 with rfl | rfl
     ·exact hg'
     ·exact uz hg'
    have hheap:w2.heap=w.heap:=by rcases hw2 with rfl | rfl<;>rfl
    have hg3:Good P own' W0 n (merge nv dr kill (Sb s hs.it PK) ks t).st g' a (R_ w2 bit PK):=by
     refine yQ ado (id:=s.c) hM1 Vi rfl rfl ?_;intro x B hx;by_cases hxc:x=s.c
     ·subst hxc;rw[if_pos rfl];have hx:look (merge nv dr kill (Sb s hs.it PK) ks t).M s.c=some B:=hx
      rw[hnm.Xp _ (by omega) c3n]at hx
      simpa[Sb,ay]using hx.symm
     ·rw[if_neg hxc];have hx:look ((M6 ((hs.it,.c (.ptr s.c 0))::s.E) ks t (s.c+1)).2.1++((s.c,.it PK)::s.M).filter λp=>!(Mh p.1 kill)) x=some B:=hx;show look ((M6 ((hs.it,.c (.ptr s.c 0))::s.E) ks t (s.c+1)).2.1++((s.c,.it (.mapIter (some bm) N ⟨seen⟩ N))::s.M).filter λp=>!(Mh p.1 kill)) x=some B;rw[bu,aJ (λy=>!(Mh y kill)),ay,ar (λe=>hxc e.symm)]at hx ⊢;exact hx
    have hne:bm≠bit:=by rintro rfl;rw[hh]at j3;cases j3
    have apv:(R_ w2 bit PK).heap[bm]? = some (.map ⟨es2⟩ es2.length):=by rw[ui _ _ _ hne,hheap];exact j3
    have ak1:(R_ w2 bit PK).heap[bit]? = some PK:=by refine zS _ _ _ ?_;rw[hheap];exact(Ws.1 hh).1
    have hrep:Me P g' (R_ w2 bit PK) d e.val:=by
     have:=vU (P:=P) (g:=g') (w:=w) hd r1 r3
     have hle:Le g' w g' (R_ w2 bit PK):=by
      obtain⟨_,kk⟩:=sA (ob:=PK) (B':=.it PK) ado.mem hM1 rfl (G.MI Vi) (λhh _=>⟨bit,Vi,hh⟩)
      exact⟨kk.le.ids,kk.le.Lj,λb hb=>(kk.le.heap b hb).trans (by rw[hheap]),kk.le.len,λb hb=>(kk.le.Xw b hb).trans (by rw[hheap])⟩
     exact this.le hle
    have hrk:Md (R_ w2 bit PK) g'.Lj kd0 e.key:=by
     obtain⟨_,kk⟩:=sA (ob:=PK) (B':=.it PK) ado.mem hM1 rfl (G.MI Vi) (λhh _=>⟨bit,Vi,hh⟩)
     exact r2.mono (λ_ h=>h) (λb hb=>(kk.le.heap b hb).trans (by rw[hheap]))
    have hr3:Me P g' (R_ w2 bit PK) (.Pt [.c (.im (.b true)),.c (.im kd0),d]) (.tuple #[.bool true,e.key,e.val]):=by
     refine .Pt rfl λj0 d0 x0 a0 b0=>?_
     match j0 with
     | 0=>cases a0;cases b0;exact .c (.im (.b _))
     | 1=>cases a0;cases b0;exact .c (.im hrk)
     | 2=>cases a0;cases b0;exact hrep
     | j0+3=>simp at a0
    have hr2:Me P g' (R_ w2 bit PK) (.Pt [.c (.im kd0),d]) (.tuple #[e.key,e.val]):=by
     refine .Pt rfl λj0 d0 x0 a0 b0=>?_
     match j0 with
     | 0=>cases a0;cases b0;exact .c (.im hrk)
     | 1=>cases a0;cases b0;exact hrep
     | j0+2=>simp at a0
    have hg4:=AX hg3 l3 hr3 [] [];have hg5:=AX hg4 l4 (v:=.c (.im (.b true))) (x:=.bool true) (.c (.im (.b _))) [] [];have hg6:=AX hg5 l5 hr2 [] [];refine wp_seq (wp_region ?_)
    refine qY (o:=oc) (i:=0) (rest:=[1]) rfl n3 (v:=.tuple #[.bool true,e.key,e.val]) (w':=R_ w2 bit PK) (by simp[execOp,n2,ads,OB,hrun,Result.andThen];rfl) ?_
    have hex:(a.put oc.dst (.tuple #[.bool true,e.key,e.val])).eval (.tmp hs.d1) = .tuple #[.bool true,e.key,e.val]:=by
     rw[n1,qD (by rw[hsz0];exact l3)]
    refine qY (o:=od) (i:=1) (rest:=[]) rfl x3 (v:=.bool true) (w':=R_ w2 bit PK) (by simp[execOp,x2,hex,Instr.extract]) ?_
    simp only[wpOps,Exit.then]
    refine wp_seq (wp_cond_split (t:=true) ?_ (λ_=>wp_skip ?_) (λe=>by cases e))
    ·rw[x1,qD (by rw[n1];simpa[Act.put,hsz0]using l4)]
    simp only[Exit.then];obtain⟨z,tr,h2,t1,t2,t3,t4,t5⟩:=qC hT hΓ h1;obtain⟨E',h3,h4⟩:=n8 h2
    have hsz:Rw.size=tr.length+1:=by rw[← WA,e2,← t1];simp
    refine wp_block (wp_seq (wp_region ?_));rw[hsz,QeY,List.range'_succ]
    have ape:((a.put oc.dst (.tuple #[.bool true,e.key,e.val])).put od.dst (.bool true)).eval (.tmp hs.it) = .pointer (some ⟨bit,0,none⟩):=by rw[n1,x1];show(Array.getD _ _ _)=_;rw[Vg,Vg,if_neg (λe=>m3 e.symm),if_neg (λe=>m2 e.symm)];exact ads
    refine qY (o:=oe) (i:=0) (rest:=List.range' (0+1) tr.length) (by rw[← QdT,e2];rfl) y3 (v:=.tuple #[e.key,e.val]) (w':=R_ w2 bit PK) ?_ ?_
    ·have:=run_entry_at (P:=P) (R_ w2 bit PK) bit bm N ⟨seen⟩ ⟨es2⟩ es2.length e (by rw[ak1,← afR,← hob]) apv (by simpa using he'.1) (by rw[hbn];exact QgZ)
     simp[execOp,y2,ape,OB,this,Result.andThen]
    rw[n1,x1,y1];refine qg (ML:=Rw) rfl tr (0+1) _ z.st (λj0=>?_) t2 t3 hg6 ?_
    ·rw[← QdT,e2,← Rf,t1,OY,QfB,QdK]
    intro g5 a5 w5 apl;simp only[Exit.then];refine wp_mono (hf own' _ _ t' h3 g5 a5 w5 (apl.sub ?_ (λ_ _ h=>h) (λ_ h=>h))) ?_
    ·intro x d0 hx;simp only[TS.st]at hx ⊢;rw[h4]at hx;split at hx
     ·exact hx
     ·cases hx
    rintro ee a6 w6 ⟨i',s',g6,rfl,h5,h6,h7⟩;obtain⟨hcond,h5⟩:=aQ h5
    have hne2:∀{x:Nat},x<nv→x∉dr→∀y∈[hs.b,hs.d1,c2,hs.d3],y≠x:=by rintro x hx hxd y hy rfl;have:=hdrop _ hy;rw[R6.mpr hx]at this;simp only[YH,QdU]at this;exact hxd (aN.1 this)
    have hnext:∃m',m'<m+1∧∃(t:TLS F ks)(seen:List Nat),Sg step l m' seen t v∧seen.Nodup∧(∀x∈seen,x<N)∧m'+seen.length=N∧Nm nv s hs.it kill ks t∧
      ∃g',Good P own' W0 n (merge nv dr kill (Sb s hs.it (.mapIter (some bm) N ⟨seen⟩ N)) ks t).st g' a6 w6:=by
     have hEE:∀x,x<nv→x∉dr→x∉s'.dE→look s'.E x=look ((hs.it,.c (.ptr s.c 0))::s.E) x:=by
      intro x hx hxd hn;have q1:=h6.e x hx hn;have q2:=t5.e x hx (λhh=>hn (h6.dE x hh));rw[q1];show look E' x=_
      rw[h4,if_pos (by simp[Mh,R6.mpr hx]),q2]
      have hy:=hne2 hx hxd;simp only[A7,ay]
      rw[ar (hy _ (by simp)),ar (hy _ (by simp)),ar (hy _ (by simp))]
      simp only[R3,if_false];rw[hnm.ZA _ (λh=>hxd (hk x h)),if_pos]
      ·rw[ay]
      ·rw[R6.mpr hx]
       cases hm:Mh x dr with
       | true=>exact absurd (aN.1 hm) hxd
       | false=>rfl
     have hMM:∀id,id<s.c+1→id∉kill→id∉s'.dM→look s'.M id=look (Sb s hs.it PK).M id:=by intro id hid hik hn;have hcm:s.c+1≤(A7 nv s dr kill ks hs c2 PK t kd0 d).c:=hnm.c;have q1:=h6.m id (UK hid (P6 hcm t5.c)) hn;have q2:=t5.m id (UK hid hcm) (λhh=>hn (h6.dM id hh));rw[q1];show look z.M id=_;rw[q2];exact hnm.Xp (dr:=dr) _ hid hik
     obtain⟨o1,g7,o2⟩:=aco (PK:=PK) h7 hEE hMM h5
     ·refine⟨m,Qh_ m,t',seen++[k],hs2,?_,?_,?_,o1,g7,by rw[afR];exact o2⟩
      ·rw[Xd]
       exact⟨hnd,by simp,λx hx y hy=>by rw[Ld]at hy;subst hy;exactλe=>hkn (e▸hx)⟩
      ·intro x hx;rcases N_.1 hx with hx | hx
       ·exact hlt x hx
       ·rw[Ld]at hx;subst hx;exact hkN
      ·simp;omega
    rcases(UG _ _).mp hcond with hc0 | hc0
    ·have:=Q_ hc0;subst this;exact hnext
    ·have:=Q_ hc0;subst this;simp only[exC,Exit.then,Exit.inBlock,if_true];exact hnext
   ·cases h1
theorem Di{c:Code}{q:RgC}(h:z4 c=some q):∃id0 id1 id2,c = .seq (.region id0 q.PY false) (.block q.i (.loop (.seq (.region id1 q.O4 false) (.seq (.cond (.tmp q.c2) .skip (.exit q.i')) (.block q.j (.seq (.region id2 q.Rw false) q.body)))))):=by
 unfold z4 at h;split at h
 ·cases h;exact⟨_,_,_,rfl⟩
 ·cases h
theorem Gk(hT:Mf P T)(hΓ : MN P Γ)(NG:P.follows .mixedOrders=true):∀(h:Hint),(∀(own:Ow)(c:Code),bA P own W0 n nv c (M8 T Γ nv n h c))∧(h.isL=true→∀(own:Ow)(x:Code),Al P own W0 n nv x (M8 T Γ nv n h (.loop x))):=by
 intro h
 induction h with
 | z=>
  refine⟨?_,λh=>by cases h⟩
  intro own c s R K r hr;exact OL hT hΓ NG c s K r (by simp only[M8]at hr;exact hr)
 | r kp=>
  refine⟨?_,λh=>by cases h⟩
  intro own c s R K r hr
  cases c with
  | region id ops draw=>exact E1 (yP (id:=id) (kp:=kp) hT (tn hΓ) NG) kp s K r (by simp only[M8]at hr;exact hr)
  | _=>simp[M8]at hr
 | s h k ih ik=>
  refine⟨?_,λh=>by cases h⟩
  intro own c s R K r hr
  cases c with
  | seq x y=>exact F9 (ih.1 own x) (ik.1 own y) s K r (by simp only[M8]at hr;exact hr)
  | _=>simp[M8]at hr
 | c h k ih ik=>
  refine⟨?_,λh=>by cases h⟩
  intro own c s R K r hr
  cases c with
  | cond t x y=>
   cases t with
   | tmp t=>exact Cu (ih.1 own x) (ik.1 own y) s K r (by simp only[M8]at hr;exact hr)
   | const v=>cases v with
    | bool b=>exact A2 (ih.1 own x) (ik.1 own y) s K r (by simp only[M8]at hr;exact hr)
    | _=>simp[M8]at hr
   | _=>simp[M8]at hr
  | _=>simp[M8]at hr
 | b h ih=>
  refine⟨?_,λh=>by cases h⟩
  intro own c s R K r hr
  cases c with
  | block i x=>exact AA (ih.1 own x) s K r (by simp only[M8]at hr;exact hr)
  | scope x=>exact Ba (ih.1 own x) s K r (by simp only[M8]at hr;exact hr)
  | _=>simp[M8]at hr
 | l ks dr xs h ih=>
  refine⟨?_,λ_ own x s R K r hr=>A4 (dr:=dr++keysOf ks++PW xs) (ks:=ks) (xs:=xs) hΓ (ih.1 own x) (λy hy=>by simp[hy]) (λy hy=>by simp[hy]) s K r (by simp only[M8]at hr;exact hr)⟩
  intro own c s R K r hr
  cases c with
  | loop x=>exact jB (dr:=dr++keysOf ks++PW xs) (ks:=ks) (xs:=xs) hΓ (ih.1 own x) (λy hy=>by simp[hy]) (λy hy=>by simp[hy]) s K r (by simp only[M8]at hr;exact hr)
  | _=>simp[M8]at hr
 | p h k ih ik=>
  refine⟨?_,λh=>by cases h⟩
  intro own c s R K r hr
  cases c with
  | loop x=>
   simp only[M8]at hr
   cases hk:k.isL with
   | false=>rw[hk]at hr;cases hr
   | true=>rw[hk]at hr;exact Jg (ih.1 own x) (ik.2 hk own x) s K r hr
  | _=>simp[M8]at hr
 | u k h ih=>
  refine⟨?_,λh=>by cases h⟩
  intro own c s R K r hr
  cases c with
  | loop x=>exact KI (ih.1 own x) k s K r (by simp only[M8]at hr;exact hr)
  | _=>simp[M8]at hr
 | j dr xs h ih=>
  refine⟨?_,λh=>by cases h⟩
  intro own c s R K r hr
  exact Jh (dr:=dr++PW xs) (xs:=xs) hΓ (ih.1 own c) (λy hy=>by simp[hy]) s K r (by simp only[M8]at hr;exact hr)
 | m x ix ex dr h ih=>
  refine⟨?_,λh=>by cases h⟩
  intro own c s R K r hr
  cases c with
  | loop y=>exact It (x:=x) (ix:=ix) (ex:=ex) (dr:=dr) (ih.1 own y) s K r (by simp only[M8]at hr;exact hr)
  | _=>simp[M8]at hr
 | g ks dr h ih=>
  refine⟨?_,λh=>by cases h⟩
  intro own c s R K r hr;simp only[M8]at hr;split at hr
  ·cases hr
  rename_i q hq;obtain⟨id0,id1,id2,rfl⟩:=Di hq;obtain⟨hi,hr⟩:=aQ hr;have:=Q_ hi;rw[this]
  exact HB (dr:=dr++keysOf ks) hT hΓ (λown'=>ih.1 own' _) (λy hy=>by simp[hy]) s K r hr
theorem Kt(hT:Mf P T)(hΓ : MN P Γ)(NG:P.follows .mixedOrders=true)(h:Hint)(c:Code):bA P own W0 n nv c (M8 T Γ nv n h c):=(Gk hT hΓ NG h).1 own c
end
set_option linter.unusedVariables false
set_option linter.unusedSimpArgs false
section
variable{F:Fam}{P:Program}{T:TypeId→Option (TI F)}{Γ : Ctx F}{nv n:Nat}{own:Ow}{W0:World}{g:G}{a:Act}{w:World}{m mm:Nat→Option (Mi F)}
def rZ(tmps:Array Value):ResultVar→Sem Value
 | .tmp t=>Pure.pure (tmps.getD t undef)
 | .cell a t=>do loadVar t (← asAddr (tmps.getD a undef))
theorem Kr(hT:Mf P T){s:TS F}(hg:Good P own W0 n s.st g a w){r:ResultVar}{d:Dat F}(h:adf T s r=some d) :
  ∃v,(rZ a.tmps r).run P w = .ok v w∧Me P g w d v:=by
 cases r with
 | tmp t=>exact⟨_,rfl,hg.env t d h⟩
 | cell x ty=>
  simp only[adf]at h;split at h
  ·cases h
  ·rename_i ti hty;split at h
   ·rename_i id off hx;split at h
    ·rename_i cs Pn;obtain⟨b,c,hi,e⟩:=ci (hg.env x _ hx);obtain⟨v,hrun,hrep⟩:=eC (P:=P) (g:=g) (w:=w) hT hty h (b:=b) (q:=0) (yG hg.mem Pn hi);rw[OY]at hrun;refine⟨v,?_,hrep⟩;simp only[rZ,e,asAddr,OB,PL,OO,hrun]
    ·cases h
   ·cases h
theorem v_(hT:Mf P T){s:TS F}(hg:Good P own W0 n s.st g a w):∀{rs:List ResultVar}{ds:List (Dat F)} (_:VP T s rs=some ds),
  ∃vs:List Value,(rs.mapM (rZ a.tmps)).run P w = .ok vs w∧MG P g w ds vs
 | [],ds,h=>by
  simp only[VP,NI]at h;subst h
  exact⟨[],by simp,rfl,by simp⟩
 | r::rs,ds,h=>by
  simp only[VP]at h;split at h
  ·cases h
  ·rename_i d hd;split at h
   ·cases h
   ·rename_i l hl;cases h;obtain⟨v,hv,hr⟩:=Kr hT hg hd;obtain⟨vs,hvs,hrs⟩:=v_ hT hg hl
    exact⟨v::vs,by simp only[List.mapM_cons,OB,hv,OO,hvs,PL],aX.2 ⟨hr,hrs⟩⟩
theorem pe{os os':List (Option Nat)}:Li ((os++os').map (Mk g))=Li (os.map (Mk g))++Li (os'.map (Mk g)):=by rw[Uo,aM]
theorem tc(hΓ : MN P Γ)(hm:LQ own g w m)(hle:P7 mm m):∀{ks:List Kd}{ds:List (Dat F)} {bx:List Nat} {p:Pk (TL F ks)},dl Γ mm ks ds bx=some p→∀{Lj:Nat→Prop},TT g p.fz Lj→∀{vs:List Value}{Mg:List Pl},MG P g w ds vs→
  bx.map g.ids=Mg.map some→(ks.filter Kd.Ni).length=bx.length→
  ∃LP,eQ P w Lj ks p.x vs Mg LP∧(Li (p.os.map (Mk g))).Perm (Li Mg++Li LP)∧R4 mm p.fz∧(∀id,some id∈p.os→∃B,mm id=some B∧B.owned=true):=by
 have one:∀{k:Kd}{d:Dat F}{p:Pk (k.El F)},Rq Γ mm k d=some p→k.Ni=false→∀{Lj:Nat→Prop},TT g p.fz Lj→∀{v:Value},Me P g w d v→
   Held P w Lj k p.x v (p.os.map (Mk g)) []∧R4 mm p.fz∧(∀id,some id∈p.os→∃B,mm id=some B∧B.owned=true):=by
  intro k d p h hb Lj hi v hr;obtain⟨Mg,h1,h2,h3,h4,h5⟩:=sr hΓ hm hle h hi hr
  have:Mg = []:=by
   cases k with
   | box=>cases hb
   | v t ow=>exact h1.2
   | rp t=>exact h1.2.1
   | fn ks r=>exact h1.2.1
   | TK t=>exact h1.2.1
   | pk k t=>exact h1.2.1
   | ln t=>exact h1.2.1
   | nb t ow=>obtain⟨_,_,h,_⟩:=h1;exact h
   | cl f n=>exact h1.elim
   | row t arr=>cases hb
  subst this;exact⟨h1,h3,h4⟩
 have box:∀{t:Ty}{ow:List Nat}{b:Nat}{p:Pk (ET F t)},om mm t ow (.c (.ptr b 0))=some p→∀{Lj:Nat→Prop},TT g p.fz Lj→∀{q':Pl},g.ids b=some q'→
   ∃(q:Nat×Nat×Nat)(LP:List Pl),q'=some (Vv q)∧Uh w Lj t ow p.x q.1 LP∧Li (p.os.map (Mk g))=q.1::Li LP∧R4 mm p.fz∧(∀id,some id∈p.os→∃B,mm id=some B∧B.owned=true):=by
  intro t ow b p h Lj hi q' hq'
  obtain⟨q,hq⟩:∃q,g.ids b=some (some q):=by
   simp only[om]at h;split at h
   ·rename_i cs Pn;obtain⟨b',c',arr,e,k1,_⟩:=hm.ok b _ (hle _ _ Pn);exact⟨_,k1⟩
   ·cases h
  rw[hq]at hq';cases hq';obtain⟨id,bx,os,h1,h2,h3,h4,h5,h6,h7,h8⟩:=oM hm hle h hi (P:=P) (v:=.pointer (some ⟨q.1,0,none⟩)) (.c (.ptr hq));cases h3;rw[hq]at h4;cases h4;refine⟨bx,os.map (Mk g),rfl,h6,?_,R4.Pq h7,h8⟩;rw[h1];simp[Mk,hq,Li,MP]
 intro ks
 induction ks with
 | nil=>
  intro ds bx p h Lj hi vs Mg hr hb hc
  cases ds with
  | cons d ds=>cases bx<;>simp[dl]at h
  | nil=>
   cases bx with
   | cons b bx=>simp[dl]at h
   | nil=>
    simp only[dl,NI]at h;subst h;have h1:=jv hr
    have h2:Mg = []:=by simpa using hb.symm
    subst h1 h2
    exact⟨[],⟨rfl,rfl,rfl⟩,by simp[Li],λid hid=>by simp at hid,by simp⟩
 | cons k ks ih=>
  intro ds bx p h Lj hi vs Mg hr hb hc
  cases hkb:k.Ni with
  | true=>
   cases k with
   | v=>cases hkb
   | rp=>cases hkb
   | fn=>cases hkb
   | TK=>cases hkb
   | pk=>cases hkb
   | ln=>cases hkb
   | nb=>cases hkb
   | cl=>cases hkb
   | row t arr=>
    cases bx with
    | nil=>simp[Xc,Kd.Ni]at hc
    | cons b bx=>
     obtain⟨q,Rx,rfl,hq,hb'⟩:=mv hb.symm
     have row:∀{p:Pk (List (ET F t))},rU mm t b=some p→OD w Lj t p.x q∧p.os = [some b]∧R4 mm p.fz∧(∀id,some id∈p.os→∃B,mm id=some B∧B.owned=true):=by
      intro p hp;obtain⟨h1,h2,h3,h4,l,h5⟩:=vC hm hle hp
      have e:Mk g (some b)=q:=by simp[Mk,← hq]
      rw[e]at h4
      refine⟨h4.le hi.Lj,h1,λid hid=>by rw[h3]at hid;simp at hid,?_⟩
      intro id hid;rw[h1]at hid;simp only[Ld,NI]at hid;subst hid;exact⟨_,h5,kj⟩
     have e1:Li [Mk g (some b)]=Li [q]:=by simp[Mk,← hq]
     cases ks with
     | nil=>
      have hbx:bx = []:=by apply TQ;simpa[Xc,Kd.Ni]using hc.symm
      subst hbx
      have:Rx = []:=by simpa using hb'
      subst this
      cases ds with
      | cons d ds=>simp[dl]at h
      | nil=>
       simp only[dl]at h;obtain⟨h1,h2,h3,h4⟩:=row h;have hv:=jv hr;subst hv
       exact⟨[],⟨q,rfl,rfl,h1,rfl⟩,by rw[h2];simp only[Nr,Oj];rw[e1];simp[Li],h3,h4⟩
     | cons l ks=>
      simp only[dl]at h;split at h
      ·cases h
      ·rename_i p1 hp1;split at h
       ·cases h
       ·rename_i p2 hp2;cases h;obtain⟨h1,h2,h3,h4⟩:=row hp1
        obtain⟨Ml,k1,k2,k3,k4⟩:=ih hp2 (hi.sub (λid hid=>by simp[hid])) hr hb'.symm (by simpa[Xc,Kd.Ni]using hc)
        refine⟨Ml,⟨q,Rx,rfl,h1,k1⟩,?_,h3.append k3,?_⟩
        ·show(Li ((p1.os++p2.os).map (Mk g))).Perm _;rw[pe,h2];simp only[Nr,Oj]
         rw[e1,show(q::Rx) = [q]++Rx from rfl,aM,PS]
         exact QeD _ k2
        ·intro id hid;rcases N_.1 hid with hid | hid
         ·exact h4 id hid
         ·exact k4 id hid
   | box t ow=>
    cases bx with
    | nil=>simp[Xc,Kd.Ni]at hc
    | cons b bx=>
     obtain⟨q,Rx,rfl,hq,hb'⟩:=mv hb.symm
     cases ks with
     | nil=>
      have hbx:bx = []:=by apply TQ;simpa[Xc,Kd.Ni]using hc.symm
      subst hbx
      have:Rx = []:=by simpa using hb'
      subst this
      cases ds with
      | cons d ds=>simp[dl]at h
      | nil=>
       simp only[dl]at h;obtain⟨q,LP,rfl,h1,h2,h3,h4⟩:=box h hi hq.symm;have hv:=jv hr;subst hv
       exact⟨LP,⟨q,rfl,rfl,h1⟩,by rw[h2];exact .refl _,h3,h4⟩
     | cons l ks=>
      simp only[dl]at h;split at h
      ·cases h
      ·rename_i p1 hp1;split at h
       ·cases h
       ·rename_i p2 hp2;cases h
        obtain⟨q,LP,rfl,h1,h2,h3,h4⟩:=box hp1 (hi.sub (λid hid=>by simp[hid])) hq.symm
        obtain⟨Ml,k1,k2,k3,k4⟩:=ih hp2 (hi.sub (λid hid=>by simp[hid])) hr hb'.symm (by simpa[Xc,Kd.Ni]using hc)
        refine⟨LP++Ml,⟨q,Rx,LP,Ml,rfl,rfl,h1,k1⟩,?_,h3.append k3,?_⟩
        ·show(Li ((p1.os++p2.os).map (Mk g))).Perm _;rw[pe,h2,aM];show(q.1::Li LP++_).Perm (q.1::Li Rx++_);rw[UH,UH];refine List.Perm.cons _ ?_;refine(QeD _ k2).trans ?_;rw[← PS,← PS];exact QgU _ QdD
        ·intro id hid;rcases N_.1 hid with hid | hid
         ·exact h4 id hid
         ·exact k4 id hid
  | false=>
   have hc':(ks.filter Kd.Ni).length=bx.length:=by rw[QdW (by simp[hkb])]at hc;exact hc
   cases ks with
   | nil=>
    have hbx:bx = []:=by apply TQ;simpa using hc'.symm
    subst hbx
    have:Mg = []:=by simpa using hb.symm
    subst this
    match ds,h,hr with
    | [],h,hr=>cases k<;>first | (cases hkb;done) | simp[dl]at h
    | [d],h,hr=>
     have h':Rq Γ mm k d=some p:=by cases k<;>first | (cases hkb;done) | exact h
     obtain⟨v,vs',rfl,h1,h2⟩:=kP hr;have hv:=jv h2;subst hv;obtain⟨k1,k2,k3⟩:=one h' hkb hi h1
     refine⟨p.os.map (Mk g),?_,by simp[Li],k2,k3⟩
     cases k<;>first | (cases hkb;done) | exact⟨v,rfl,rfl,k1⟩
    | d::e::ds,h,hr=>cases k<;>first | (cases hkb;done) | simp[dl]at h
   | cons l ks=>
    match ds,h,hr with
    | [],h,hr=>cases k<;>first | (cases hkb;done) | simp[dl]at h
    | d::ds,h,hr=>
     have h':(match Rq Γ mm k d with
      | none=>none
      | some p=>match dl Γ mm (l::ks) ds bx with
       | none=>none
       | some q=>some (⟨(p.x,q.x),p.os++q.os,p.fz++q.fz,p.bx++q.bx⟩:Pk (k.El F×TL F (l::ks))))=some p:=by cases k<;>first | (cases hkb;done) | exact h
     obtain⟨v,vs',rfl,h1,h2⟩:=kP hr;split at h'
     ·cases h'
     ·rename_i p1 hp1;split at h'
      ·cases h'
      ·rename_i p2 hp2;cases h'
       obtain⟨k1,k2,k3⟩:=one hp1 hkb (hi.sub (λid hid=>by simp[hid])) h1
       obtain⟨Ml,l1,l2,l3,l4⟩:=ih hp2 (hi.sub (λid hid=>by simp[hid])) h2 hb hc'
       refine⟨p1.os.map (Mk g)++Ml,?_,?_,k2.append l3,?_⟩
       ·cases k<;>first | (cases hkb;done) | exact⟨v,vs',_,Ml,rfl,rfl,k1,l1⟩
       ·show(Li ((p1.os++p2.os).map (Mk g))).Perm _;rw[pe,aM];refine(QeD _ l2).trans ?_;rw[← PS,← PS];exact QgU _ QdD
       ·intro id hid;rcases N_.1 hid with hid | hid
        ·exact k3 id hid
        ·exact l4 id hid
theorem rG:∀(l:List (Dat F)) (k x:Nat) (d:Dat F),look (params k l) x=some d→∃j,x=k+j∧l[j]? = some d
 | [],k,x,d,h=>by simp[params,look]at h
 | y::l,k,x,d,h=>by
  simp only[params,ay]at h;split at h
  ·rename_i hb;have:=Q_ hb;subst this;cases h;exact⟨0,rfl,rfl⟩
  ·obtain⟨j,h1,h2⟩:=rG l (k+1) x d h
   exact⟨j+1,by omega,by simpa using h2⟩
theorem cV:∀{ks:List Kd}{a:HL F ks}{c:Nat},(aU ks a c).length=(ks.filter Kd.Ni).length
 | [],_,_=>rfl
 | .v t ow::ks,a,c=>by simp only[aU];rw[cV];rfl
 | .box t ow::ks,a,c=>by simp only[aU,P5];rw[cV];rfl
 | .rp t::ks,a,c=>by simp only[aU];rw[cV];rfl
 | .fn k r::ks,a,c=>by simp only[aU];rw[cV];rfl
 | .TK t::ks,a,c=>by simp only[aU];rw[cV];rfl
 | .pk k0 t::ks,a,c=>by simp only[aU];rw[cV];rfl
 | .ln t::ks,a,c=>by simp only[aU];rw[cV];rfl
 | .nb t ow::ks,a,c=>by simp only[aU];rw[cV];rfl
 | .row t arr::ks,a,c=>by simp only[aU,P5];rw[cV];rfl
 | .cl f n::ks,a,c=>by simp only[aU];rw[cV];rfl
theorem qr{Lj:Nat→Prop}:∀{ks:List Kd}{a:HL F ks}{vs:List Value}{LP:List Pl} {Mg:List Pl},dF P w Lj ks a vs LP Mg→vs.length≤ks.length
 | [],a,vs,LP,Mg,h=>by rw[h.1];exact MO _
 | k::ks,a,vs,LP,Mg,h=>by
  cases hk:k.Uv with
  | true=>
   cases k with
   | cl f n=>obtain⟨us,vs',rfl,hl,h2⟩:=h;have:=qr h2;simp only[Lc]at this;simp only[P5];omega
   | _=>cases hk
  | false=>
  obtain⟨v,vs',p1,p2,b1,b2,rfl,_,_,_,h2⟩:=pP hk h;simpa using qr h2
theorem pE{α : Type}{x:Nat}:∀{l:List (Nat×α)} {y:α},look l x=some y→(x,y)∈l
 | [],y,h=>by simp[look]at h
 | (z,b)::l,y,h=>by
  rw[ay]at h;split at h
  ·rename_i hb;have:=Q_ hb;subst this;cases h;simp
  ·exact U_ _ (pE h)
theorem vh{fn:Func}{a:Act}{vs:List Value}(h:(fn.results.toList.mapM (rZ a.tmps)).run P w = .ok vs w):(results fn a.tmps).run P w = .ok (Vd vs) w:=by
 have hmap:(fn.results.mapM (rZ a.tmps)).run P w = .ok ⟨vs⟩ w:=by rw[Array.mapM_eq_mapM_toList];simp[h]
 have hres:(results fn a.tmps).run P w = .ok (if h:(⟨vs⟩:Array Value).size=1 then(⟨vs⟩:Array Value)[0]else .tuple ⟨vs⟩) w:=by
  unfold results;rw[OB]
  have e:(λ(r:ResultVar)=>match r with | .tmp t=>(Pure.pure (a.tmps.getD t undef):Sem Value) | .cell x t=>do loadVar t (← asAddr (a.tmps.getD x undef)))=rZ a.tmps:=by
   funext r
   cases r<;>rfl
  have e2:(fn.results.mapM (λ(r:ResultVar)=>match r with | .tmp t=>(Pure.pure (a.tmps.getD t undef):Sem Value) | .cell x t=>do loadVar t (← asAddr (a.tmps.getD x undef)))).run P w = .ok ⟨vs⟩ w:=by rw[e];exact hmap
  exact(congrArg (λr=>Result.andThen r _) e2)
 rw[hres]
 match vs with
 | [v]=>rfl
 | []=>rfl
 | v::x::vs=>
  rw[dif_neg]
  ·rfl
  ·simp
theorem qJ{Lj:Nat→Prop}:∀{ks:List Kd}{a:HL F ks}{vs:List Value}{LP:List Pl} {Mg:List Pl},ks.all Kd.ach=true→dF P w Lj ks a vs LP Mg→LP = []
 | [],a,vs,LP,Mg,_,h=>h.2.1
 | k::ks,a,vs,LP,Mg,hn,h=>by
  simp only[QeJ,Ng]at hn
  have hk:k.Uv=false:=by
   cases k with
   | cl f n=>cases hn.1
   | _=>rfl
  obtain⟨v,vs',p1,p2,b1,b2,rfl,rfl,rfl,h1,h2⟩:=pP hk h;rw[qJ hn.2 h2,Wo]
  cases k with
  | v t ow=>cases ow with
   | nil=>exact h1.1.OZ
   | cons=>cases hn.1
  | box=>cases hn.1
  | row=>cases hn.1
  | rp=>exact h1.1
  | fn=>exact h1.1
  | TK=>exact h1.1
  | pk=>exact h1.1
  | ln=>exact h1.1
  | nb=>cases hn.1
  | cl=>cases hn.1
theorem uK{Lj:Nat→Prop}:∀{ks:List Kd}{a:HL F ks}{vs:List Value}{LP:List Pl} {Mg:List Pl},dF P w Lj ks a vs LP Mg→∃L:Nat→Prop,(∀b,L b→b<w.heap.size)∧(ks.all (λk=>!k.Ym)=true→∀b,¬ L b)∧
  ∀{g:G},(∀b,L b→g.len b)→∀{ds:List (Dat F)},MG P g w ds vs→MG P g w (TY ks a ds) vs
 | [],a,vs,LP,Mg,h=>⟨λ_=>False,λ_ h=>h.elim,λ_ _ h=>h,λ_ _ h=>h⟩
 | k::ks,a,vs,LP,Mg,h=>by
  cases hk:k.Uv with
  | true=>
   cases k with
   | cl f n=>
    obtain⟨us,vs',rfl,hl,h2⟩:=h;obtain⟨L,l1,l2,l3⟩:=uK h2
    refine⟨L,l1,λhh=>l2 (by simpa[Kd.Ym]using hh),λ{g} hg {ds} hr=>?_⟩
    match ds,hr with
    | [],hr=>exact hr
    | d::ds,hr=>exact hr
   | _=>cases hk
  | false=>
  obtain⟨v,vs',p1,p2,b1,b2,rfl,rfl,rfl,h1,h2⟩:=pP hk h;clear h;obtain⟨L,l1,l2,l3⟩:=uK h2
  have plain:k.Ym=false→(∀(a:HL F (k::ks)) (d:Dat F) (ds:List (Dat F)),TY (k::ks) a (d::ds)=d::TY ks a.2 ds)→∃L:Nat→Prop,(∀b,L b→b<w.heap.size)∧((k::ks).all (λk=>!k.Ym)=true→∀b,¬ L b)∧
    ∀{g:G},(∀b,L b→g.len b)→∀{ds:List (Dat F)},MG P g w ds (v::vs')→MG P g w (TY (k::ks) a ds) (v::vs'):=by
   intro hk he
   refine⟨L,l1,λhh=>l2 (by simpa[hk]using hh),λ{g} hg {ds} hr=>?_⟩
   match ds,hr with
   | [],hr=>exact absurd hr.1 (by simp)
   | d::ds,hr=>rw[he];have:=aX.1 hr;exact aX.2 ⟨this.1,l3 hg this.2⟩
  cases k with
  | v=>exact plain rfl λ_ _ _=>rfl
  | box=>exact plain rfl λ_ _ _=>rfl
  | row=>exact plain rfl λ_ _ _=>rfl
  | rp=>exact plain rfl λ_ _ _=>rfl
  | fn=>exact plain rfl λ_ _ _=>rfl
  | TK=>exact plain rfl λ_ _ _=>rfl
  | pk=>exact plain rfl λ_ _ _=>rfl
  | nb=>exact plain rfl λ_ _ _=>rfl
  | cl=>cases hk
  | ln t=>
   obtain⟨_,_,I,i1,i2⟩:=h1
   refine⟨λb=>I b∨L b,λb hb=>hb.elim (i1 b) (l1 b),λhh=>by simp[Kd.Ym]at hh,λ{g} hg {ds} hr=>?_⟩
   match ds,hr with
   | [],hr=>exact absurd hr.1 (by simp)
   | d::ds,hr=>
    have hrr:=aX.1 hr;refine aX.2 ⟨?_,l3 (λb hb=>hg b (.inr hb)) hrr.2⟩
    have cel:∀(d:ND F)(x:Value),Md w I d x→Mj g w (if d.flat then .im d else .ln d) x:=by
     intro d x h;split
     ·rename_i hf;exact .im (h.flat hf)
     ·exact .ln (h.mono (λb hb=>.inr (hg b (.inl hb))) λ_ _=>rfl)
    have hrt:=sW i2;show Me P g w (ZB t a.1) v;unfold ZB VY;generalize LZ F t a.1=cs at hrt
    cases hs:t.OU with
    | true=>
     rw[hs]at hrt
     cases hrt with
     | agg hl h=>
      rw[if_pos rfl]
      refine .agg (by rw[PI];exact hl) λk c x a b=>?_
      rw[Rf]at a;obtain⟨c0,h0,rfl⟩:=Wp.1 a;exact cel c0 x (h k c0 x h0 b)
    | false=>
     rw[hs]at hrt
     cases hrt with
     | one h=>exact .c (cel _ _ h)
theorem Jp (hT : Mf P T) (hΓ : MN P Γ) (NG : P.follows .mixedOrders = true) {f : FuncId} {fn : Func} {sp : Spec F} {h : Hint} (hf : P.funcs[f]? = some fn) (hnm : (fn.name == "runtime.NumGoroutine") = false) (hbn : fn.body.isNone = false) (hlen : Nat.ble sp.ks.length fn.ntmps = true)
  (hrs:sp.rs.all (λk=>!k.Ni)=true) (hD:∀a r,sp.D a=some r→Xh T Γ nv fn h sp.ks sp.rs a=some r):O9 P f sp:=by
 refine⟨?_,?_⟩
 ·exact⟨fn,hf,hnm,hbn⟩
 intro a r hr Lj w vs LP Mg Ot hpl MR;have hd:=hD a r hr;unfold Xh at hd;split at hd
 ·cases hd
 ·rename_i body hbody;dsimp only at hd;obtain⟨V3,hd⟩:=aQ hd;obtain⟨L,l1,l2,l3⟩:=uK Ot
  let g0:G:=⟨(G.Vz 0 LP Lj).ids,Lj,L⟩
  have adz:Po g0 0 LP:=λj pl hj=>wl (I:=Lj) (LP:=LP) (c:=0) j pl hj;obtain⟨h1,h2,h3,h4⟩:=sE (g:=g0) (c:=0) Ot adz;have h1:=l3 (g:=g0) (λ_ h=>h) h1
  have Xr:∀b,L b→¬ (b∈Li LP∨w.heap.size≤b)∧b<w.heap.size:=by
   intro b hb;refine⟨λho=>?_,l1 b hb⟩;rcases UG _ _▸V3 with hs | hs
   ·exact l2 hs b hb
   ·rw[qJ hs Ot]at ho;rcases ho with ho | ho
    ·simp[Li]at ho
    ·exact absurd (l1 b hb) (Nat.not_lt.2 ho)
  simp only[OY]at h3;refine calls_of_wp hf hbody ?_
  let own:Ow:=⟨λb=>b∈Li LP∨w.heap.size≤b,Lj,(G.Vz 0 LP Lj).ids⟩
  have hvl:=qr Ot;have hlen':sp.ks.length≤fn.ntmps:=Va hlen
  have hblk:∀{id:Nat}{B:Mi F}{b:Nat},look (NR sp.ks a 0).2.1 id=some B→g0.blk id b→∃b0 q,LP[id]? = some (some (b0,q))∧b∈b0::MP q.2.2:=by rintro id B b _ ⟨b0,q,hq,hbb⟩;simp only[g0,G.Vz]at hq;rw[if_pos (QeQ _),Nat.sub_zero]at hq;exact⟨b0,q,hq,hbb⟩
  have hgood:Good P own w fn.ntmps (⟨params 0 (TY sp.ks a (NR sp.ks a 0).1),(NR sp.ks a 0).2.1,(NR sp.ks a 0).2.2,[],[]⟩:TS F).st g0 { tmps:=(⟨vs⟩:Array Value)++Array.replicate (fn.ntmps - (⟨vs⟩:Array Value).size) undef,defers:=[] } w:=by
   refine⟨rfl,?_,?_,⟨?_,?_,?_,MR,λb hb=>.inl hb,Xr⟩,?_,λ_ h=>h,⟨rfl,rfl,rfl,MO _,λb hb=>.inr hb,λ_ _ _=>rfl,MO _⟩,λ_ _ h=>h⟩
   ·simp[hvl];omega
   ·intro x d hx;obtain⟨j,rfl,hj⟩:=rG _ 0 x d hx
    have hlt:j<vs.length:=by rw[h1.1];exact(Lb.1 hj).1
    have:((⟨vs⟩:Array Value)++Array.replicate (fn.ntmps - (⟨vs⟩:Array Value).size) undef).getD (0+j) undef=vs[j]:=by
     rw[OY,UM,QeX (by simpa using hlt)]
     simp[hlt]
    rw[this];exact h1.2 j d _ hj (La hlt)
   ·intro id B hB;obtain⟨j,_,_,_,q⟩:=h2 _ (pE hB);exact q
   ·intro id id' B B' b hB hB' _ _ hb hb';obtain⟨b0,q,hq,hx⟩:=hblk hB hb;obtain⟨b0',q',hq',hx'⟩:=hblk hB' hb';exact nh hpl.nodup hq hx hq' hx'
   ·intro id B b hB _ hb;obtain⟨b0,q,hq,hx⟩:=hblk hB hb;have:=db.2 ⟨id,b0,q,hq,hx⟩;exact⟨.inl this,hpl.Lj b this⟩
   ·intro id hid;simp only[TS.st,cg,decide_eq_false_iff_not,h3]at hid;simp only[g0,G.Vz]
    rw[if_pos (QeQ _),Nat.sub_zero,QeU (by omega)]
  refine wp_mono (Kt hT hΓ NG h body _ _ r hd _ _ _ hgood) ?_;rintro e a' w' ⟨k,s',g',rfl,k2,k3,k4⟩
  have key:bodyPost P fn (λe w'=>∃(Rt:List Value)(LU:Nat→Prop)(Ml:List Pl),e = .returned (Vd Rt)∧
   w'.os=w.os∧w'.tape=w.tape∧w'.output=w.output∧w.drawn≤w'.drawn∧w.heap.size≤w'.heap.size∧(∀b,b<w.heap.size→b∉Li LP→w'.heap[b]? = w.heap[b]?)∧
   (∀b,Lj b→LU b)∧(∀b,LU b→Lj b∨b∈Li LP∨w.heap.size≤b)∧(∀b,LU b→b<w'.heap.size)∧
   eQ P w' LU (outs sp) r Rt Mg Ml∧Sy w' LU (Li Mg++Li Ml)∧∀b∈Li Mg++Li Ml,b∈Li LP∨w.heap.size≤b) .ret a' w'∧(k=0∨k=1):=by
   have hk:(k=0∨k=1)∧Tj T Γ fn sp.ks sp.rs a s'=some r:=by
    match k,k2 with
    | 0,k2=>exact⟨.inl rfl,k2⟩
    | 1,k2=>exact⟨.inr rfl,k2⟩
    | k+2,k2=>cases k2
   refine⟨?_,hk.1⟩;have k2:=hk.2;unfold Tj at k2;split at k2
   ·cases k2
   ·rename_i rd hrd;split at k2
    ·cases k2
    ·rename_i p hp;obtain⟨hc,k2⟩:=aQ k2;simp only[Ng]at hc;cases k2;obtain⟨Rt,q1,q2⟩:=v_ hT k4 hrd
     have ZO:(aU sp.ks a 0).map g'.ids=Mg.map some:=by rw[← h4];refine QdG λid hid=>?_;obtain⟨q,_,hq⟩:=nA h4 hid;rw[hq];exact k4.Sn id _ hq
     have hcnt:((sp.rs++sp.ks.filter Kd.Ni).filter Kd.Ni).length=(aU sp.ks a 0).length:=by
      rw[cV,YR,QgO]
      have:sp.rs.filter Kd.Ni = []:=by rw[QdS];intro k hk;have:=Tg.1 hrs k hk;simpa using this
      rw[this];simp
     obtain⟨Ml,p1,p2,p3,p4⟩:=tc hΓ k4.mem (λ_ _ h=>h) hp (Lj:=(g'.Rl p.fz).Lj) ⟨λ_ h=>.inl h,λid hid b hb=>.inr ⟨id,hid,hb⟩⟩ q2 ZO hcnt;have hfr:=nK k4.mem (λ_ _ h=>h) p3
     have hL:∀b∈Li Mg++Li Ml,∃id B,some id∈p.os∧look s'.M id=some B∧B.owned=true∧g'.blk id b:=by intro b hb;obtain⟨id,r1,r2⟩:=cC.1 (p2.mem_iff.2 hb);obtain⟨B,r3,r4⟩:=p4 id r1;exact⟨id,B,r1,r3,r4,r2⟩
     refine⟨k4.Uk,Vd Rt,vh q1,Rt,(g'.Rl p.fz).Lj,Ml,rfl,k4.NT.os,k4.NT.tape,k4.NT.output,k4.NT.drawn,k4.NT.size,?_,λb hb=>.inl (k4.TD b hb),?_,hfr.Lj,p1,⟨?_,?_,?_⟩,?_⟩
     ·intro b hb hno
      exact k4.NT.block b hb (λho=>ho.elim hno (λh=>by omega))
     ·intro b hb;exact hfr.io b hb
     ·exact p2.nodup_iff.1 (kz k4.mem (jE hc.1) p4)
     ·intro b hb;obtain⟨id,B,r1,r2,r3,r4⟩:=hL b hb;have hno:id∉p.fz:=n9 hc.2 id (gz.2 r1)
      exact(hfr.own id B b (by rw[lE,if_neg hno];exact r2) r3 r4).2
     ·intro b hb;obtain⟨id,B,r1,r2,r3,r4⟩:=hL b hb;exact(k4.mem.ok id B r2).place k4.mem.Lj (Mi.PV r3) r4
     ·intro b hb;obtain⟨id,B,r1,r2,r3,r4⟩:=hL b hb;exact(k4.mem.own id B b r2 r3 r4).1
  obtain⟨key,hk⟩:=key;rcases hk with rfl | rfl
  ·exact key
  ·exact key
end
set_option linter.unusedVariables false
set_option linter.unusedSimpArgs false
section
variable{F:Fam}
def ac7:ND F→Value→Bool
 | .i k n,.int k' m=>k == k'&&n == m
 | .b x,.bool y=>x == y
 | .s [],.string ⟨⟨[]⟩⟩=>true
 | .nl,.slice none 0 0=>true
 | .v (.pointer none),.pointer none=>true
 | .v (.map none),.map none=>true
 | _,_=>false
def zok:List (ND F)→List Value→Bool
 | [],[]=>true
 | d::l,x::r=>ac7 d x&&zok l r
 | _,_=>false
theorem JZ{d:ND F}{x:Value}(h:ac7 d x=true)(w:World)(Lj:Nat→Prop):Md w Lj d x:=by
 unfold ac7 at h;split at h
 ·simp only[Ng,beq_iff_eq]at h;obtain⟨rfl,rfl⟩:=h;exact .i _ _
 ·simp only[beq_iff_eq]at h;subst h;exact .b _
 ·exact .s []
 ·exact .nl _
 ·exact .v _ rfl
 ·exact .v _ rfl
 ·cases h
theorem E8:∀{l:List (ND F)} {r:List Value},zok l r=true→l.length=r.length∧∀(w:World)(Lj:Nat→Prop)(k:Nat)(d:ND F) (x:Value),l[k]? = some d→r[k]? = some x→Md w Lj d x
 | [],[],_=>by simp
 | d::l,x::r,h=>by
  simp only[zok,Ng]at h;obtain⟨h1,h2⟩:=E8 h.2
  refine⟨by simp[h1],?_⟩
  intro w Lj k d' x' a b
  cases k with
  | zero=>simp only[Rh,NI]at a b;subst a b;exact JZ h.1 w Lj
  | succ k=>exact h2 w Lj k d' x' (by simpa using a) (by simpa using b)
 | [],_::_,h=>by cases h
 | _::_,[],h=>by cases h
def ac9(i:TI F):Bool:=match i.ty with | some tt=>Nat.beq (LV F tt) i.size | none=>true
def ZU(P:Program)(t:TypeId)(i:TI F):Bool:=if i.eq then !(P.stoodInHeld t)&&!(P.eqGuardType P.depth t)else true
structure MB(P:Program)(t:TypeId)(i:TI F):Prop where
 und:P.underlying t=some i.desc
 info:∃j z,P.info? t=some j∧j.zero=some z∧(Nat.beq j.size i.size&&Nat.beq j.bytes i.bytes&&Nat.beq z.cells.size i.size&&zok i.zero z.cells.toList&&(adN z == gu i.desc))=true
 ty:ac9 i=true
 eq:ZU P t i=true
theorem af8{P:Program}{tbl:List (Nat×TI F)}(h:∀p∈tbl,MB P p.1 p.2):Mf P (look tbl):=by
 have mem:∀{t:Nat}{i:TI F},look tbl t=some i→MB P t i:=λht=>h _ (pE ht);refine⟨λt i ht=>(mem ht).und,?_,?_,?_,?_⟩
 ·intro t i ht;obtain⟨j,z,h1,h2,h3⟩:=(mem ht).info;simp only[Ng]at h3;obtain⟨⟨⟨⟨k1,k2⟩,k3⟩,k4⟩,_⟩:=h3;have k1:=Q_ k1;have k2:=Q_ k2;have k3:=Q_ k3;obtain⟨l1,l2⟩:=E8 k4
  refine⟨j,h1,k1,k2,z,h2,k3,by rw[l1];simpa using k3,?_⟩
  intro w Lj k d x a b
  exact l2 w Lj k d x a (by simpa using b)
 ·intro t i ht he;have:=(mem ht).eq;simp only[ZU,he,if_true,Ng,UJ]at this;exact⟨this.1,this.2⟩
 ·intro t i tt ht he;have:=(mem ht).ty;simp only[ac9,he]at this;exact Q_ this
 ·intro t i j z ht hj hz;obtain⟨j',z',h1,h2,h3⟩:=(mem ht).info;rw[hj]at h1;cases h1;rw[hz]at h2;cases h2;simp only[Ng,beq_iff_eq]at h3;exact h3.2
theorem all_nil{P:Program}:∀p∈([]:List (Nat×TI F)),MB P p.1 p.2:=by simp
theorem all_cons{P:Program}{t:Nat}{i:TI F}{l:List (Nat×TI F)}(h:MB P t i)(k:∀p∈l,MB P p.1 p.2):∀p∈((t,i)::l),MB P p.1 p.2:=by
 intro p hp;rcases NH.1 hp with rfl | hp
 ·exact h
 ·exact k p hp
theorem ag{P:Program}:MN (F:=F) P []:=λ_ _ h=>by simp[look]at h
theorem ab{P:Program}{f:FuncId}{sp:Spec F}{Γ : Ctx F}(h:O9 P f sp)(k:MN P Γ):MN P ((f,sp)::Γ):=by
 intro g s hg;rw[ay]at hg;split at hg
 ·rename_i hb;have:=Q_ hb;subst this;cases hg;exact h
 ·exact k g s hg
theorem SF {P : Program} {T : TypeId → Option (TI F)} {Γ : Ctx F} {nv : Nat} (hT : Mf P T) (NG : P.follows .mixedOrders = true) (hΓ : MN P Γ) {f : FuncId} {fn : Func} {sp : Spec F} {h : Hint} (hf : P.funcs[f]? = some fn) (hnm : (fn.name == "runtime.NumGoroutine") = false) (hbn : fn.body.isNone = false) (hlen : Nat.ble sp.ks.length fn.ntmps = true)
  (hrs:sp.rs.all (λk=>!k.Ni)=true) (hD:(λa=>Xh T Γ nv fn h sp.ks sp.rs a)=sp.D):O9 P f sp:=
 Jp hT hΓ NG hf hnm hbn hlen hrs (λa r hr=>by rw[← hD]at hr;exact hr)
end
end Go.Fx
namespace Go.Fx
open Go Go.ChangeShapes Go.RowKit
set_option linter.unusedVariables false
set_option linter.unusedSimpArgs false
section
variable{F:Fam}
def xu(F:Fam):Ty→List Ty
 | .st n=>F.fs n
 | t=>[t]
mutual
inductive YF(F:Fam):(t:Ty)→ET F t→Prop where
 | int {k:IntKind} {n:Int} (h:(Lit.int k n).wf=true):YF F (.int k) n
 | bool (b:Bool):YF F .bool b
 | str {l:List UInt8} (h:l.length≤maxLen):YF F .str l
 | slice {t:Ty} {l:List (ET F t)} (hl:l.length≤maxLen) (h:∀x∈l,YF F t x):YF F (.slice t) l
 | st {n:Nat} {x:F.S n} (h:WfF F (F.fs n) (F.un n x)):YF F (.st n) x
inductive WfF(F:Fam):(ts:List Ty)→M7 F ts→Prop where
 | nil (a:M7 F []):WfF F [] a
 | cons {t:Ty} {r:List Ty} {a:M7 F (t::r)} (h:YF F t a.1) (k:WfF F r a.2):WfF F (t::r) a
end
def Vx(W:World):Nat→Prop:=λb=>b<W.heap.size
def VA(F:Fam)(W:World)(tys:List Ty)(cs:List Value):Prop:=
 ∃a:M7 F tys,cs.length=tys.length∧(∀(k:Nat)(d:ND F)(v:Value),(OW F tys a)[k]? = some d→cs[k]? = some v→Md W (Vx W) d v)∧WfF F tys a
theorem VA.nil{W:World}:VA F W [] []:=⟨(),rfl,by simp[OW],.nil _⟩
theorem VA.cons{W:World}{t:Ty}{v:Value}{x:ET F t}{tys:List Ty}{cs:List Value}(hr:Md W (Vx W) (enc1 F t x) v)(hw:YF F t x)(h:VA F W tys cs):VA F W (t::tys) (v::cs):=by
 obtain⟨a,h1,h2,h3⟩:=h
 refine⟨(x,a),by simp[h1],?_,.cons hw h3⟩
 intro k d u hd hu
 cases k with
 | zero=>simp only[OW,Rh,NI]at hd hu;subst hd hu;exact hr
 | succ k=>exact h2 k d u (by simpa[OW]using hd) (by simpa using hu)
theorem VA.one{W:World}{t:Ty}{v:Value}{x:ET F t}(hr:Md W (Vx W) (enc1 F t x) v)(hw:YF F t x):VA F W [t] [v]:=.cons hr hw .nil
theorem VA.append{W:World}:∀{s t:List Ty}{cs ds:List Value},VA F W s cs→VA F W t ds→VA F W (s++t) (cs++ds)
 | [],t,cs,ds,h,k=>by obtain⟨a,h1,_,_⟩:=h;have:cs = []:=TQ h1;subst this;exact k
 | x::s,t,cs,ds,h,k=>by
  obtain⟨a,h1,h2,h3⟩:=h
  match cs,h1 with
  | c::cs,h1=>
   cases h3 with
   | cons h3 h4=>
    exact .cons (h2 0 _ c rfl rfl) h3 (VA.append ⟨a.2,by simpa using h1,λk d v hd hv=>h2 (k+1) d v (by simpa[OW]using hd) (by simpa using hv),h4⟩ k)
def RdT(F:Fam)(W:World)(t:Ty)(cs:List Value)(x:ET F t):Prop:=
 cs.length=LV F t∧(∀(k:Nat)(d:ND F)(v:Value),(LZ F t x)[k]? = some d→cs[k]? = some v→Md W (Vx W) d v)∧YF F t x
theorem VA.toT{W:World}{t:Ty}{cs:List Value}(h:VA F W (xu F t) cs):∃x:ET F t,RdT F W t cs x:=by
 obtain⟨a,h1,h2,h3⟩:=h
 have st:∀{n:Nat}(a:M7 F (F.fs n)),cs.length=(F.fs n).length→(∀(k:Nat)(d:ND F)(v:Value),(OW F (F.fs n) a)[k]? = some d→cs[k]? = some v→Md W (Vx W) d v)→WfF F (F.fs n) a→∃x:ET F (.st n),RdT F W (.st n) cs x:=by
  intro n a k1 k2 k3
  exact⟨F.up n a,k1,by simpa only[LZ,F.um]using k2,.st (by rw[F.um];exact k3)⟩
 have one:∀{t:Ty}(a:M7 F [t]),WfF F [t] a→YF F t a.1:=by
  intro t a h
  cases h with
  | cons h _=>exact h
 cases t with
 | st n=>exact st a h1 h2 h3
 | int k=>exact⟨a.1,h1,h2,one a h3⟩
 | bool=>exact⟨a.1,h1,h2,one a h3⟩
 | str=>exact⟨a.1,h1,h2,one a h3⟩
 | slice t=>exact⟨a.1,h1,h2,one a h3⟩
def YW(rd:TypeId→List Ty→Bool)(sz:TypeId→Nat):List Field→Nat→List Ty→Bool
 | [],_,tys=>tys.isEmpty
 | f::fs,off,tys=>Nat.beq f.offset off&&Nat.ble (sz f.type) tys.length&&rd f.type (tys.take (sz f.type))&&YW rd sz fs (off+sz f.type) (tys.drop (sz f.type))
def YX(rd:List Ty→Bool)(sz:Nat):Nat→List Ty→Bool
 | 0,tys=>tys.isEmpty
 | n+1,tys=>Nat.ble sz tys.length&&rd (tys.take sz)&&YX rd sz n (tys.drop sz)
def rdB(F:Fam)(P:Program):Nat→TypeId→List Ty→Bool
 | 0,_,_=>false
 | f+1,t,tys=>match P.underlying t with
  | some (.int k)=>match tys with | [.int k']=>decide (k=k') | _=>false
  | some .bool=>match tys with | [.bool]=>true | _=>false
  | some .string=>match tys with | [.str]=>true | _=>false
  | some (.slice e)=>match tys with | [.slice tt]=>rdB F P f e (xu F tt)&&Nat.beq (P.cellsOf e) (LV F tt)&&Nat.blt 0 (LV F tt) | _=>false
  | some (.struct fs)=>Nat.beq (P.cellsOf t) tys.length&&YW (rdB F P f) P.cellsOf fs.toList 0 tys
  | some (.array n e)=>Nat.beq (P.cellsOf t) tys.length&&YX (rdB F P f e) (P.cellsOf e) n tys
  | _=>false
variable{H:Type}{enc:TypeId×Value→H}{P:Program}{W:World}
theorem wM{a:Addr}{n:Nat}{cs:List Value}(h:W.cells? 0 a n=some cs):cs.length=n∧∀i,i<n→W.cell? (a.add i)=cs[i]?:=by
 unfold World.cells? at h;rw[if_pos (QeQ _)]at h
 exact⟨by simpa using mapM_some_length h,λi hi=>mapM_some_get h i i (by simp[hi])⟩
theorem Ch{α : Type}{Q:Nat→α→Prop}:∀(n:Nat),(∀i,i<n→∃x,Q i x)→∃l:List α,l.length=n∧∀i x,l[i]? = some x→Q i x
 | 0,_=>⟨[],rfl,by simp⟩
 | n+1,h=>by
  obtain⟨l,h1,h2⟩:=Ch n (λi hi=>h i (by omega))
  obtain⟨x,hx⟩:=h n (by omega)
  refine⟨l++[x],by simp[h1],λi y hy=>?_⟩
  by_cases hi:i<n
  ·rw[Ru (by omega)]at hy;exact h2 i y hy
  ·rw[RD (by omega)]at hy
   have:i=n:=by have:=(Lb.1 hy).1;simp at this;omega
   subst this;rw[h1]at hy;simp at hy;subst hy;exact hx
theorem Ce{α : Type}{sz:Nat}(h0:0<sz):∀{es:List (List α)} (_:∀e∈es,e.length=sz) {k:Nat} {d:α} (_:es.flatten[k]? = some d),∃e,es[k / sz]? = some e∧e[k % sz]? = some d
 | [],_,k,d,h=>by simp at h
 | e::es,hs,k,d,h=>by
  have he:=hs e (by simp)
  rw[YQ]at h;by_cases hk:k<sz
  ·rw[Ru (by omega)]at h
   exact⟨e,by rw[Nat.div_eq_of_lt hk];rfl,by rw[Nat.mod_eq_of_lt hk];exact h⟩
  ·rw[RD (by omega),he]at h
   obtain⟨e',h1,h2⟩:=Ce h0 (λe he=>hs e (by simp[he])) h
   refine⟨e',?_,?_⟩
   ·rw[Nat.div_eq_sub_div h0 (by omega)];simpa using h1
   ·rw[Nat.mod_eq_sub_mod (by omega)];exact h2
theorem zm:∀(f:Nat){fuel:Nat}{t:TypeId}{tys:List Ty} {cs:List Value} {x:DataW H×List MemPlace},rdB F P f t tys=true→DataW.trod enc P W 0 (λ_=>true) true fuel t cs=some x→VA F W tys cs
 | 0,fuel,t,tys,cs,x,hb,h=>by simp[rdB]at hb
 | f+1,fuel,t,tys,cs,x,hb,h=>by
  unfold rdB at hb;split at hb
  ·rename_i k ht;split at hb
   ·rename_i k'
    have hk:k=k':=by simpa using hb
    subst hk;obtain⟨n,rfl,_,hw⟩:=DataW.trod_int ht h;exact .one (t:=.int k) (.i k n) (.int hw)
   ·cases hb
  ·rename_i ht;split at hb
   ·obtain⟨b,rfl,_⟩:=DataW.trod_bool ht h;exact .one (t:=.bool) (.b b) (.bool b)
   ·cases hb
  ·rename_i ht;split at hb
   ·obtain⟨s,rfl,_,hl⟩:=DataW.trod_string ht h;refine .one (t:=.str) (x:=s.data.toList) (v:=.string s) ?_ (.str ?_)
    ·have:=Md.s (F:=F) (w:=W) (Lj:=Vx W) s.data.toList;exact this
    ·exact hl
   ·cases hb
  ·rename_i e ht;split at hb
   ·rename_i tt;simp only[Ng]at hb;obtain⟨⟨hb1,hb2⟩,hb3⟩:=hb;have hsz:=Q_ hb2;have hpos:0<LV F tt:=R6.mp hb3;rcases DataW.trod_slice ht h with⟨rfl,_⟩ | ⟨a,len,cap,elems,rest,n,_,rfl,_,_,hlc,hcm,hel,h1,h2,_⟩
    ·exact .one (t:=.slice tt) (x:=[]) (.sl0 tt none) (.slice (by simp) (by simp))
    ·
     have hall:∀i,i<len→∃x:ET F tt,∃cs,W.cells? 0 (a.add (i*LV F tt)) (LV F tt)=some cs∧RdT F W tt cs x:=by
      intro i hi;have hbind:=h1 i hi
      have hlt:i<elems.length:=by omega
      rw[La hlt,hsz,QcL]at hbind;obtain⟨cs,hcs,htr⟩:=hbind;obtain⟨x,hx⟩:=(zm f hb1 htr).toT;exact⟨x,cs,hcs,hx⟩
     by_cases hcap:cap=0
     ·subst hcap
      have:len=0:=by omega
      subst this
      exact .one (t:=.slice tt) (x:=[]) (.sl0 tt (some a)) (.slice (by simp) (by simp))
     ·
      have adU:∃cs,W.cells? 0 a (LV F tt)=some cs:=by
       have e0:a.add (0*LV F tt)=a:=by simp[Addr.add]
       by_cases hl0:0<len
       ·obtain⟨_,cs,hcs,_⟩:=hall 0 hl0;rw[e0]at hcs;exact⟨cs,hcs⟩
       ·have hl0:len=0:=by omega
        subst hl0;obtain⟨hr1,hr2⟩:=h2 rfl
        have hbind:=hr2 0 (by omega)
        have hlt:0<rest.length:=by omega
        rw[La hlt,hsz,QcL]at hbind;obtain⟨cs,hcs,_⟩:=hbind;simp only[OY]at hcs;rw[e0]at hcs;exact⟨cs,hcs⟩
      obtain⟨cs0,apt⟩:=adU;obtain⟨Xr,akS⟩:=wM apt;have hc0:=akS 0 hpos
      have e1:a.add 0=a:=by simp[Addr.add]
      rw[e1,La (by omega)]at hc0
      have hblk:a.block<W.heap.size∧a.spot=none:=by
       unfold World.cell? at hc0;split at hc0
       ·rename_i hh;refine⟨(Ws.1 hh).1,?_⟩
        cases hs:a.spot with
        | none=>rfl
        | some s=>rw[hs]at hc0;simp at hc0
       ·cases hc0
      obtain⟨b,o,sp⟩:=a;obtain⟨hb0,hs0⟩:=hblk;simp only at hb0 hs0;subst hs0
      have hadd:∀o i,(⟨b,o,none⟩:Addr).add i=⟨b,o+i,none⟩:=by
       intro o i;unfold Addr.add;split
       ·rename_i h0;rw[h0];rfl
       ·rfl
      obtain⟨l,hl,hq⟩:=Ch len hall
      have hcell:∀k d,(cells F tt l)[k]? = some d→∃v,W.cell? ⟨b,o+k,none⟩=some v∧Md W (Vx W) d v:=by
       intro k d hk
       obtain⟨e',q1,q2⟩:=Ce hpos (sz:=LV F tt) (es:=l.map (LZ F tt)) (by intro e he;obtain⟨x,_,rfl⟩:=RA.1 he;exact bC F tt x) hk
       rw[Rf,Wp]at q1;obtain⟨x,q3,rfl⟩:=q1;obtain⟨cs,q4,q5,q6,_⟩:=hq _ x q3;obtain⟨q7,q8⟩:=wM q4;have hmod:=Nat.mod_lt k hpos;have hc:=q8 (k % LV F tt) hmod
       rw[hadd,hadd,La (by omega),UF,Nat.mul_comm,Nat.div_add_mod]at hc
       exact⟨_,hc,q6 _ d _ q2 (La (by omega))⟩
      refine .one (t:=.slice tt) (x:=l) ?_ (.slice (by rw[hl];omega) ?_)
      ·have:=Md.sl (F:=F) (w:=W) (Lj:=Vx W) tt l b o cap (λk=>(W.cell? ⟨b,o+k,none⟩).getD undef) hb0 (by rw[hl];exact hlc) hcm
        (λk d hk=>by obtain⟨v,k1,k2⟩:=hcell k d hk;rw[k1];rfl) (λk d hk=>by obtain⟨v,k1,k2⟩:=hcell k d hk;rw[k1];exact k2)
       rw[hl]at this;exact this
      ·intro x hx;obtain⟨i,hi,rfl⟩:=List.mem_iff_getElem.1 hx;obtain⟨_,_,_,_,hw⟩:=hq i _ (La hi);exact hw
   ·cases hb
  ·rename_i fs ht;simp only[Ng]at hb;have hlen:=Q_ hb.1;obtain⟨xs,n,_,_,hcl,hxl,hget⟩:=DataW.trod_struct ht h
   have key:∀(l:List Field)(i off:Nat)(tys:List Ty)(cs':List Value),cs'=cs.drop off→cs'.length=tys.length→YW (rdB F P f) P.cellsOf l off tys=true→(∀j f,l[j]? = some f→fs[i+j]? = some f)→VA F W tys cs':=by
    intro l
    induction l with
    | nil=>
     intro i off tys cs' hcs hl hr _
     have:tys = []:=by simpa[YW]using hr
     subst this;have:cs' = []:=TQ hl;subst this;exact .nil
    | cons fl l ih=>
     intro i off tys cs' hcs hl hr hfs;simp only[YW,Ng]at hr;obtain⟨⟨⟨r1,r2⟩,r3⟩,r4⟩:=hr;have r1:=Q_ r1;have r2:=Va r2
     have hf:=hget i fl (by simpa using hfs 0 fl rfl)
     have hlt:i<xs.length:=by
      rw[hxl]
      exact(Ws.1 (by simpa using hfs 0 fl rfl)).1
     rw[La hlt,r1,← hcs]at hf;have h1:=zm f r3 hf
     have h2:=ih (i+1) (off+P.cellsOf fl.type) (tys.drop (P.cellsOf fl.type)) (cs'.drop (P.cellsOf fl.type)) (by rw[hcs,QfY]) (by simp[hl]) r4 (λj f' hj=>by have:=hfs (j+1) f' (by simpa using hj);rwa [show i+1+j=i+(j+1)by omega])
     have:=h1.append h2
     rwa [Xe,Xe]at this
   exact key fs.toList 0 0 tys cs (by simp) (by rw[hcl,hlen]) hb.2 (λj f hj=>by simpa using hj)
  ·rename_i n e ht;simp only[Ng]at hb;have hlen:=Q_ hb.1;obtain⟨xs,n',_,_,hcl,hxl,hget⟩:=DataW.trod_array ht h
   have key:∀(m i:Nat)(tys:List Ty)(cs':List Value),cs'=cs.drop (i*P.cellsOf e)→cs'.length=tys.length→i+m=n→YX (rdB F P f e) (P.cellsOf e) m tys=true→VA F W tys cs':=by
    intro m
    induction m with
    | zero=>
     intro i tys cs' hcs hl hn hr
     have:tys = []:=by simpa[YX]using hr
     subst this;have:cs' = []:=TQ hl;subst this;exact .nil
    | succ m ih=>
     intro i tys cs' hcs hl hn hr;simp only[YX,Ng]at hr;obtain⟨⟨r1,r2⟩,r3⟩:=hr
     have hf:=hget i (by omega)
     have hlt:i<xs.length:=by omega
     rw[La hlt,← hcs]at hf;have h1:=zm f r2 hf
     have h2:=ih (i+1) (tys.drop (P.cellsOf e)) (cs'.drop (P.cellsOf e)) (by rw[hcs,QfY,TM]) (by simp[hl]) (by omega) r3
     have:=h1.append h2
     rwa [Xe,Xe]at this
   exact key n 0 tys cs (by simp) (by rw[hcl,hlen]) (by omega) hb.2
  ·cases hb
end
end Go.Fx
namespace Go.Fx
open Go Go.ChangeShapes Go.RowKit
set_option linter.unusedVariables false
set_option linter.unusedSimpArgs false
section
variable{F:Fam}{H:Type}{enc:TypeId×Value→H}{P:Program}{W:World}
def af3(F:Fam)(P:Program)(t:TypeId)(tt:Ty):Bool:=
 rdB F P 64 t (xu F tt)&&(match P.underlying t with
  | some (.struct _) | some (.array _ _)=>tt.OU
  | some (.int _) | some .bool | some .string | some (.slice _)=>!tt.OU
  | _=>false)
theorem D3{r:Reach}{b0:Nat}{t:TypeId}{tt:Ty}{v:Value}{d:DataW H}{ps:List MemPlace}(hb:af3 F P t tt=true)(hval:Value.okWide P W r b0 t v)(hd:DataW.Trod enc P W 0 (λ_=>true) true t v d ps) :
  ∃x:ET F tt,YF F tt x∧NC W (Vx W) tt [] x v []:=by
 simp only[af3,Ng]at hb;obtain⟨hb,hk⟩:=hb;obtain⟨fuel,hf⟩:=hd;obtain⟨x,h1,h2,h3⟩:=(zm 64 hb hf).toT;refine⟨x,h3,Ax ?_⟩
 have agg:(∃cs,v = .agg cs)→tt.OU=true→Pw W (Vx W) (LZ F tt x,tt.OU) v:=by rintro⟨⟨cs⟩,rfl⟩ hs;rw[hs];refine .agg ?_ (λk c y a b=>h2 k c y a b);rw[bC];exact h1
 have one:v.cells = #[v]→tt.OU=false→Pw W (Vx W) (LZ F tt x,tt.OU) v:=by
  intro hv hs;rw[hs]
  have hl:∃d,LZ F tt x = [d]:=by cases tt<;>first | exact⟨_,rfl⟩ | cases hs
  obtain⟨d,hd⟩:=hl;rw[hd]
  exact .one (h2 0 d v (by rw[hd];rfl) (by rw[hv];rfl))
 unfold Value.okWide at hval;split at hk
 ·rename_i fs ht;rw[ht]at hval;obtain⟨cs,rfl,_⟩:=hval;exact agg ⟨cs,rfl⟩ hk
 ·rename_i n e ht;rw[ht]at hval;obtain⟨cs,rfl,_⟩:=hval;exact agg ⟨cs,rfl⟩ hk
 ·rename_i k ht;simp only[ht,Cell.okWide,Cell.ok]at hval
  refine one ?_ (by simpa using hk)
  cases v<;>first | rfl | exact hval.elim
 ·rename_i ht;simp only[ht,Cell.okWide,Cell.ok]at hval
  refine one ?_ (by simpa using hk)
  cases v<;>first | rfl | exact hval.elim
 ·rename_i ht;simp only[ht,Cell.okWide,Cell.ok]at hval
  refine one ?_ (by simpa using hk)
  cases v<;>first | rfl | exact hval.elim
 ·rename_i e ht;simp only[ht,Cell.okWide,Cell.ok]at hval
  refine one ?_ (by simpa using hk)
  cases v<;>first | rfl | exact hval.elim
 ·cases hk
theorem sZ(hl:laidOutB P=true){W':World}{sp:Nat→Bool}(hb:Below W.heap.size W W'):∀{ts:List TypeId}{vs:List Value}{ds:List (DataW H)} {ps:List MemPlace},
  DataW.TrodAll enc P W 0 (λ_=>true) true ts vs ds ps→(ts.all λt=>P.readableRec t&&Nat.blt t P.types.size)=true→(∀x∈ps,x.block<W.heap.size)→(∀x∈ps,sp x.block=true)→
  DataW.TrodAll enc P W' 0 sp true ts vs ds ps
 | [],vs,ds,ps,h,_,_,_=>by obtain⟨rfl,rfl,rfl⟩:=trodAll_nil h;rfl
 | t::ts,vs,ds,ps,h,hr,hlt,hsp=>by
  obtain⟨v,vs1,d,ds1,a,b,rfl,rfl,rfl,h1,h2⟩:=trodAll_cons h;simp only[QeJ,Ng]at hr
  refine trodAll_cons_mk (WideElems.Trod_stays hl hr.1.1 (by simpa using hr.1.2) h1 (λx hx=>hb.same (hlt x (by simp[hx]))) (λx hx=>hsp x (by simp[hx]))) (sZ hl hb h2 hr.2 (λx hx=>hlt x (by simp[hx])) (λx hx=>hsp x (by simp[hx])))
theorem G6{fid:FuncId}{f:Func}{s:ChangeSpec}{tb:TypeId}{args:Array Value}{ds gs:List (DataW H)}{before:List MemPlace}
  (hl:laidOutB P=true) (hr:(f.params.toList.all λt=>P.readableRec t&&Nat.blt t P.types.size)=true) (hv:s.vars = []) (ht:f.resultTypes = #[tb]) (htb:P.underlying tb=some .bool)
  (hW:DataW.Whole enc P f.params.toList s.vars false W args.toList ds gs before) (hfn:s.fn H (ds++gs) = { results:=[.lit (.bool true)],args:=ds })
  (h:Calls P fid args W λe w'=>e = .returned (.bool true)∧Below W.heap.size W w') :
  Calls P fid args W λe W'=>∃v,e = .returned v∧s.post enc P f false true false false W args v W':=by
 have hW':=hW;obtain⟨p,q,hA,hV,rfl,hfz,hnd⟩:=hW;rw[hv]at hV;obtain⟨rfl,rfl⟩:=trodVars_none hV;refine h.mono λe W' ⟨he,hg⟩=>?_;subst he
 have hlt:∀x∈p,x.block<W.heap.size:=λx hx=>by simpa using hW'.lt x (by simp[hx])
 have args:∀sp:Nat→Bool,(∀x∈p,sp x.block=true)→DataW.TrodAll enc P W' 0 sp true f.params.toList args.toList (s.fn H (ds++[])).args p:=by intro sp hsp;rw[hfn];exact sZ hl hg hA hr hlt hsp
 have vars:∀sp:Nat→Bool,DataW.TrodVars enc P W' sp s.vars (s.fn H (ds++[])).vars []:=by intro sp;rw[hfn,hv];rfl
 have res:∀(b:Nat)(sp:Nat→Bool)(hd:Bool),DataW.TrodAll enc P W' b sp hd f.resultTypes.toList ((Value.bool true).resultList f.resultTypes.size) (s.fn H (ds++[])).results []:=by intro b sp hd;rw[hfn,ht];exact trodAll_cons_mk (shut_bool htb true) trodAll_mk0
 refine⟨_,rfl,ds,[],p++[],[],p,[],hW',res _ _ _,args _ (λx hx=>by simpa using hlt x hx),vars _,hg.frame _,λ_=>?_⟩
 refine⟨ok_one ht rfl (okWide_bool_mk htb _),_,_,([]++p)++[],⟨[]++p,[],trodAll_append (args _ (λ_ _=>rfl)) (res _ _ _),vars _,rfl,?_,λh=>by cases h⟩,?_⟩
 ·intro b off hp
  rw[hg.frozen (hlt _ (by simpa using hp))]
  exact hfz b off (by simpa using hp)
 ·intro x hx _;simpa using hx
theorem HP:dF (F:=F) P W (Vx W) [] () [] [] []:=⟨rfl,rfl,rfl⟩
theorem ut{t:Ty}{x:ET F t}{v:Value}{ks:List Kd}{a:HL F ks}{vs:List Value}(h:NC W (Vx W) t [] x v [])(k:dF P W (Vx W) ks a vs [] []):dF P W (Vx W) (.v t []::ks) (x,a) (v::vs) [] []:=
 ⟨v,vs,[],[],[],[],rfl,rfl,rfl,⟨h,rfl⟩,k⟩
theorem Dp{fid:FuncId}{sp:Spec F}(hf:O9 P fid sp){D:HL F sp.ks→Option Bool}(hD:fG sp .bool=some D){a:HL F sp.ks}(hd:D a=some true){vs:List Value}(hh:dF P W (Vx W) sp.ks a vs [] []) :
  Calls P fid ⟨vs⟩ W λe w'=>e = .returned (.bool true)∧Below W.heap.size W w':=by
 obtain⟨r',hr',hout⟩:=yV (P:=P) hD hd
 refine(hf.2 a r' hr' (Vx W) W vs [] [] hh ⟨by simp[Li],by simp[Li],by simp[Li]⟩ (λ_ h=>h)).mono ?_
 rintro e w' ⟨Rt,LU,Ml,rfl,h1,h2,h3,hdr,h4,h5,h6,h7,h8,h9,h10,h11⟩;obtain⟨v,rfl,_,hv⟩:=hout w' LU Rt [] Ml h9;have hn:=hv.OZ;subst hn;have hrep:=sW hv
 have:v = .bool true:=by
  generalize hc:(LZ F Ty.bool true,Ty.bool.OU)=p at hrep
  cases hrep with
  | one h=>cases hc;cases h;rfl
  | agg=>cases hc
 exact⟨by rw[this];rfl,⟨h1,h2,h3,h4,λb hb=>h5 b hb (by simp[Li])⟩⟩
end
set_option linter.unusedVariables false
set_option linter.unusedSimpArgs false
section
variable{F:Fam}{P:Program}
theorem GC{w:World}{Lj:Nat→Prop}{t:Ty}{v:Value}(h:Md (F:=F) w Lj (.sl t []) v):∃p cap,v = .slice p 0 cap:=by
 cases h with
 | sl0 p=>exact⟨_,_,rfl⟩
 | sl l b o cap f=>exact⟨_,_,rfl⟩
theorem qy{t e:TypeId}(h:P.underlying t=some (.slice e))(w:World)(a:Option Addr)(n c n2 c2:Nat):(binOp .eql t (.slice a n c) (.slice none n2 c2)).run P w = .ok (.bool a.isNone) w:=Lib.run_eql_slice_nil w _ _ a n c n2 c2 h
theorem lU{f:FuncId}{t:Ty}{b:Nat}
  (h:O9 (F:=F) P f ⟨[.v (.slice t) []],[.v (.slice t) [0]],λa=>cond a.1.isEmpty none ((app b [] a.1).bind λl=>some l)⟩)
  (hn:∀(p:Option Addr)(cap:Nat)(w:World),Calls P f ⟨[.slice p 0 cap]⟩ w λe w'=>∃p',e = .returned (.slice p' 0 0)∧RowKit.Below w.heap.size w w'∧w.drawn≤w'.drawn) (hmp:t.Nz=false:=by rfl) :
  O9 (F:=F) P f ⟨[.v (.slice t) []],[.v (.slice t) [0]],λa=>app b [] a.1⟩:=by
 refine⟨h.1,?_⟩;intro a r hr Lj w vs LP Mg Ot hpl MR;obtain⟨l,u⟩:=a
 cases l with
 | cons x l=>refine h.2 (x::l,u) r ?_ Lj w vs LP Mg Ot hpl MR;dsimp only at hr ⊢;rw[hr];rfl
 | nil=>
  have hr':r=([]:List (ET F t)):=by
   dsimp only[app]at hr;split at hr
   ·exact(Option.some.inj hr).symm
   ·cases hr
  subst hr';obtain⟨v,vs',p1,p2,b1,b2,rfl,rfl,rfl,⟨h1,rfl⟩,rfl,rfl,rfl⟩:=Ot;unfold NC at h1;simp only[Ty.OU,R3,if_false,LZ,MH,Mh]at h1;obtain⟨h1,rfl⟩:=h1;obtain⟨p,cap,rfl⟩:=GC h1;refine(hn p cap w).mono ?_;rintro e w' ⟨p',rfl,hb,hdr⟩
  refine⟨[.slice p' 0 0],Lj,[none],rfl,hb.os,hb.tape,hb.output,hdr,hb.size,λk hk _=>hb.block k hk,λ_ h=>h,λ_ h=>.inl h,λk hk=>UK (MR k hk) hb.size,?_,⟨by simp[Li],by simp[Li],by simp[Li]⟩,by simp[Li]⟩
  refine⟨.slice p' 0 0,rfl,rfl,?_,rfl⟩;unfold NC;simp only[Ty.OU,R3,if_false,LZ,MH,Mh,Nat.beq,if_true]
  exact⟨none,[],rfl,by rw[nW hmp];rfl,by rw[qf hmp];exact⟨p',rfl⟩,rfl⟩
end
end Go.Fx
