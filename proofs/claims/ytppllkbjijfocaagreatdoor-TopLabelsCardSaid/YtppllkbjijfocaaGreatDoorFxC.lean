/-
  The framework, third part: regions in any order, code, loops over maps, functions, arguments as data, laws that say true. Conditions: none.
-/
import Derived.Test.YtppllkbjijfocaaGreatDoorFxB
import Derived.Eval
import Derived.Scope
import Derived.Maps.RangeRun
import Derived.Carry
import Derived.ChangeSlices
import Derived.OpenShut
import Derived.ProofKit
import Derived.WalkKit
import Derived.Lib.SliceRun
namespace Go.Fx
open Go
set_option linter.unusedVariables false
set_option linter.unusedSimpArgs false
def Pp:NS→List Nat→NS
 | ns,[]=>ns
 | ns,p::ps=>Pp (ns.set p none) ps
def Tq:Option (Nat×Nat×Nat)→List Nat
 | some (b,_)=>[b]
 | none=>[]
theorem qF(q:Option (Nat×Nat×Nat))(ns:NS):Km (q::ns)=Tq q++Km ns:=by
 cases q with
 | none=>rfl
 | some q=>obtain⟨b,c⟩:=q;rfl
theorem zP(q:Option (Nat×Nat×Nat))(l:List Pl):Ht (KR q::l)=Tq q++Ht l:=by
 cases q with
 | none=>rfl
 | some q=>obtain⟨b,c,n⟩:=q;simp[KR,Ht,Tq,Km]
theorem AU{q:Option (Nat×Nat×Nat)}:∀{ns:NS}{p:Nat}{q0:Option (Nat×Nat×Nat)},ns[p]? = some q0→(Tq q++Km ns).Perm (Tq q0++Km (ns.set p q))
 | [],p,q0,h=>by simp at h
 | y::r,0,q0,h=>by simp only[M4,KV]at h;subst h;rw[List.set_cons_zero,qF,qF,← MF,← MF];exact List.perm_append_comm.append_right _
 | y::r,p+1,q0,h=>by
  rw[List.set_cons_succ,qF,qF]
  have ih:=AU (q:=q) (ns:=r) (p:=p) (by simpa using h)
  have h1:(Tq q++(Tq y++Km r)).Perm (Tq y++(Tq q++Km r)):=by rw[← MF,← MF];exact List.perm_append_comm.append_right _
  have h2:(Tq y++(Tq q0++Km (r.set p q))).Perm (Tq q0++(Tq y++Km (r.set p q))):=by rw[← MF,← MF];exact List.perm_append_comm.append_right _
  exact h1.trans ((ih.append_left _).trans h2)
theorem vL:∀{ps:List Nat}{ns:NS},(Pp ns ps).length=ns.length
 | [],ns=>rfl
 | p::ps,ns=>by simp only[Pp];rw[vL,RB]
theorem Av:∀{ps:List Nat}{ns:NS}{k:Nat},k∉ps→(Pp ns ps)[k]? = ns[k]?
 | [],ns,k,h=>rfl
 | p::ps,ns,k,h=>by
  simp only[Pp]
  rw[Av (λhk=>h (by simp[hk])),List.getElem?_set_ne (λe=>h (by simp[e]))]
theorem za:∀{ps:List Nat}{ns:NS}{k:Nat}{q:Option (Nat×Nat×Nat)},ns[k]? = some none→(Pp ns ps)[k]? = some q→q=none
 | [],ns,k,q,h0,h=>by simp only[Pp]at h;rw[h0]at h;cases h;rfl
 | p::ps,ns,k,q,h0,h=>by
  simp only[Pp]at h;refine za (ns:=ns.set p none) ?_ h;by_cases hp:p=k
  ·subst hp;rw[QfE (IS.1 h0).1]
  ·rw[List.getElem?_set_ne hp];exact h0
theorem CU:∀{ps:List Nat}{ns:NS}{k:Nat}{q:Option (Nat×Nat×Nat)},k∈ps→(Pp ns ps)[k]? = some q→q=none
 | p::ps,ns,k,q,hk,h=>by
  simp only[Pp]at h;by_cases hp:p=k
  ·subst hp;by_cases hlt:p<ns.length
   ·exact za (ns:=ns.set p none) (by rw[QfE hlt]) h
   ·have:p<(Pp (ns.set p none) ps).length:=(IS.1 h).1;rw[vL,RB]at this;exact absurd this hlt
  ·exact CU ((Li.1 hk).resolve_left (λe=>hp e.symm)) h
theorem xD:∀{ps:List Nat}{ns:NS},ps.Nodup→(∀p∈ps,p<ns.length)→(Km ns).Perm (Ht (ps.map λp=>KR ((ns[p]?).getD none))++Km (Pp ns ps))
 | [],ns,_,_=>by simp[Ht,Pp]
 | p::ps,ns,hn,hl=>by
  obtain⟨h1,h2⟩:=Pv.1 hn
  have hp:=hl p (by simp)
  have hq:ns[p]? = some ns[p]:=IR hp;have e1:=AU (q:=none) hq;simp only[Tq,OY]at e1
  have ih:=xD (ps:=ps) (ns:=ns.set p none) h2 (λp' h=>by rw[RB];exact hl p' (by simp[h]))
  have e2:(ps.map λp'=>KR (((ns.set p none)[p']?).getD none))=ps.map λp'=>KR ((ns[p']?).getD none):=by
   refine QdP λp' hp'=>?_
   rw[List.getElem?_set_ne (λe=>h1 (by rw[e];exact hp'))]
  rw[e2]at ih;simp only[KZ,zP,Pp];rw[hq,SQ,MF];refine e1.trans ?_;exact ih.append_left _
section
variable{F:Fam}{P:Program}{T:TypeId→Option (TI F)}{Γ : Ctx F}{o:Oper}{vals:List (Dat F)}{mm:Nat→Option (Jw F)}{c:Nat}{R:Type}{K:Oq F→Option R}
variable{own:Ow}{g:G}{w:World}{m:Nat→Option (Jw F)}{u:Nat→Bool}{a:Act}
theorem Je.ME(hm:Je own g w m){id k n:Nat}(h:Lb n (g.ids id) (g.ids k)):Je own g w (Kc m [(id,some (.ME k n))]):=by
 have hother:∀x,x≠id→Kc m [(id,some (.ME k n))] x=m x:=λx hx=>by
  simp only[Kc]
  have:Nat.beq id x=false:=by
   cases hb:Nat.beq id x with
   | false=>rfl
   | true=>exact absurd (M5 hb).symm hx
  rw[this];simp
 have hself:Kc m [(id,some (.ME k n))] id=some (.ME k n):=by simp[Kc]
 refine hm.Ml (S:=λx=>x=id) (Le.refl g w) (λx hx B hB=>by rw[hother x hx]at hB;exact hB) (λ_ _=>rfl) (λx B b hx hB ho hb=>⟨rfl,(hm.own x B b hB ho hb).2⟩) ?_ hm.IV hm.io hm.len
 rintro x B rfl hB;rw[hself]at hB;cases hB
 exact⟨h,λb ho=>by cases ho⟩
theorem vT:∀{rs:List (Jw F)} {c:Nat} {p:Nat×Jw F},p∈nmF c rs→∃j,p.1=c+j∧rs[j]? = some p.2
 | B::r,c,p,h=>by
  rcases Li.1 h with rfl | h
  ·exact⟨0,rfl,rfl⟩
  ·obtain⟨j,h1,h2⟩:=vT h
   exact⟨j+1,by omega,by simpa using h2⟩
theorem xn(hm:Je own g w m)(hall:∀b,w.heap.size≤b→own.o b){id c i:Nat}{t:Ty}{l:List (ET F t)}{x:ET F t}(hB:m id=some (.KM t l))(hx:l[i]? = some x){ks:List Nat}(hks:ks.Nodup)
  {rs:List (Jw F)} (hrs:rs.length=ks.length) (hr:∀(j:Nat)(B:Jw F),rs[j]? = some B→∃q t2 l2,ks[j]? = some q∧B = .row t2 l2∧(Jc F t x)[q]? = some (.sl t2 l2)) (hkl:∀q∈ks,q<Jf F t)
  (hf:∀j,j<ks.length+1→g.ids (c+j)=none) :
  ∃(g2:G)(b cap:Nat)(n:Nat×NS),Le g w g2 w∧Je own g2 w (Kc m (Nk id c t l i ks rs))∧g2.IV=g.IV∧g2.len=g.len∧(∀y,¬ (c≤y∧y<c+ks.length+1)→g2.ids y=g.ids y)∧
   g.ids id=some (some (b,cap,n))∧g2.ids c=some (some (b,cap,n.1,Pp n.2 (ks.map (i*Jf F t + ·))))∧(∀j q,ks[j]? = some q→g2.ids (c+1+j)=some (KR ((n.2[i*Jf F t+q]?).getD none)))∧
   M8 w g.IV t l (some (b,cap,n))∧(∀y b',g2.blk y b'→(g.blk y b'∧¬ (c≤y∧y<c+ks.length+1))∨g.blk id b'):=by
 obtain⟨pl,hid,hO⟩:=hm.ok id _ hB;have hlt:i<l.length:=(IS.1 hx).1
 cases pl with
 | none=>have:l = []:=hO;subst this;simp at hlt
 | some q=>
 obtain⟨b,cap,n⟩:=q;obtain⟨q1,q2,q3,q4,q5,cur,e,q6,q7,q8⟩:=hO;have hO':M8 w g.IV t l (some (b,cap,n)):=⟨q1,q2,q3,q4,q5,cur,e,q6,q7,q8⟩
 have hpos:∀q∈ks,i*Jf F t+q<n.2.length:=by intro q hq;have:=hkl q hq;rw[q4,d5];have h3:(i+1)*Jf F t≤l.length*Jf F t:=MW _ hlt;rw[Rh]at h3;omega
 obtain⟨ps,hps⟩:∃ps,ps=ks.map (i*Jf F t + ·):=⟨_,rfl⟩
 have hpn:ps.Nodup:=by
  subst hps
  exact List.pairwise_map.2 (hks.imp λh e=>h (by simpa using e))
 have hpl:∀p∈ps,p<n.2.length:=by subst hps;intro p hp;obtain⟨q,h1,rfl⟩:=Ot.1 hp;exact hpos q h1
 have hperm:=xD hpn hpl;obtain⟨J9,Xh⟩:∃J9:List Pl,J9=some (b,cap,n.1,Pp n.2 ps)::ps.map λp=>KR ((n.2[p]?).getD none):=⟨_,rfl⟩
 have VZ:J9.length=ks.length+1:=by rw[Xh,hps];simp
 have Y7:Ht J9=b::(Km (Pp n.2 ps)++Ht (ps.map λp=>KR ((n.2[p]?).getD none))):=by rw[Xh];rfl
 have Rw:(b::Km n.2).Perm (Ht J9):=by rw[Y7];exact(hperm.trans QcN).cons _
 have hmem:∀b',b'∈Ht J9↔g.blk id b':=by
  intro b';rw[← Rw.mem_iff];constructor
  ·intro h;exact⟨b,(cap,n),hid,h⟩
  ·rintro⟨b0,c0,h1,h2⟩;rw[hid]at h1;cases h1;exact h2
 have hown1:∀b',g.blk id b'→own.o b'∧¬ g.IV b':=λb' h=>hm.own id _ b' hB rfl h;have acg:∀b',g.blk id b'→b'<w.heap.size:=λb' h=>(hm.ok id _ hB).place hm.IV rfl h
 have Tc:Ht ([some id].map (J7 g))=b::Km n.2:=by simp[J7,hid,Ht]
 have hP0:N8 w g.IV (Ht ([some id].map (J7 g))):=by rw[Tc];refine⟨q5,λb' h=>(hown1 b' ⟨b,(cap,n),hid,h⟩).2,λb' h=>acg b' ⟨b,(cap,n),hid,h⟩⟩
 have hP1:N8 w g.IV (Ht []++Ht J9):=by
  refine⟨?_,λb' h=>(hown1 b' ((hmem b').1 (by simpa[Ht]using h))).2,λb' h=>acg b' ((hmem b').1 (by simpa[Ht]using h))⟩
  simp only[Ht,OY];exact Rw.nodup_iff.1 q5
 have hfr:∀k,k<J9.length→g.ids (c+k)=none:=λk hk=>hf k (by omega)
 have Vi:Le g w (g.back c J9 g.IV) w:=by
  refine⟨λy r hy=>?_,λ_ h=>h,λ_ _=>rfl,λ_ h=>h,λ_ _=>rfl⟩
  rw[cy (λhc=>by have:=hfr (y - c) (by omega);rw[QdO hc.1]at this;rw[this]at hy;cases hy)]
  exact hy
 have hnm:Mx (g.back c J9 g.IV) c J9:=sK
 have hc0:(g.back c J9 g.IV).ids c=some (some (b,cap,n.1,Pp n.2 ps)):=by
  have:=hnm 0 _ (by rw[Xh];rfl)
  simpa using this
 have hcj:∀j q,ks[j]? = some q→(g.back c J9 g.IV).ids (c+1+j)=some (KR ((n.2[i*Jf F t+q]?).getD none)):=by
  intro j q hj
  have:=hnm (j+1) (KR ((n.2[i*Jf F t+q]?).getD none)) (by rw[Xh,WW,hps,List.map_map,MN,hj];rfl)
  rw[show c+1+j=c+(j+1)by omega]
  exact this
 have hback:Og (g.back c J9 g.IV) w c J9.length [] ((c,.NY t l i ks)::nmF (c+1) rs):=by
  intro p hp;rcases Li.1 hp with rfl | hp
  ·refine⟨rfl,⟨_,hc0,q1,q2,q3,by rw[vL];exact q4,?_,cur,e,q6,q7,?_⟩,.inl ⟨0,rfl,by omega⟩⟩
   ·have:(b::Km (Pp n.2 ps)).Sublist (b::(Km (Pp n.2 ps)++Ht (ps.map λp=>KR ((n.2[p]?).getD none)))):=(List.sublist_append_left _ _).cons_cons _;exact(Y7▸Rw.nodup_iff.1 q5:(b::(Km (Pp n.2 ps)++Ht (ps.map λp=>KR ((n.2[p]?).getD none)))).Nodup).sublist this
   ·intro k d y p h1 h2 h3;constructor
    ·rintro⟨q,hq,rfl⟩
     have hin:i*Jf F t+q∈ps:=by rw[hps];exact Ot.2 ⟨q,hq,rfl⟩
     have hp0:∃p0,n.2[i*Jf F t+q]? = some p0:=⟨_,IR (hpl _ hin)⟩;obtain⟨p0,hp0⟩:=hp0;refine⟨CU hin h3,?_⟩;have:=q8 _ d y p0 h1 h2 hp0
     cases d with
     | sl t2 l2=>
      have hv:=this.2
      cases p0 with
      | none=>obtain⟨p,rfl⟩:=hv;rfl
      | some q=>simp only[KR,Lf]at hv;subst hv;rfl
     | _=>exact this.2.2.oneCell
    ·intro hno
     have hout:k∉ps:=by rw[hps];intro hk;obtain⟨q,hq1,hq2⟩:=Ot.1 hk;exact hno ⟨q,hq1,hq2.symm⟩
     rw[Av hout]at h3;exact q8 k d y p h1 h2 h3
  ·obtain⟨j,h1,h2⟩:=vT hp;obtain⟨q,t2,l2,hq,hB2,hd⟩:=hr j _ h2;have hjl:j<ks.length:=(IS.1 hq).1;obtain⟨y,B2⟩:=p;simp only at h1 h2 hB2;subst h1;subst hB2
   refine⟨rfl,?_,.inl ⟨j+1,by omega,by omega⟩⟩
   have hin:i*Jf F t+q∈ps:=by rw[hps];exact Ot.2 ⟨q,Rk hq,rfl⟩
   have anF:=hpl _ hin;have hp0:n.2[i*Jf F t+q]? = some n.2[i*Jf F t+q]:=IR anF;have hcell:=aQ hx hd
   have hcl:i*Jf F t+q<cur.length:=by
    have:(cells F t l).length≤cur.length:=by rw[q7,d5];exact MW _ q2
    omega
   have hC:=q8 _ _ _ _ hcell (IR hcl) hp0;have hname:=hcj j q hq;rw[hp0,SQ]at hname;obtain⟨hC1,hC2⟩:=hC
   cases hpp:n.2[i*Jf F t+q]with
   | none=>rw[hpp]at hC1 hname;exact .inl ⟨hname,hC1⟩
   | some z=>obtain⟨b2,cap2,n2⟩:=z;rw[hpp]at hC1 hname;obtain⟨r1,r2,r3,Uv,e2,r4,r5,r6⟩:=hC1;cases r1;exact .inr ⟨b2,cap2,Uv,e2,hname,r4,r2,r3,r5,r6⟩
 have hM:=qO (g1:=g) (m1:=m) (os:=[some id]) (bx:=[]) (Jo:=[]) (J9:=J9) (PG:=g.IV) (Jg:=g.IV) (I:=g.IV) (w':=w) hm hm rfl rfl hall rfl hfr
  (λid' h=>by simp only[IU,KV]at h;subst h;exact⟨_,hB,hB,rfl⟩) (λid' h=>by simp at h) rfl hP0 (λ_ h=>h) (Ku _) (λ_ _ _=>rfl) (λ_ h=>h) (λ_ h=>h) (λb h=>.inl h) hm.IV hP1
  (λb' h=>.inl (by rw[Tc,Rw.mem_iff];simpa[Ht]using h)) hback
 refine⟨g.back c J9 g.IV,b,cap,n,Vi,?_,rfl,rfl,λy hy=>cy (by rw[VZ];omega),hid,hps▸hc0,hcj,hO',?_⟩
 ·have:=hM.ME (id:=id) (k:=c) (n:=l.length) (.inl ⟨b,cap,n,(n.1,Pp n.2 ps),Vi.ids _ _ hid,hc0,rfl,q1⟩)
  have e1:Nk id c t l i ks rs=(nones (Kh [some id])++blks ((c,.NY t l i ks)::nmF (c+1) rs))++[(id,some (.ME c l.length))]:=by simp[Nk,nones,Kh,blks]
  rw[e1,dC];exact this
 ·intro y b' hb;by_cases hy:c≤y∧y<c+ks.length+1
  ·right;obtain⟨b0,c0,h1,h2⟩:=hb;simp only[G.back]at h1
   rw[if_pos (by rw[VZ];omega)]at h1
   exact(hmem b').1 (bO.2 ⟨_,b0,c0,h1,h2⟩)
  ·left;obtain⟨b0,c0,h1,h2⟩:=hb
   rw[cy (by rw[VZ];omega)]at h1
   exact⟨⟨b0,c0,h1,h2⟩,hy⟩
theorem DB(hm:Je own g w m){id c:Nat}{t:Ty}{l:List (ET F t)}(hB:m id=some (.KM t l))(hf:g.ids c=none) :
  ∃g',Je own g' w (Kc m [(id,none),(c,some (.KM t l)),(id,some (.ME c l.length))])∧Stp m g w g' w∧∀y,y≠c→g'.ids y=g.ids y:=by
 obtain⟨pl,hid,hO⟩:=hm.ok id _ hB;obtain⟨k1,k2⟩:=fT (rm:=[id]) (id:=c) (pl:=pl) (B:=.KM t l) (w':=w) hm hf
  (λb0 c' e b hb=>.inr ⟨id,by simp,_,hB,rfl,b0,c',by rw[hid,e],hb⟩) rfl rfl rfl (Ku _) (Ku _) (λ_ _ _=>rfl) (λg' hle hi=>⟨pl,hi,by exact M8.Ml hle.IV hle.heap (λ_ _ _ _ _=>rfl) hO⟩)
 refine⟨g.name c pl,?_,k2,λy hy=>bE _ _ _ hy⟩
 have h2:=k1.ME (id:=id) (k:=c) (n:=l.length) (by
  rw[k2.le.ids _ _ hid,a9]
  cases pl with
  | none=>have:l = []:=hO;subst this;exact .inr ⟨rfl,rfl,rfl⟩
  | some q=>obtain⟨b,cap,n⟩:=q;exact .inl ⟨b,cap,n,n,rfl,rfl,rfl,hO.1⟩)
 have e:([(id,none),(c,some (.KM t l)),(id,some (.ME c l.length))]:List (Nat×Option (Jw F)))=([id].map (λr=>(r,none))++[(c,some (.KM t l))])++[(id,some (.ME c l.length))]:=rfl;rw[e,dC];exact h2
end
set_option linter.unusedVariables false
set_option linter.unusedSimpArgs false
section
variable{F:Fam}{P:Program}{Γ : Ctx F}{T:TypeId→Option (TI F)}{o:Oper}{vals:List (Dat F)}{mm:Nat→Option (Jw F)}{c:Nat}{R:Type}{K:Oq F→Option R}
theorem si{f:FuncId}(h:ba P f)(args:Array Value)(w:World):(callFunc f args).run P w = .ok (.enter f args) w:=by obtain⟨fn0,hf0,hf1,hf2⟩:=h;simp only[LC,MI,LV,callFunc,run_program,hf0,hf1,hf2,Nb,if_false]
theorem qA{fn:Operand}{args:Array Operand}{ats:Array TypeId}{a:Act}{w:World}{f:FuncId}{fs cs:List Value}(ho:o.op = .call { callee:=.value fn,args,argTypes:=ats })
  (hfn:a.eval fn = .func (.func f) ⟨fs⟩ ⟨cs⟩) (h:ba P f):(execOp a.eval o).run P w = .ok (.enter f ⟨fs++args.toList.map a.eval++cs⟩) w:=by
 have e:((⟨fs⟩:Array Value)++Array.map a.eval args++⟨cs⟩:Array Value)=⟨fs++args.toList.map a.eval++cs⟩:=by apply Array.ext';simp
 simp only[execOp,ho,resolve,Deferred.ofValue,hfn,LC,MI,LV,invoke,e,si h]
theorem rF{fn:Operand}{args:Array Operand}{ats:Array TypeId}(ho:o.op = .call { callee:=.value fn,args,argTypes:=ats })(a:Act):o.op.operands.toList.map a.eval=a.eval fn::args.toList.map a.eval:=by rw[ho];simp[Op.operands,Call.operands]
theorem sr{g:G}{w:World}{ds es:List (Dat F)}{vs us:List Value}(h:Kl P g w ds vs)(k:Kl P g w es us):Kl P g w (ds++es) (vs++us):=by
 induction ds generalizing vs with
 | nil=>rw[eh h];exact k
 | cons d ds ih=>obtain⟨v,vs',rfl,h1,h2⟩:=fk h;exact aP.2 ⟨h1,ih h2⟩
theorem A6(hΓ : Kr P Γ){fn:Operand}{args:Array Operand}{ats:Array TypeId}(ho:o.op = .call { callee:=.value fn,args,argTypes:=ats }){f:FuncId}{ds:List (Dat F)}
  (hv:∀(g:G)(w:World)(a:Act),Kl P g w vals (o.op.operands.toList.map a.eval)→∃fs cs,a.eval fn = .func (.func f) ⟨fs⟩ ⟨cs⟩∧Kl P g w ds (fs++args.toList.map a.eval++cs)) :
  Rule P o vals mm c K (yg Γ mm c K f ds):=by
 unfold yg;split
 ·exact ah
 ·rename_i sp hsp;split
  ·exact ah
  ·rename_i p hp;refine au (λhn=>aD λr hr=>?_) (λ_=>ah);simp only[KQ]at hn;intro r' hr';refine⟨_,hr',?_⟩;intro own g w a m u hle hm hd hall hfr hrep;obtain⟨fs,cs,h1,h2⟩:=hv g w a hrep;exact BR (m:=m) hΓ hm hle hd hall h2 hsp hp hn.1 hn.2 hr hfr (qA ho h1 (hΓ f sp hsp).1)
theorem vE(hΓ : Kr P Γ){fn:Operand}{args:Array Operand}{ats:Array TypeId}(ho:o.op = .call { callee:=.value fn,args,argTypes:=ats }){f:FuncId}{ds:List (Dat F)}
  (hv:∀(g:G)(w:World)(a:Act),Kl P g w vals (o.op.operands.toList.map a.eval)→∃fs cs,a.eval fn = .func (.func f) ⟨fs⟩ ⟨cs⟩∧Kl P g w ds (fs++args.toList.map a.eval++cs)) :
  Rule P o vals mm c K (u_ Γ mm c K f ds):=by
 unfold u_
 cases fgt Γ with
 | true=>exact A6 hΓ ho hv
 | false=>
 simp only[cond_false];split
 ·exact ah
 ·rename_i sp hsp;split
  ·exact ah
  ·rename_i p hp;refine au (λhn=>aD λr hr=>?_) (λ_=>ah);simp only[KQ]at hn;intro r' hr';refine⟨_,hr',?_⟩;intro own g w a m u hle hm hd hall hfr hrep;obtain⟨fs,cs,h1,h2⟩:=hv g w a hrep;exact BJ (m:=m) hΓ hm hle hd hall h2 hsp hp hn.1 hn.2 hr hfr (qA ho h1 (hΓ f sp hsp).1)
theorem EN{g:G}{w:World}{t:Ty}{x:ET F t}{v:Value}(h:L8 w g.IV (Jc F t x,t.K4) v):Jr P g w (aap t x) v:=by
 have one:∀{d:ND F},L8 w g.IV ([d],false) v→Jm w g.IV d v:=by
  intro d h;generalize hc:([d],false)=p at h
  cases h with
  | one h=>cases hc;exact h
  | agg=>cases hc
 cases t with
 | st n=>
  unfold aap;simp only[Ty.K4]at h;generalize hc:Jc F (.st n) x=cs at h ⊢
  cases h with
  | agg hl h=>
   refine .agg (by rw[Ox,hc,hl]) ?_
   intro k c y h1 h2;rw[MN,RF]at h1;obtain⟨d,h3,rfl⟩:=h1;exact .im (h k d y (hc▸h3) h2)
 | int k=>exact .c (.im (one h))
 | bool=>exact .c (.im (one h))
 | str=>exact .c (.im (one h))
 | slice t=>exact .c (.im (one h))
theorem wL{IV:Nat→Prop}{w:World}:∀{ks:List Ty}{a:HL F (ks.map λt=>.v t [])} {vs:List Value} {Ja:List Pl} {Jo:List Pl},bR P w IV (ks.map λt=>.v t []) a vs Ja Jo→Q_ w IV (Ms F ks (pT.R4 ks a)) vs
 | [],a,vs,Ja,Jo,h=>by
  obtain⟨rfl,_,_⟩:=h
  exact⟨rfl,by simp[Ms]⟩
 | t::ks,a,vs,Ja,Jo,h=>by
  obtain⟨v,vs',p1,p2,b1,b2,rfl,_,_,⟨h1,_⟩,h2⟩:=h;have hp:=h1.Lv;subst hp;obtain⟨h3,h4⟩:=wL h2;have e:Ms F (t::ks) (pT.R4 (t::ks) a)=(Jc F t a.1,t.K4)::Ms F ks (pT.R4 ks a.2):=rfl;rw[e]
  refine⟨by simpa using h3,?_⟩
  intro k d x hd hx
  cases k with
  | zero=>simp only[ M4,KV]at hd hx;subst hd hx;exact oj h1
  | succ k=>exact h4 k d x (by simpa using hd) (by simpa using hx)
theorem B5{fn:Operand}{args:Array Operand}{ats:Array TypeId}(ho:o.op = .call { callee:=.value fn,args,argTypes:=ats }){ks:List Ty}{r:Ty}{φ : Jk F ks→Option (ET F r)}{ds:List (Dat F)}(hv:vals = .fv ks r φ::ds) :
  Rule P o vals mm c K (pT mm K ks r φ ds):=by
 subst hv;unfold pT;split
 ·exact ah
 ·rename_i q hq;refine au (λhfl=>?_) (λ_=>ah);dsimp only;refine aD λx hx=>?_;intro r' hr';refine⟨_,hr',?_⟩;intro own g w a m u hle hm hd hall hfr hrep;rw[rF ho]at hrep;obtain⟨h1,h2⟩:=aP.1 hrep;generalize hfv:a.eval fn=fv at h1
  have h1':PN P F w g.IV ks r φ fv:=by cases h1 with | fv h=>exact h
  obtain⟨fid,bound,captured,rfl,hbd,hent,hfn⟩:=h1';have hfz:O6 g q.fz (g.Nj q.fz).IV:=⟨λ_ h=>.inl h,λid hid b hb=>.inr ⟨id,hid,hb⟩⟩
  obtain⟨k1,k2⟩:=g_ (P:=P) (us:=[]) hm hle hq hfz h2 ⟨rfl,by simp⟩
  have k3:=wL (k1 w _ (λb hb=>⟨hb,rfl⟩) () [] ⟨rfl,by simp[Ms]⟩)
  simp only[XC]at k3;intro next Q hn;unfold Oper.wp;rw[qA ho hfv hent];refine(hfn w (g.Nj q.fz).IV (λb hb=>⟨.inl hb,rfl⟩) (freeze hm hle k2).IV _ x _ hx k3).mono ?_;rintro e w' ⟨v,rfl,hb,hrt,hdr⟩;have hst:Stp m g w g w':=⟨⟨λ_ _ h=>h,λ_ h=>h,λb hx=>hb.block b (hm.IV b hx),λ_ h=>h,λb hx=>hb.block b (hm.len b hx).2⟩,hb.os,hb.tape,hb.output,hb.size,λb hlt _=>hb.block b hlt,hdr⟩;refine hn v w' g (EN (hrt.flat (n_ hfl x))) ?_ hst (λid hu _=>hd id hu);exact⟨λid B hB=>(hm.ok id B hB).le hst.le (λho b hi=>hb.block b ((hm.ok id B hB).place hm.IV (Jw.MQ ho) hi)),hm.Ou,hm.own,λb hx=>OZ (hm.IV b hx) hb.size,hm.io,λb hx=>⟨(hm.len b hx).1,OZ (hm.len b hx).2 hb.size⟩⟩
theorem DE(hT:Js P T)(hΓ : Kr P Γ){cl:Call}(ho:o.op = .call cl):Rule P o vals mm c K (Vx T Γ vals mm c K cl):=by
 obtain⟨callee,args,ats⟩:=cl;unfold Vx
 cases callee with
 | invoke x n=>exact ah
 | builtin b=>
  cases b with
  | len=>
   dsimp only;split
   ·exact Eu hT ho
   ·exact ah
  | append=>
   dsimp only;split
   ·exact zI hT ho
   ·exact ah
  | copy=>
   dsimp only;split
   ·exact CZ hT ho
   ·exact ah
  | clear=>
   dsimp only;split
   ·exact Be hT ho
   ·exact ah
  | min=>exact xm (mx:=false) ho
  | max=>exact xm (mx:=true) ho
  | _=>exact ah
 | value fn=>
  dsimp only;split
  ·refine vE hΓ ho ?_;intro g w a hr;rw[rF ho]at hr;obtain⟨h1,h2⟩:=aP.1 hr
   exact⟨[],[],FN h1,by simpa using h2⟩
  ·refine vE hΓ ho ?_;intro g w a hr;rw[rF ho]at hr;obtain⟨h1,h2⟩:=aP.1 hr;generalize a.eval fn=fv at h1 ⊢
   cases h1 with
   | NG k1 k2 k3 k4=>exact⟨_,_,rfl,sr (sr ⟨k1,k3⟩ h2) ⟨k2,k4⟩⟩
  ·exact B5 ho rfl
  ·exact ah
theorem lj(hT:Js P T)(hΓ : Kr P Γ):Rule P o vals mm c K (Xt T Γ vals mm c K o.op):=by
 unfold Xt
 cases ho:o.op with
 | move x=>
  dsimp only;split
  ·exact xb (.inl ho) rfl
  ·exact ah
 | assign x=>
  dsimp only;split
  ·exact xb (.inr ho) rfl
  ·exact ah
 | pick x y z=>exact Dq ho
 | alloc e=>exact BD hT ho
 | box e x=>exact Fy hT ho
 | build t p=>exact Bi hT ho
 | buildSlice t l p=>exact au (λ_=>uj hT ho) (λ_=>vd hT ho)
 | load t x=>exact Dz hT ho
 | store t x y=>exact BS hT ho
 | nilCheck x=>exact xt ho
 | binOp op t x y u=>exact E4 hT ho
 | unOp op t x=>exact Ge ho
 | convert s d x=>exact B_ hT ho
 | makeFunc fn f cs=>exact Dl ho
 | makeSlice t x y=>
  refine au (λ_=>?_) (λ_=>xe hT ho)
  cases hl:qd T t x y with
  | some n=>exact A_ hT ho hl
  | none=>exact xe hT ho
 | slice t x lo hi mx=>
  cases mx with
  | none=>exact au (λhc=>Dw hT ho hc) (λ_=>Bk hT ho)
  | some _=>exact ah
 | fieldAddr s x f=>exact B7 hT ho
 | field s x f=>exact CY hT ho
 | indexAddr t x y=>exact vX hT ho
 | index t x y=>exact BW hT ho
 | extract x i=>exact yM ho
 | call cl=>exact DE hT hΓ ho
 | makeMap t r=>
  cases r with
  | none=>exact xI hT ho
  | some _=>exact ah
 | lookup t x y ok=>exact z_ hT ho
 | mapUpdate t x y z=>exact vO hT ho
 | _=>exact ah
theorem EU{x:Option R}(h:Rule P o (vals.map (Xa mm)) mm c K x):Rule P o vals mm c K x:=by intro r hr;obtain⟨res,h1,h2⟩:=h r hr;exact⟨res,h1,λown g w a m u hle hm hd hall hfr hrep=>h2 own g w a m u hle hm hd hall hfr (C6 hm hle hrep)⟩
end
set_option linter.unusedVariables false
set_option linter.unusedSimpArgs false
section
variable{F:Fam}{P:Program}{T:TypeId→Option (TI F)}{Γ : Ctx F}{o:Oper}{vals:List (Dat F)}{mm:Nat→Option (Jw F)}{c:Nat}{R:Type}{K:Oq F→Option R}
variable{own:Ow}{g:G}{w:World}{m:Nat→Option (Jw F)}{u:Nat→Bool}{a:Act}
theorem M6.upd:∀{l:List (Nat×Option (Jw F))} {mm m:Nat→Option (Jw F)},M6 mm m→M6 (Kc mm l) (Kc m l)
 | [],_,_,h=>h
 | (id,B)::r,mm,m,h=>by
  simp only[Kc];refine M6.upd (l:=r) λx B' hx=>?_;by_cases hb:Nat.beq id x=true
  ·rw[if_pos hb]at hx ⊢;exact hx
  ·rw[if_neg hb]at hx ⊢;exact h x B' hx
theorem Fs{pre:List (Nat×Option (Jw F))}{k:Nat}{g2:G}{u2:Nat→Bool}{res:Oq F}(hl:Le g w g2 w)
  (hown:∀id B,Kc m pre id=some B→B.owned=true→∀b,g2.blk id b→∃id' B',m id'=some B'∧B'.owned=true∧g.blk id' b)
  (hu:∀id,u id=false→(id<c∨c+k≤id)→u2 id=false) (h:M0 P own (Kc m pre) u2 g2 w o a (c+k) res):M0 P own m u g w o a c ⟨res.val,pre++res.mw,k+res.nu⟩:=by
 intro next Q hn
 refine h next Q λv w' g' h1 h2 h3 h4=>hn v w' g' h1 (by rw[dC];exact h2) ⟨hl.trans h3.le,h3.os,h3.tape,h3.output,h3.size,?_,h3.drawn⟩ ?_
 ·intro b hb hno;refine h3.frame b hb λid B hB ho hbk=>?_;obtain⟨id',B',k1,k2,k3⟩:=hown id B hB ho b hbk;exact hno id' B' k1 k2 k3
 ·intro id hi hr;have hr:id<c∨c+(k+res.nu)≤id:=hr
  exact h4 id (hu id hi (by omega)) (by omega)
theorem Fq(hm:Je own g w m){id i:Nat}{t:Ty}{l:List (ET F t)}{ks:List Nat}{rs:List (Jw F)}{g2:G}{B0:Jw F}(hB:m id=some B0)(ho:B0.owned=true)(hf:∀j,j<ks.length+1→g.ids (c+j)=none)(hrs:rs.length=ks.length)
  (hblk:∀y b',g2.blk y b'→(g.blk y b'∧¬ (c≤y∧y<c+ks.length+1))∨g.blk id b') :
  ∀y B,Kc m (Nk id c t l i ks rs) y=some B→B.owned=true→∀b,g2.blk y b→∃id' B',m id'=some B'∧B'.owned=true∧g.blk id' b:=by
 intro y B hy hoB b hb;rcases hblk y b hb with⟨h1,h2⟩ | h1
 ·refine⟨y,B,?_,hoB,h1⟩
  have hid:y≠id:=by rintro rfl;have e1:Nk y c t l i ks rs=((y,none)::(c,some (.NY t l i ks))::blks (nmF (c+1) rs))++[(y,some (.ME c l.length))]:=rfl;rw[e1,dC]at hy;simp only[Kc]at hy;rw[if_pos (WM y)]at hy;cases hy;cases hoB
  rw[cp]at hy
  ·exact hy
  ·intro hk;simp only[Nk,SE,KZ,SL,Li,Mi,Lx,Zv,or_false]at hk;rcases hk with rfl | rfl | hk | rfl
   ·exact hid rfl
   ·exact h2 ⟨Ku _,by omega⟩
   ·obtain⟨p,hp,hp2⟩:=Ot.1 hk;obtain⟨q,hq,hq2⟩:=Ot.1 hp;obtain⟨j,hj1,hj2⟩:=vT hq;have hjl:=(IS.1 hj2).1;subst hq2;simp only at hp2
    exact h2 ⟨by omega,by omega⟩
   ·exact hid rfl
 ·exact⟨id,B0,hB,ho,h1⟩
theorem Fm{id sz i off:Nat}{v:Value}(h:Jr (F:=F) P g w (.c (.OV id sz i off)) v):∃b c' n pl,g.ids id=some (some (b,c',n))∧n.2[i*sz+off]? = some pl∧Lf (KR pl) v:=by
 cases h with | c h=>cases h with | OV h hk hv=>exact⟨_,_,_,_,h,hk,hv⟩
theorem BV(hT:Js P T)(hΓ : Kr P Γ){id sz i off:Nat}{rest:List (Dat F)}(hv:vals = .c (.OV id sz i off)::rest):Rule P o vals mm c K (Vy T Γ vals mm c K o.op id sz i off):=by
 unfold Vy;split
 ·rename_i t l hrow;refine au (λhsz=>?_) (λ_=>ah);subst hsz;refine aD λx hx=>?_;split
  ·rename_i t2 l2 hd;intro r hr;obtain⟨res,h1,h2⟩:=lj hT hΓ r hr;refine⟨_,h1,?_⟩;intro own g w a m u hle hm UR hall hfr hrep;subst hv;obtain⟨v0,vs,e,hv0,hvs⟩:=fk hrep
   have hfree:∀j,j < [off].length+1→g.ids (c+j)=none:=λj hj=>UR _ (hfr j (by simp only[QdW]at hj;simp only;omega))
   have anI:off<Jf F t:=by rw[← aS F t x];exact(IS.1 hd).1
   obtain⟨g2,b,cap,n,k1,k2,k3,k4,k5,k6,k7,k8,k9,k10⟩:=xn (c:=c) (ks:=[off]) (rs:=[.row t2 l2]) hm hall (hle _ _ hrow) hx (by simp) rfl (λj B hj=>by
    cases j with
    | zero=>simp only[M4,KV]at hj;subst hj;exact⟨off,t2,l2,rfl,rfl,hd⟩
    | succ j=>simp at hj) (by intro q hq;rw[IU]at hq;subst hq;exact anI) hfree
   obtain⟨b',c',n',pl,p1,p2,p3⟩:=Fm hv0;rw[k6]at p1;cases p1;have hn1:=k8 0 off rfl;rw[p2,SQ]at hn1
   have hx2:Jr (F:=F) P g2 w (.c (.KP (c+1))) v0:=by
    refine .c ?_
    cases pl with
    | none=>obtain⟨p,rfl⟩:=p3;exact .ML p hn1
    | some q=>obtain⟨b2,cap2,n2⟩:=q;simp only[KR,Lf]at p3;subst p3;obtain⟨t',l',hc,r1,r2,r3,_⟩:=M8.sub k9 p2;cases r1;exact .KP hn1 r2 r3
   have hu2:∀y,(u y||(decide (c≤y)&&decide (y<c+2)))=false→g2.ids y=none:=by
    intro y hy;simp only[UJ,QeP,decide_eq_false_iff_not]at hy
    rw[k5 y (by simp only[QdW];omega)]
    exact UR y hy.1
   have hfr2:∀k,k<res.nu→(u (c+2+k)||(decide (c≤c+2+k)&&decide (c+2+k<c+2)))=false:=by
    intro k hk
    have:=hfr (2+k) (by simp only;omega)
    rw[show c+2+k=c+(2+k)by omega,this]
    simp
   have:=h2 own g2 w a (Kc m (Nk id c t l i [off] [.row t2 l2])) (λy=>u y||(decide (c≤y)&&decide (y<c+2))) hle.upd k2 hu2 hall hfr2 (by
    rw[e]
    exact aP.2 ⟨hx2,by show Kl P g2 w rest vs;exact⟨hvs.1,λk d x a b=>(hvs.2 k d x a b).le k1⟩⟩)
   exact Fs (k:=2) k1 (Fq hm (hle _ _ hrow) rfl hfree rfl k10) (λy hy hr=>by simp only[hy,Bool.false_or,QeP,decide_eq_false_iff_not];omega) this
  ·exact ah
 ·exact ah
theorem uy{α : Type}{l v:List α}{p:Nat}(h:p+v.length≤l.length)(k:Nat) :
  (l.take p++v++l.drop (p+v.length))[k]? = if p≤k∧k<p+v.length then v[k - p]? else l[k]?:=by
 have h1:(l.take p).length=p:=by rw[Ld];omega
 by_cases hk:k<p
 ·rw[if_neg (by omega),MF,Mv (by omega),MO,if_pos hk]
 ·rw[MF,Nc (by omega),h1]
  by_cases hk2:k - p<v.length
  ·rw[if_pos (by omega),Mv hk2]
  ·rw[if_neg (by omega),Nc (by omega),Ov]
   congr 1
   omega
theorem Ex{t:Ty}{l:List (ET F t)}{i off:Nat}{x y:ET F t}{ds:List (ND F)}(hx:l[i]? = some x)(h3:off+ds.length≤Jf F t)(hy:Mg F t ((Jc F t x).take off++ds++(Jc F t x).drop (off+ds.length))=some y)
  {k:Nat} {d:ND F} (hk:(cells F t (l.set i y))[k]? = some d) :
  (∃j d0,j<ds.length∧k=i*Jf F t+off+j∧ds[j]? = some d0∧Rl d0 d)∨((k<i*Jf F t+off∨i*Jf F t+off+ds.length≤k)∧∃d0,(cells F t l)[k]? = some d0∧Rl d0 d):=by
 rcases mF hx hk with⟨j,rfl,hj⟩ | ⟨h,h'⟩
 ·have hl:=bK F hy;have hels:(Jc F t x).length=Jf F t:=aS F t x
  have hjl:j<Jf F t:=by rw[← aS F t y];exact(IS.1 hj).1
  have hov:=uy (l:=Jc F t x) (v:=ds) (p:=off) (by omega) j
  by_cases hin:off≤j∧j<off+ds.length
  ·rw[if_pos hin]at hov
   have hd0:ds[j - off]? = some ds[j - off]:=IR (by omega)
   exact .inl ⟨j - off,_,by omega,by omega,hd0,hl.2 j _ d (hov.trans hd0) hj⟩
  ·rw[if_neg hin]at hov
   have hd0:(Jc F t x)[j]? = some (Jc F t x)[j]:=IR (by omega)
   exact .inr ⟨by omega,_,aQ hx hd0,hl.2 j _ d (hov.trans hd0) hj⟩
 ·exact .inr ⟨by omega,d,h',.refl _⟩
def UQ(g:G):Option Nat→Option (Nat×Nat×Nat)
 | none=>none
 | some nm=>match g.ids nm with
  | some (some (b,cap,n))=>some (b,cap,n.1)
  | _=>none
theorem kF{y:Ko F}{r:List (Ko F)}{ds:List (ND F)}{os:List (Option Nat)}(h:du mm (y::r)=some (ds,os)):∃d o ds' os',mh mm y=some (d,o)∧du mm r=some (ds',os')∧ds=d::ds'∧os=o::os':=by
 simp only[du]at h;split at h
 ·cases h
 ·rename_i d o h1;split at h
  ·cases h
  ·rename_i ds' os' h2;cases h;exact⟨d,o,ds',os',h1,h2,rfl,rfl⟩
theorem l_:∀{cs:List (Ko F)} {ds:List (ND F)} {os:List (Option Nat)},du mm cs=some (ds,os)→ds.length=cs.length∧os.length=cs.length
 | [],ds,os,h=>by simp only[du,KV]at h;cases h;exact⟨rfl,rfl⟩
 | y::r,ds,os,h=>by obtain⟨d,o,ds',os',h1,h2,rfl,rfl⟩:=kF h;obtain⟨k1,k2⟩:=l_ h2;simp[k1,k2]
theorem tR:∀{cs:List (Ko F)} {ds:List (ND F)} {os:List (Option Nat)},du mm cs=some (ds,os)→∀{j:Nat}{d:ND F}{o:Option Nat},ds[j]? = some d→os[j]? = some o→∃y,cs[j]? = some y∧mh mm y=some (d,o)
 | [],ds,os,h,j,d,o,hd,ho=>by simp only[du,KV]at h;cases h;simp at hd
 | y::r,ds,os,h,j,d,o,hd,ho=>by
  obtain⟨d',o',ds',os',h1,h2,rfl,rfl⟩:=kF h
  cases j with
  | zero=>simp only[M4,KV]at hd ho;subst hd;subst ho;exact⟨y,rfl,h1⟩
  | succ j=>exact tR h2 (by simpa using hd) (by simpa using ho)
theorem uZ{y:Ko F}{d:ND F}{nm:Nat}(h:mh mm y=some (d,some nm)):∃t l,y = .KP nm∧d = .sl t l∧mm nm=some (.row t l):=by
 unfold mh at h;split at h
 ·rename_i id;split at h
  ·rename_i t l hrow;cases h;exact⟨t,l,rfl,rfl,hrow⟩
  ·cases h
 ·split at h
  ·cases h
  ·split at h<;>cases h
 ·cases h
theorem mE:∀{cs:List (Ko F)} {ds:List (ND F)} {os:List (Option Nat)},du mm cs=some (ds,os)→cs.all Ko.Nu=true
 | [],_,_,_=>rfl
 | y::r,ds,os,h=>by
  obtain⟨d,o,ds',os',h1,h2,rfl,rfl⟩:=kF h;simp only[Tt,KQ];refine⟨?_,mE h2⟩
  cases y<;>first | rfl | simp[mh]at h1
theorem sv:∀{cs:List (Ko F)} {ds:List (ND F)} {os:List (Option Nat)},du mm cs=some (ds,os)→∀id,some id∈os→∃t l,mm id=some (.row t l)
 | [],ds,os,h,id,hid=>by simp only[du,KV]at h;cases h;simp at hid
 | y::r,ds,os,h,id,hid=>by
  obtain⟨d,o,ds',os',h1,h2,rfl,rfl⟩:=kF h;rcases Li.1 hid with rfl | hid
  ·obtain⟨t,l,_,_,h3⟩:=uZ h1;exact⟨t,l,h3⟩
  ·exact sv h2 id hid
theorem BM(hm:Je own g w m)(hle:M6 mm m){y:Ko F}{d0 d:ND F}{o:Option Nat}(h:mh mm y=some (d0,o))(hd:Rl d0 d){x:Value}(hr:Jz g w y x)(hnn:d≠.nl):LB w g.IV d x (UQ g o):=by
 cases o with
 | some nm=>
  obtain⟨t,l,rfl,rfl,hrow⟩:=uZ h;cases hd;rcases hm.ok nm _ (hle _ _ hrow)with⟨k1,k2⟩ | ⟨b,cap,cur,e,k1,k2,k3,k4,k5,k6⟩
  ·subst k2;rcases a_ hr with⟨hi,p,rfl⟩ | ⟨b,c,n,hi,h1,h2,rfl⟩
   ·simp only[UQ,k1];exact⟨rfl,p,rfl⟩
   ·rw[k1]at hi;cases hi
  ·rcases a_ hr with⟨hi,p,rfl⟩ | ⟨b',c',n,hi,h1,h2,rfl⟩
   ·rw[k1]at hi;cases hi
   ·rw[k1]at hi;cases hi;simp only[UQ,k1];exact⟨⟨rfl,k3,k4,cur,e,k2,k5,k6⟩,rfl⟩
 | none=>
  unfold mh at h;split at h
  ·split at h<;>cases h
  ·rename_i d1;split at h
   ·cases h
    cases hd with
    | refl=>exact absurd rfl hnn
    | nl t ht=>obtain⟨p,rfl⟩:=mg (P:=default) (.c hr);exact⟨rfl,p,rfl⟩
   ·split at h
    ·rename_i hf;cases h
     cases hd with
     | refl=>
      cases d0 with
      | sl t l=>simp[NP.flat]at hf
      | nl=>exact absurd rfl hnn
      | _=>exact⟨rfl,rfl,bX hr⟩
     | nl=>simp[NP.flat]at hf
    ·cases h
  ·cases h
theorem sL(hm:Je own g w m)(hle:M6 mm m):∀{os:List (Option Nat)},(∀id,some id∈os→∃t l,mm id=some (.row t l))→Km (os.map (UQ g))=Ht (os.map (J7 g))
 | [],_=>rfl
 | none::os,h=>by
  simp only[KZ,UQ,J7,Km,Ht]
  exact sL hm hle (λid hid=>h id (by simp[hid]))
 | some nm::os,h=>by
  have ih:=sL hm hle (os:=os) (λid hid=>h id (by simp[hid]))
  obtain⟨t,l,hrow⟩:=h nm (by simp)
  rcases hm.ok nm _ (hle _ _ hrow)with⟨k1,k2⟩ | ⟨b,cap,cur,e,k1,k2,k3,k4,k5,k6⟩
  ·simp only[KZ,UQ,J7,k1,SQ,Km,Ht];exact ih
  ·simp only[KZ,UQ,J7,k1,SQ,Km,Ht,OY];rw[ih]
theorem Af(hm:Je own g w m)(hle:M6 mm m)(hall:∀b,w.heap.size≤b→own.o b){t:Ty}{id i off p:Nat}(hp:p=i*Jf F t+off){l:List (ET F t)}{x y:ET F t}{C:Nat→ND F→Value→Option (Nat×Nat×Nat)→Prop}{C':World→Nat→ND F→Value→Option (Nat×Nat×Nat)→Prop}{B0 B':Jw F}{b cap:Nat}{n:Nat×NS}
  (hB:m id=some B0) (hB0:B0.owned=true) (hid:g.ids id=some (some (b,cap,n))) (hO:Nf w t l C (some (b,cap,n))) (hx:l[i]? = some x) {cs:List (Ko F)} {ds:List (ND F)} {os:List (Option Nat)} (hst:du mm cs=some (ds,os))
  (hnd:cD (id::Kh os)=true) (h3:off+ds.length≤Jf F t) (hy:Mg F t ((Jc F t x).take off++ds++(Jc F t x).drop (off+ds.length))=some y) (hnn:∀d∈Jc F t y,d≠.nl)
  {vs:List Value} (hvl:vs.length=cs.length) (hv:∀(k:Nat)(c:Ko F)(z:Value),cs[k]? = some c→vs[k]? = some z→Jz g w c z) {cur:List Value} {e:TypeId} (hb:w.heap[b]? = some (.cells ⟨cur⟩ e (0,0))) (hf:g.ids c=none)
  (hB1:∀g' w',g'.ids c=some (some (b,cap,n.1,n.2.take (p)++os.map (UQ g)++n.2.drop (p+ds.length)))→g'.IV=g.IV→Nf w' t (l.set i y) (C' w') (some (b,cap,n.1,n.2.take (p)++os.map (UQ g)++n.2.drop (p+ds.length)))→KL g' w' c B') (hB2:B'.owned=true)
  (hC1:∀(w':World) k d z pl,(∀b',g.IV b'→w'.heap[b']? = w.heap[b']?)→(∀b' c',pl=some (b',c')→w'.heap[b']? = w.heap[b']?)→p≤k→k<p+ds.length→LB w g.IV d z pl→C' w' k d z pl)
  (hC2:∀(w':World) k d0 d z pl,(∀b',g.IV b'→w'.heap[b']? = w.heap[b']?)→(∀b' c',pl=some (b',c')→w'.heap[b']? = w.heap[b']?)→(k<p∨p+ds.length≤k)→(cells F t l)[k]? = some d0→Rl d0 d→C k d0 z pl→C' w' k d z pl) :
  ∃g',Je own g' (w.setRow b ⟨cur.take (p)++vs++cur.drop (p+ds.length)⟩) (Kc m (U9 id c l.length os B'))∧Stp m g w g' (w.setRow b ⟨cur.take (p)++vs++cur.drop (p+ds.length)⟩)∧∀y,y≠c→g'.ids y=g.ids y:=by
 obtain⟨w',hw'⟩:∃w',w'=w.setRow b ⟨cur.take p++vs++cur.drop (p+ds.length)⟩:=⟨_,rfl⟩;obtain⟨ns,hns⟩:∃ns,ns=n.2.take p++os.map (UQ g)++n.2.drop (p+ds.length):=⟨_,rfl⟩;rw[← hw'];rw[← hns]at hB1;obtain⟨q1,q2,q3,q4,q5,cur',e',q6,q7,q8⟩:=hO;rw[hb]at q6;cases q6;obtain⟨hdl,hol⟩:=l_ hst
 have anH:os.length=ds.length:=by omega
 have anA:vs.length=ds.length:=by omega
 have hile:i<l.length:=(IS.1 hx).1
 have hbig:p+ds.length≤(cells F t l).length:=by rw[d5];have:(i+1)*Jf F t≤l.length*Jf F t:=MW _ hile;rw[Rh]at this;omega
 have hcur:(cells F t l).length≤cur.length:=by rw[q7,d5];exact MW _ q2
 have hsame:∀b',b'≠b→w'.heap[b']? = w.heap[b']?:=λb' h=>by rw[hw'];exact setRow_other w b b' _ h
 have hnew:w'.heap[b]? = some (.cells ⟨cur.take p++vs++cur.drop (p+ds.length)⟩ e (0,0)):=by rw[hw'];exact setRow_heap w b _ _ _ _ hb
 have hsz:w'.heap.size=w.heap.size:=by rw[hw'];simp[World.setRow]
 have hrows:=sv hst;have aji:g.blk id b:=G.Kn hid
 have Z_:∀id',some id'∈some id::os→∃B,m id'=some B∧B.owned=true:=by
  intro id' h;rcases Li.1 h with h | h
  ·cases h;exact⟨_,hB,hB0⟩
  ·obtain⟨t',l',h'⟩:=hrows id' h;exact⟨_,hle _ _ h',rfl⟩
 have Tc:Ht ((some id::os).map (J7 g))=b::(Km n.2++Ht (os.map (J7 g))):=by simp[J7,hid,Ht]
 have hN0:=eZ (os:=some id::os) hm (eB hnd) Z_
 have P9:∀b',b'∈Ht ((some id::os).map (J7 g))→own.o b'∧¬ g.IV b'∧b'<w.heap.size∧¬ g.len b':=by intro b' h;obtain⟨id',h1,h2⟩:=bC.1 h;obtain⟨B,h4,h5⟩:=Z_ id' h1;have:=hm.own id' B b' h4 h5 h2;exact⟨this.1,this.2,(hm.ok id' B h4).place hm.IV (Jw.MQ h5) h2,λhl=>(hm.len b' hl).1 this.1⟩
 have aam:b∈Ht ((some id::os).map (J7 g)):=by rw[Tc];simp
 have Kg:∀b',g.IV b'→w'.heap[b']? = w.heap[b']?:=λb' h=>hsame b' (λe=>(P9 b aam).2.1 (e▸h))
 have hlns:p+ds.length≤n.2.length:=by rw[q4];exact hbig
 have hsplit:Km n.2=Km (n.2.take p)++(Km ((n.2.drop p).take ds.length)++Km (n.2.drop (p+ds.length))):=by rw[← d6,← d6,← Zr,Uo,Uo]
 have anN:Km ns=Km (n.2.take p)++(Ht (os.map (J7 g))++Km (n.2.drop (p+ds.length))):=by rw[hns,d6,d6,sL hm hle hrows,MF]
 have hperm:(b::(Km n.2++Ht (os.map (J7 g)))).Perm ((b::Km ns)++Km ((n.2.drop p).take ds.length)):=by rw[hsplit,anN];simp only[SE,MF];refine List.Perm.cons _ (QdX _ ?_);refine(List.perm_append_comm_assoc _ _ _).trans ?_;refine((QcN (l₁:=Km ((n.2.drop p).take ds.length))).append_left _).trans ?_;rw[← MF,← MF];exact List.perm_append_comm.append_right _
 have Wt:(b::Km ns).Nodup:=by have:=hperm.nodup_iff.1 (Tc▸hN0);exact(Wz.1 this).1
 have hsub:∀b',b'∈b::Km ns→b'∈Ht ((some id::os).map (J7 g)):=by intro b' h;rw[Tc];exact hperm.mem_iff.2 (WA _ h)
 have ai7:ns.length=(cells F t (l.set i y)).length:=by rw[hns,d5,RB,← d5];simp only[IT,Ld,Na,Ox];omega
 have hOw:Nf w' t (l.set i y) (C' w') (some (b,cap,n.1,ns)):=by
  refine⟨by rw[RB];exact q1,by rw[RB];exact q2,q3,ai7,Wt,_,e,hnew,by simp only[IT,Ld,Na];omega,?_⟩
  intro k d z pl p1 p2 p3
  have Y4:=uy (l:=cur) (v:=vs) (p:=p) (by omega) k
  have acd:=uy (l:=n.2) (v:=os.map (UQ g)) (p:=p) (by rw[Ox];omega) k
  rw[Ox,anH]at acd;rw[anA]at Y4;rw[Y4]at p2;dsimp only at p3;rw[hns,acd]at p3;rcases Ex hx h3 hy p1 with⟨j,d0,j1,j2,j3,j4⟩ | ⟨j1,d0,j2,j3⟩
  ·rw[← hp]at j2
   rw[if_pos (by omega)]at p2 p3
   have ej:k - p=j:=by omega
   rw[ej]at p2 p3;rw[MN]at p3;obtain⟨o',ho',rfl⟩:=RF.1 p3;obtain⟨cc,hcc,hce⟩:=tR hst j3 ho'
   have an6:d≠.nl:=by
    rcases mF hx p1 with⟨jj,hjj,hd⟩ | ⟨hout,_⟩
    ·exact hnn d (Rk hd)
    ·omega
   have hC:=BM hm hle hce j4 (hv j cc z hcc p2) an6
   refine hC1 w' k d z _ Kg ?_ (by omega) (by omega) hC
   rintro b' c' hpl;refine hsame b' ?_;rintro rfl
   have hin:b'∈Ht (os.map (J7 g)):=by
    rw[← sL hm hle hrows]
    exact eX (k:=j) (by rw[MN,ho'];exact congrArg some hpl)
   rw[Tc]at hN0;exact(Pv.1 hN0).1 (WC _ hin)
  ·rw[← hp]at j1
   rw[if_neg (by omega)]at p2 p3
   refine hC2 w' k d0 d z pl Kg ?_ j1 j2 j3 (q8 k d0 z pl j2 p2 p3);rintro b' c' rfl;refine hsame b' ?_;rintro rfl;exact(Pv.1 q5).1 (eX p3)
 have Vi:Le g w (g.back c [some (b,cap,n.1,ns)] g.IV) w':=by
  refine⟨λy r hy=>?_,λ_ h=>h,Kg,λ_ h=>h,λb' hl=>hsame b' (λe=>(P9 b aam).2.2.2 (e▸hl))⟩
  have hyc:¬ (c≤y∧y<c + [(some (b,cap,n.1,ns):Pl)].length):=by
   intro hc
   have:y=c:=by simp only[QdW]at hc;omega
   subst this;rw[hf]at hy;cases hy
  rw[cy hyc];exact hy
 have hc0:(g.back c [some (b,cap,n.1,ns)] g.IV).ids c=some (some (b,cap,n.1,ns)):=by have:=sK (g:=g) (c:=c) (Ja:=[some (b,cap,n.1,ns)]) (I:=g.IV) 0 _ rfl;simpa using this
 have Xk:Ht ([]:List Pl)++Ht [some (b,cap,n.1,ns)]=b::Km ns:=by simp[Ht]
 have hfk:∀k,k < [(some (b,cap,n.1,ns):Pl)].length→g.ids (c+k)=none:=by
  intro k hk
  have:k=0:=by simp only[QdW]at hk;omega
  subst this;exact hf
 have hM:=qO (g1:=g) (m1:=m) (os:=some id::os) (bx:=[]) (Jo:=[]) (J9:=[some (b,cap,n.1,ns)]) (bs:=[(c,B')]) (PG:=g.IV) (Jg:=g.IV) (I:=g.IV) (w':=w') hm hm rfl rfl hall rfl
  hfk
  (λid' h=>by obtain⟨B,h1,h2⟩:=Z_ id' h;exact⟨B,h1,h1,h2⟩) (λid' h=>by simp at h) rfl ⟨hN0,λb' h=>(P9 b' h).2.1,λb' h=>(P9 b' h).2.2.1⟩ (λ_ h=>h) (by rw[hsz];exact Ku _) (λb' _ hno=>hsame b' (λe=>hno (e▸aam))) (λ_ h=>h) (λ_ h=>h) (λb h=>.inl h) (λb' h=>by rw[hsz];exact hm.IV b' h)
  ⟨by rw[Xk];exact Wt,λb' h=>(P9 b' (hsub b' (Xk▸h))).2.1,λb' h=>by rw[hsz];exact(P9 b' (hsub b' (Xk▸h))).2.2.1⟩
  (λb' h=>.inl (hsub b' (Xk▸h))) (λp hp=>by rw[IU]at hp;subst hp;exact⟨hB2,hB1 _ _ hc0 rfl hOw,.inl ⟨0,rfl,by simp⟩⟩)
 refine⟨g.back c [some (b,cap,n.1,ns)] g.IV,?_,⟨Vi,by rw[hw'];rfl,by rw[hw'];rfl,by rw[hw'];rfl,by rw[hsz];exact Ku _,λb' _ hno=>hsame b' (λe=>hno id B0 hB hB0 (e▸aji)),by rw[hw'];exact Ku _⟩,λy hy=>cy (by simp only[QdW];omega)⟩
 have:=hM.ME (id:=id) (k:=c) (n:=l.length) (.inl ⟨b,cap,n,(n.1,ns),Vi.ids _ _ hid,hc0,rfl,q1⟩)
 have e1:U9 id c l.length os B'=(nones (Kh (some id::os))++blks [(c,B')])++[(id,some (.ME c l.length))]:=by simp[U9,Kh,blks]
 rw[e1,dC];exact this
theorem Pm(hT:Js P T){ty:TypeId}{X Y:Operand}(ho:o.op = .store ty X Y){id sz i off:Nat}{v:Dat F}(hv:vals = [.c (.Ma id sz i off),v]){t:Ty}{l:List (ET F t)}{i0:Nat}{ks:List Nat}
  (hk:(mm id=some (.KM t l)∧ks = [])∨mm id=some (.NY t l i0 ks)):Rule P o vals mm c K (Tx T mm c K ty id sz i off v t l i0 ks):=by
 subst hv;unfold Tx;split
 ·exact ah
 ·rename_i ti hti
  have key:∀{w:World}{a:Act}{b q:Nat}{cur:List Value} {e:TypeId} {vs:List Value},a.eval X = .pointer (some ⟨b,q,none⟩)→w.heap[b]? = some (.cells ⟨cur⟩ e (0,0))→(a.eval Y).cells.toList=vs→vs.length=ti.size→
    (∀v∈vs,v.oneCell'=true)→q+vs.length≤cur.length→(execOp a.eval o).run P w = .ok .skip (w.setRow b ⟨cur.take q++vs++cur.drop (q+vs.length)⟩):=by
   intro w a b q cur e vs e1 hb e2 hl h1 hle;have hsz:=bw hT hti w
   have hs:=run_storeCells_at (P:=P) b q e vs 0 ⟨cur⟩ w hb (by simpa using hle) h1
   simp only[RS]at hs
   have hsize:(a.eval Y).cells.size=ti.size:=by rw[← SF,e2,hl]
   simp only[execOp,ho,e1,Instr.storeAt,Instr.sureAddr,LC,MI,LV,storeVar,hsz,hsize,ne_eq,not_true_eq_false,if_false,e2,hs]
  split
  ·exact ah
  ·rename_i ds os hst;refine au (λhc=>?_) (λ_=>ah);simp only[KQ,decide_eq_true_eq,beq_iff_eq,MV]at hc;obtain⟨⟨⟨⟨⟨h1,h2⟩,h3⟩,h4⟩,h5⟩,h6⟩:=hc;have h3:=PX h3;subst h2
   cases hcb:(ks.isEmpty||Nat.beq i i0)with
   | false=>exact ah
   | true=>
   simp only[cond_true];refine aD λx hx=>?_;split
   ·rename_i y hy;intro r hr;refine⟨_,hr,?_⟩;intro own g w a m u hle hm UR hall hfr hrep;rw[ho]at hrep;simp only[Op.operands,KZ,Lx]at hrep;obtain⟨hxr,hyr⟩:=KG hrep;obtain⟨b,cn,hi,e1⟩:=eo hxr;obtain⟨cap,n⟩:=cn;obtain⟨hdl,hol⟩:=l_ hst;have hlt:i<l.length:=(IS.1 hx).1
    obtain⟨r1,r2,r3⟩:=g9 hyr (mE hst) (by omega)
    have hf:g.ids c=none:=UR c (hfr 0 (by simp))
    have hrow:∃(B0:Jw F)(C:Nat→ND F→Value→Option (Nat×Nat×Nat)→Prop),m id=some B0∧B0.owned=true∧Nf w t l C (some (b,cap,n))∧
      ∀k d z pl,(k<i*Jf F t+off∨i*Jf F t+off+ds.length≤k)→C k d z pl→LB w g.IV d z pl:=by
     rcases hk with⟨hk,rfl⟩ | hk
     ·obtain⟨pl,k1,k2⟩:=hm.ok id _ (hle _ _ hk);rw[hi]at k1;cases k1;exact⟨_,λ_=>LB w g.IV,hle _ _ hk,rfl,k2,λ_ _ _ _ _ h=>h⟩
     ·obtain⟨pl,k1,k2⟩:=hm.ok id _ (hle _ _ hk);rw[hi]at k1;cases k1;refine⟨_,_,hle _ _ hk,rfl,k2,λk d z pl hout hC=>hC.2 ?_⟩;rintro⟨q,hq,hkq⟩
      have hii:i=i0:=by
       rw[Pt]at hcb;rcases hcb with hcb | hcb
       ·rw[QeG]at hcb;subst hcb;simp at hq
       ·exact M5 hcb
      subst hii;have:=N9.1 h6 q hq;simp only[KQ,MV]at this;have h7:=PX this.1;omega
    obtain⟨B0,C,hB,hBo,hO,hC⟩:=hrow;have hO':=hO;obtain⟨q1,q2,q3,q4,q5,cur,e,q6,q7,q8⟩:=hO'
    have hbig:i*Jf F t+off+ds.length≤cur.length:=by
     have h8:(i+1)*Jf F t≤cap*Jf F t:=MW _ (by omega)
     rw[Rh]at h8;omega
    have hrun:=key (vs:=(a.eval Y).cells.toList) e1 q6 rfl (by rw[r1,← hdl,h1]) r3 (by rw[r1,← hdl];exact hbig)
    rw[r1,← hdl]at hrun;obtain⟨g',s1,s2,s3⟩:=Af (c:=c) (C:=C) (C':=λw' _=>LB w' g.IV) (B':=.KM t (l.set i y)) hm hle hall (p:=i*Jf F t+off) rfl hB hBo hi hO hx hst h5 h3 hy (pG hy) r1 r2 q6 hf
     (λg'' w' k1 k2 k3=>⟨_,k1,by rw[k2];exact k3⟩) rfl (λw' k d z pl k1 k2 _ _ k3=>k3.Ml (λ_ h=>h) k1 k2) (λw' k d0 d z pl k1 k2 k3 k4 k5 k6=>by have h9:=hC k d0 z pl k3 k6;rw[ut k5 h9];exact h9.Ml (λ_ h=>h) k1 k2)
    intro next Q hn;unfold Oper.wp;rw[hrun]
    exact hn undef _ g' (.c .any) s1 s2 (λid' hu hr=>by
     have hr:id'<c∨c+1≤id':=hr
     rw[s3 id' (by omega)]
     exact UR id' hu)
   ·exact ah
theorem Tp(hT:Js P T){ty:TypeId}{X Y:Operand}(ho:o.op = .store ty X Y){id sz i off:Nat}{v:Dat F}(hv:vals = [.c (.Ma id sz i off),v]){t:Ty}{l:List (ET F t)}{j:Nat}
  (hk:mm id=some (.K5 t l j)):Rule P o vals mm c K (Vp T mm c K ty id sz i off v t l j):=by
 subst hv;unfold Vp;split
 ·exact ah
 ·rename_i ti hti
  have key:∀{w:World}{a:Act}{b q:Nat}{cur:List Value} {e:TypeId} {vs:List Value},a.eval X = .pointer (some ⟨b,q,none⟩)→w.heap[b]? = some (.cells ⟨cur⟩ e (0,0))→(a.eval Y).cells.toList=vs→vs.length=ti.size→
    (∀v∈vs,v.oneCell'=true)→q+vs.length≤cur.length→(execOp a.eval o).run P w = .ok .skip (w.setRow b ⟨cur.take q++vs++cur.drop (q+vs.length)⟩):=by
   intro w a b q cur e vs e1 hb e2 hl h1 hle;have hsz:=bw hT hti w
   have hs:=run_storeCells_at (P:=P) b q e vs 0 ⟨cur⟩ w hb (by simpa using hle) h1
   simp only[RS]at hs
   have hsize:(a.eval Y).cells.size=ti.size:=by rw[← SF,e2,hl]
   simp only[execOp,ho,e1,Instr.storeAt,Instr.sureAddr,LC,MI,LV,storeVar,hsz,hsize,ne_eq,not_true_eq_false,if_false,e2,hs]
  split
  ·exact ah
  ·rename_i ds os hst;refine au (λhc=>?_) (λ_=>ah);simp only[KQ,decide_eq_true_eq,beq_iff_eq,MV]at hc;obtain⟨⟨⟨⟨h1,h2⟩,h3⟩,h4⟩,h5⟩:=hc;have h3:=PX h3;subst h2
   cases hcb:Nat.beq i j with
   | false=>exact ah
   | true=>
   simp only[cond_true];have hij:=M5 hcb;subst hij;refine aD λx hx=>?_;refine au (λhfl=>?_) (λ_=>ah);split
   ·rename_i y hy;intro r hr;refine⟨_,hr,?_⟩;intro own g w a m u hle hm UR hall hfr hrep;rw[ho]at hrep;simp only[Op.operands,KZ,Lx]at hrep;obtain⟨hxr,hyr⟩:=KG hrep;obtain⟨b,cn,hi,e1⟩:=eo hxr;obtain⟨cap,n⟩:=cn;obtain⟨hdl,hol⟩:=l_ hst;have hlt:i<l.length:=(IS.1 hx).1
    obtain⟨r1,r2,r3⟩:=g9 hyr (mE hst) (by omega)
    have hf:g.ids c=none:=UR c (hfr 0 (by simp))
    obtain⟨pl,k1,hO⟩:=hm.ok id _ (hle _ _ hk);rw[hi]at k1;cases k1;have hB:=hle _ _ hk;have hO':=hO;obtain⟨q1,q2,q3,q4,q5,cur,e,q6,q7,q8⟩:=hO'
    have hbig:i*Jf F t+off+ds.length≤cur.length:=by
     have h8:(i+1)*Jf F t≤cap*Jf F t:=MW _ (by omega)
     rw[Rh]at h8;omega
    have hrun:=key (vs:=(a.eval Y).cells.toList) e1 q6 rfl (by rw[r1,← hdl,h1]) r3 (by rw[r1,← hdl];exact hbig)
    rw[r1,← hdl]at hrun
    have ajc:∀q d0,(Jc F t x)[q]? = some d0→(q<off∨off+ds.length≤q)→d0.flat=true:=by
     intro q d0 hq hout;refine N9.1 hfl d0 ?_;rcases hout with hout | hout
     ·exact WA _ (Rk (i:=q) (by rw[MO,if_pos hout];exact hq))
     ·exact WC _ (Rk (i:=q - (off+ds.length)) (by rw[Ov];rw[← hq];congr 1;omega))
    have hsz1:(i+1)*Jf F t=i*Jf F t+Jf F t:=Rh _ _;obtain⟨g',s1,s2,s3⟩:=Af (c:=c) (C:=Rv w g.IV (Jf F t) i) (C':=λw'=>Rv w' g.IV (Jf F t) (i+1)) (B':=.K5 t (l.set i y) (i+1)) hm hle hall (p:=i*Jf F t+off) rfl hB rfl hi hO hx hst h5 h3 hy (pG hy) r1 r2 q6 hf
     (λg'' w' k1 k2 k3=>⟨_,k1,by rw[k2];exact k3⟩) rfl (λw' k d z pl k1 k2 p1 p2 k3=>⟨λ_=>k3.Ml (λ_ h=>h) k1 k2,λhno=>absurd (by omega) hno⟩) (λw' k d0 d z pl k1 k2 k3 k4 k5 k6=>by
      by_cases hk1:k<i*Jf F t
      ·have h9:=k6.1 hk1
       refine⟨λ_=>?_,λhno=>absurd (by omega) hno⟩
       rw[ut k5 h9];exact h9.Ml (λ_ h=>h) k1 k2
      ·have h9:=k6.2 hk1;refine⟨λhlt2=>?_,λ_=>⟨h9.1,(h9.2.mono (λ_ h=>h) k1).Uh k5⟩⟩
       obtain⟨d1,hq⟩:∃d1,(Jc F t x)[k - i*Jf F t]? = some d1:=⟨_,IR (by rw[aS];omega)⟩
       have hcg:=aQ hx hq
       rw[show i*Jf F t+(k - i*Jf F t)=k by omega,k4]at hcg
       have hfd:=ajc _ _ hq (by omega)
       rw[← Option.some.inj hcg]at hfd
       have hd:d=d0:=by
        cases k5 with
        | refl=>rfl
        | nl=>simp[NP.flat]at hfd
       subst hd;obtain⟨rfl,hrI⟩:=h9
       cases d with
       | sl=>simp[NP.flat]at hfd
       | nl=>simp[NP.flat]at hfd
       | _=>exact⟨rfl,rfl,hrI.mono (λ_ h=>h) k1⟩)
    intro next Q hn;unfold Oper.wp;rw[hrun]
    exact hn undef _ g' (.c .any) s1 s2 (λid' hu hr=>by
     have hr:id'<c∨c+1≤id':=hr
     rw[s3 id' (by omega)]
     exact UR id' hu)
   ·exact ah
theorem oz:∀{cs:List (ND F)} {k0:Nat} {j:Nat} {q:Nat} {B:Jw F},(bB F k0 cs)[j]? = some (q,B)→∃k t l,q=k0+k∧cs[k]? = some (.sl t l)∧B = .row t l
 | [],k0,j,q,B,h=>by simp[bB]at h
 | d::r,k0,j,q,B,h=>by
  have rest:∀{j:Nat},(bB F (k0+1) r)[j]? = some (q,B)→∃k t l,q=k0+k∧(d::r)[k]? = some (.sl t l)∧B = .row t l:=by
   intro j h;obtain⟨k,t,l,h1,h2,h3⟩:=oz h
   exact⟨k+1,t,l,by omega,by simpa using h2,h3⟩
  cases d with
  | sl t l=>
   simp only[bB]at h
   cases j with
   | zero=>
    simp only[M4,KV,Prod.mk.injEq]at h
    exact⟨0,t,l,by omega,rfl,h.2.symm⟩
   | succ j=>exact rest (by simpa using h)
  | _=>exact rest h
theorem ve:∀{cs:List (ND F)} {k0:Nat},∀q∈(bB F k0 cs).map (·.1),k0≤q∧q<k0+cs.length:=by intro cs k0 q hq;obtain⟨p,hp,rfl⟩:=Ot.1 hq;obtain⟨j,hj⟩:=RD hp;obtain⟨k,t,l,h1,h2,_⟩:=oz (q:=p.1) (B:=p.2) hj;have:=(IS.1 h2).1;omega
theorem mK:∀{cs:List (ND F)} {k0:Nat},((bB F k0 cs).map (·.1)).Nodup
 | [],k0=>by simp[bB]
 | d::r,k0=>by
  cases d with
  | sl t l=>
   simp only[bB,KZ,Pv]
   exact⟨λh=>by have:=ve _ h;omega,mK (cs:=r)⟩
  | _=>exact mK (cs:=r) (k0:=k0+1)
theorem qK:∀{cs:List (ND F)} {k0 c k:Nat} {y:Ko F},(takeC F c cs)[k]? = some y→
  (∃t l j,cs[k]? = some (.sl t l)∧y = .KP (c+j)∧(bB F k0 cs)[j]? = some (k0+k,.row t l))∨(∃d,cs[k]? = some d∧(∀t l,d≠.sl t l)∧y = .im d)
 | [],k0,c,k,y,h=>by simp[takeC]at h
 | d::r,k0,c,k,y,h=>by
  cases d with
  | sl t l=>
   simp only[takeC]at h
   cases k with
   | zero=>
    simp only[M4,KV]at h
    exact .inl ⟨t,l,0,rfl,h.symm,by simp[bB]⟩
   | succ k=>
    rcases qK (k0:=k0+1) (cs:=r) (by simpa using h)with⟨t',l',j,h1,h2,h3⟩ | ⟨d,h1,h2,h3⟩
    ·exact .inl ⟨t',l',j+1,by simpa using h1,by rw[h2];congr 1;omega,by simp only[bB,WW];rw[h3];congr 2;omega⟩
    ·exact .inr ⟨d,by simpa using h1,h2,h3⟩
  | _=>
   simp only[takeC]at h
   cases k with
   | zero=>
    simp only[M4,KV]at h
    exact .inr ⟨_,rfl,by simp,h.symm⟩
   | succ k=>
    rcases qK (k0:=k0+1) (cs:=r) (by simpa using h)with⟨t',l',j,h1,h2,h3⟩ | ⟨d,h1,h2,h3⟩
    ·exact .inl ⟨t',l',j,by simpa using h1,h2,by simp only[bB];rw[h3];congr 2;omega⟩
    ·exact .inr ⟨d,by simpa using h1,h2,h3⟩
theorem E2{w:World}{IV:Nat→Prop}{g2:G}{id:Nat}{t:Ty}{l:List (ET F t)}{pl:Option (Nat×Nat×Nat)}{v:Value}(hi:g2.ids id=some (KR pl))(hO:bD w IV t l (KR pl))(hv:Lf (KR pl) v):Jz (F:=F) g2 w (.KP id) v:=by
 cases pl with
 | none=>obtain⟨p,rfl⟩:=hv;exact .ML p hi
 | some q=>obtain⟨b2,cap2,n2⟩:=q;simp only[KR,Lf]at hv;subst hv;obtain⟨r1,r2,r3,_⟩:=hO;cases r1;exact .KP hi r2 r3
theorem zU(hT:Js P T){ty:TypeId}{X:Operand}(ho:o.op = .load ty X){id sz i off:Nat}(hv:vals = [.c (.Ma id sz i off)]){t:Ty}{l:List (ET F t)}(hrow:mm id=some (.KM t l)):Rule P o vals mm c K (yl T c K ty id sz i off t l):=by
 subst hv;unfold yl
 have key:∀{w:World}{a:Act}{b q:Nat}{v:Value},a.eval X = .pointer (some ⟨b,q,none⟩)→(loadVar ty ⟨b,q,none⟩).run P w = .ok v w→(execOp a.eval o).run P w = .ok (.value v) w:=by intro w a b q v e hr;simp[execOp,ho,e,Instr.loadAt,Instr.sureAddr,hr]
 split
 ·exact ah
 ·rename_i ti hti;refine au (λhc=>?_) (λ_=>ah);simp only[KQ,beq_iff_eq]at hc;obtain⟨rfl,hag⟩:=hc;refine aD λx hx=>?_;refine au (λhfl=>?_) (λ_=>?_)
  ·refine jD λd hd=>?_;intro own g w a m hle hm hr;rw[ho]at hr;obtain⟨b,cn,hi,e⟩:=eo (KT hr);obtain⟨_,_,_,hcell⟩:=fE hm (hle _ _ hrow) (c:=cn.1) (n:=cn.2) hi
   obtain⟨v,hrun,hrep⟩:=cF (P:=P) (g:=g) (w:=w) hT hti hd (b:=b) (q:=i*Jf F t) (by
    intro k c hk;rw[MN]at hk;obtain⟨d',hd',rfl⟩:=RF.1 hk;obtain⟨y,pl,k1,k2,k3⟩:=hcell _ _ (aQ hx hd');refine⟨y,k1,?_⟩
    cases hf:d'.flat with
    | true=>
     cases d' with
     | sl=>simp[NP.flat]at hf
     | _=>exact .im k3.2.2
    | false=>
     refine .one ?_
     cases d' with
     | sl t2 l2=>
      have hv:=k3.2
      cases pl with
      | none=>obtain⟨p,rfl⟩:=hv;rfl
      | some q=>simp only[KR,Lf]at hv;subst hv;rfl
     | _=>exact k3.2.2.oneCell)
   exact⟨v,key e hrun,hrep⟩
  ·refine au (λhok=>?_) (λ_=>ah);split
   ·rename_i d hd;intro r hr;refine⟨_,hr,?_⟩;intro own g w a m u hle hm UR hall hfr hrep;rw[ho]at hrep;obtain⟨b,cn,hi,e⟩:=eo (KT hrep);obtain⟨cap,n⟩:=cn;obtain⟨sl,hsl⟩:∃sl,sl=bB F 0 (Jc F t x):=⟨_,rfl⟩
    have YW:(sl.map (·.1)).length=sl.length:=by simp
    have hfree:∀j,j<(sl.map (·.1)).length+1→g.ids (c+j)=none:=λj hj=>UR _ (hfr j (by simp only[← hsl];rw[YW]at hj;omega))
    obtain⟨g2,b',cap',n',k1,k2,k3,k4,k5,k6,k7,k8,k9,k10⟩:=xn (c:=c) (ks:=sl.map (·.1)) (rs:=sl.map (·.2)) hm hall (hle _ _ hrow) hx (by rw[hsl];exact mK) (by simp) (λj B hj=>by
     rw[MN]at hj;obtain⟨p,hp,rfl⟩:=RF.1 hj;rw[hsl]at hp;obtain⟨k,t2,l2,h1,h2,h3⟩:=oz (q:=p.1) (B:=p.2) hp;rw[LY]at h1;subst h1
     exact⟨p.1,t2,l2,by rw[MN,hsl,hp];rfl,h3,h2⟩) (λq hq=>by
      have:=ve (cs:=Jc F t x) (k0:=0) q (by rw[← hsl];exact hq)
      rw[aS]at this;omega) hfree
    rw[hi]at k6;cases k6;obtain⟨_,_,_,hcell⟩:=fE hm (hle _ _ hrow) (c:=cap) (n:=n) hi
    obtain⟨v,hrun,hrv⟩:=cF (P:=P) (g:=g2) (w:=w) hT hti hd (b:=b) (q:=i*Jf F t) (by
     intro k cc hk;rcases qK (k0:=0) hk with⟨t2,l2,j,h1,h2,h3⟩ | ⟨d',h1,h2,h3⟩
     ·obtain⟨y,pl,q1,q2,q3⟩:=hcell _ _ (aQ hx h1);refine⟨y,q1,?_⟩;subst h2
      have hname:=k8 j k (by rw[MN,hsl,h3];simp)
      have q2:n.2[i*Jf F t+k]? = some pl:=q2;rw[q2,SQ]at hname;exact E2 hname q3.1 q3.2
     ·obtain⟨y,pl,q1,q2,q3⟩:=hcell _ _ (aQ hx h1);refine⟨y,q1,?_⟩;subst h3;refine .im ?_
      cases d' with
      | sl t2 l2=>exact absurd rfl (h2 t2 l2)
      | _=>exact(q3.2.2:Jm w g.IV _ y).mono (λb h=>by rw[k3];exact h) (λ_ _=>rfl))
    intro next Q hn;unfold Oper.wp;rw[key e hrun]
    have hmw:Kc m (Nk id c t l i (sl.map (·.1)) (sl.map (·.2)))=Kc m (Nk id c t l i ((bB F 0 (Jc F t x)).map (·.1)) ((bB F 0 (Jc F t x)).map (·.2))):=by rw[hsl]
    refine hn v w g2 hrv (hmw▸k2) ⟨k1,rfl,rfl,rfl,Ku _,λ_ _ _=>rfl,Ku _⟩ ?_;intro y hu hy;have hy:y<c∨c+(1+(bB F 0 (Jc F t x)).length)≤y:=hy;rw[← hsl]at hy
    rw[k5 y (by rw[YW];omega)]
    exact UR y hu
   ·exact ah
theorem Sz(hT:Js P T){ty:TypeId}{X:Operand}(ho:o.op = .load ty X){id sz i off:Nat}(hv:vals = [.c (.Ma id sz i off)]){t:Ty}{l:List (ET F t)}{j:Nat}(hrow:mm id=some (.K5 t l j)):Rule P o vals mm c K (xO T K ty sz i off t l j):=by
 subst hv;unfold xO
 have key:∀{w:World}{a:Act}{b q:Nat}{v:Value},a.eval X = .pointer (some ⟨b,q,none⟩)→(loadVar ty ⟨b,q,none⟩).run P w = .ok v w→(execOp a.eval o).run P w = .ok (.value v) w:=by intro w a b q v e hr;simp[execOp,ho,e,Instr.loadAt,Instr.sureAddr,hr]
 split
 ·exact ah
 ·rename_i ti hti;refine au (λhc=>?_) (λ_=>ah);simp only[beq_iff_eq]at hc;subst hc
  cases hji:Nat.ble j i with
  | false=>exact ah
  | true=>
  simp only[cond_true];have hji:=PX hji;refine aD λx hx=>jD λd hd=>?_;intro own g w a m hle hm hr;rw[ho]at hr;obtain⟨b,cn,hi,e⟩:=eo (KT hr);obtain⟨pl,k1,k2⟩:=hm.ok id _ (hle _ _ hrow);rw[hi]at k1;cases k1;obtain⟨cap,n⟩:=cn;obtain⟨q1,q2,q3,q4,q5,cur,e0,q6,q7,q8⟩:=k2;have hlt:i<l.length:=(IS.1 hx).1
  obtain⟨v,hrun,hrep⟩:=cF (P:=P) (g:=g) (w:=w) hT hti hd (b:=b) (q:=i*Jf F t) (by
   intro k c hk;obtain⟨d',hd',rfl⟩:=fy hk;have hc:=aQ hx hd'
   have hks:k<Jf F t:=by rw[← aS F t x];exact(IS.1 hd').1
   have h1:i*Jf F t+k<(cells F t l).length:=(IS.1 hc).1
   have h2:(cells F t l).length≤cur.length:=by rw[q7,d5];exact MW _ q2
   have hC:=q8 _ _ _ _ hc (IR (by omega:i*Jf F t+k<cur.length)) (IR (by omega:i*Jf F t+k<n.2.length))
   refine⟨cur[i*Jf F t+k],?_,.im (hC.2 ?_).2⟩
   ·simp[World.cell?,q6]
   ·have:j*Jf F t≤i*Jf F t:=MW _ hji;omega)
  exact⟨v,key e hrun,hrep⟩
theorem xg(hT:Js P T)(hΓ : Kr P Γ):Rule P o vals mm c K (WZ T Γ vals mm c K o.op):=by
 unfold WZ;split
 ·exact BV hT hΓ rfl
 ·rename_i ho;split
  ·rename_i hrow;exact Pm hT ho rfl (.inl ⟨hrow,rfl⟩)
  ·rename_i hrow;exact Pm hT ho rfl (.inr hrow)
  ·rename_i hrow;exact Tp hT ho rfl hrow
  ·exact lj hT hΓ
 ·rename_i ho;split
  ·rename_i hrow;split
   ·rename_i ti hti;exact au (λ_=>zU hT ho rfl hrow) (λ_=>lj hT hΓ)
   ·exact ah
  ·rename_i hrow;exact Sz hT ho rfl hrow
  ·exact lj hT hΓ
 ·rename_i id kk n ho;split
  ·rename_i aan;split
   ·rename_i e _ _ _ _ _ ht;split
    ·rename_i te hte;refine aD λi hi=>ao ?_;intro own g w a m hle hm hr;rw[ho]at hr;simp only[Op.operands,KZ,Lx]at hr;obtain⟨h1,h2⟩:=KG hr;obtain⟨h3,h4,rfl⟩:=kz hi;have hS:=hm.ok _ _ (hle _ _ aan);rcases a_ (aV h1)with⟨hid,p,ev⟩ | ⟨b,c',len,hid,h5,h6,ev⟩
     ·rcases hS with⟨_,_,_,_,k1,_⟩ | ⟨_,_,k3⟩
      ·rw[hid]at k1;cases k1
      ·omega
     ·rcases hS with⟨_,_,_,_,k1,_,_,k4⟩ | ⟨k1,_⟩
      ·rw[hid]at k1;cases k1
       refine⟨.pointer (some ⟨b,0+n.toNat*te.size,none⟩),?_,by rw[LY];exact .c (.Ma (off:=0) hid)⟩
       have hu:=run_underlying (hT.und _ _ ht) w;have hs:=bw hT hte w;have e2:=bG h2
       have h7:0≤n∧n<len.1:=⟨h3,by omega⟩
       simp only[execOp,ho,ev,e2,LC,Instr.indexAt,asIntOf,hu,LV,MI,h7,and_self,if_true,hs,Addr.add_lit]
      ·rw[hid]at k1;cases k1
    ·exact ah
   ·exact ah
  ·exact lj hT hΓ
 ·exact lj hT hΓ
theorem CR(hT:Js P T)(hΓ : Kr P Γ):Rule P o vals mm c K (ZF T Γ vals mm c K o.op):=by
 unfold ZF;split
 ·exact xg hT hΓ
 ·exact EU (xg hT hΓ)
end
set_option linter.unusedVariables false
set_option linter.unusedSimpArgs false
section
variable{F:Fam}
def TS.st(s:TS F):St F:=⟨look s.E,look s.M,λid=>Nat.blt id s.c⟩
structure TR(F:Fam) where
 o:Oper
 s:St F
 c:Nat
 val:Dat F
 mw:List (Nat×Option (Jw F))
 nu:Nat
 run:Bool
 Uk:Nat
def St.upd(s:St F)(t:TR F):St F:=⟨λx=>if t.o.dst=some x then some t.val else s.e x,Kc s.m t.mw,λid=>(decide (t.c≤id)&&decide (id<t.c+t.nu))||s.u id⟩
def TR.next(t:TR F):St F:=t.s.upd t
section
variable(P:Program)(n:Nat)(ops:List Oper)
def Grd(o:Oper)(s:St F):Prop:=
 ∃j want d,o.guard=some (j,want)∧Nw ops j=some d∧s.e d=some (.c (.im (.b want)))
def Skp(o:Oper)(s:St F):Prop:=
 ∃j want d,o.guard=some (j,want)∧Nw ops j=some d∧(s.e d=some (.c (.im (.b (!want))))∨s.e d=some (.MC []))
def TR.gs(t:TR F):List Nat:=match t.o.guard with | some (j,_)=>(Nw ops j).toList | none=>[]
def TR.vals(t:TR F):List (Dat F):=t.o.op.operands.toList.map (Zk t.s.e)
def TR.rs(t:TR F):List Nat:=if t.run then t.gs ops++nJ t.o.op.operands.toList else t.gs ops
def TR.tm(t:TR F):List Nat:=if t.run then Ai t.s.m t.o.op t.vals else[]
def TR.rc(t:TR F):Rec:=⟨t.rs ops,t.o.dst,t.tm,t.mw.map (·.1),t.Uk⟩
structure TR.ok(t:TR F):Prop where
 dst:∀d,t.o.dst=some d→d<n
 fresh:∀k,k<t.nu→t.s.u (t.c+k)=false
 ran:t.run=true→Does P t.o t.vals (TJ t.s.m t.tm) t.c { val:=t.val,mw:=t.mw,nu:=t.nu }∧(t.o.guard=none∨Grd ops t.o t.s)
 skipped:t.run=false→t.val = .MC []∧t.mw = []∧t.nu=0∧Skp ops t.o t.s
def Chain:St F→List (TR F)→St F→Prop
 | s,[],s'=>s'=s
 | s,t::l,s'=>t.s=s∧Chain t.next l s'
def vh:List Rec→List (TR F)→Prop
 | _,[]=>True
 | rs,t::l=>t.Uk=M9 rs (KA t.o.after.toList)∧vh (rs++[t.rc ops]) l
end
theorem ar{α : Type}(x y:Nat)(a:α)(l:List (Nat×α)):look ((y,a)::l) x=if Nat.beq y x then some a else look l x:=rfl
theorem oQ(E:List (Nat×Dat F))(dst:Option Nat)(d:Dat F)(x:Nat):look (Rn E dst d) x=if dst=some x then some d else look E x:=by
 cases dst with
 | none=>simp[Rn]
 | some y=>
  simp only[Rn,ar];by_cases h:y=x
  ·subst h;simp
  ·rw[aj h];simp[h]
theorem aI{α : Type}(q:Nat→Bool)(x:Nat):∀(l:List (Nat×α)),look (l.filter λp=>q p.1) x=if q x then look l x else none
 | []=>by simp[look]
 | (y,a)::l=>by
  by_cases hq:q y=true
  ·rw[List.filter_cons_of_pos (by simpa using hq),ar,ar,aI q x l]
   by_cases h:y=x
   ·subst h;simp[hq]
   ·rw[aj h];simp
  ·rw[List.filter_cons_of_neg (by simpa using hq),aI q x l,ar]
   by_cases h:y=x
   ·subst h;simp[hq]
   ·rw[aj h];simp
theorem aY{α : Type}(x:Nat):∀(l r:List (Nat×α)),look (l++r) x=(look l x).or (look r x)
 | [],r=>by simp[look]
 | (y,a)::l,r=>by
  simp only[SE,ar,aY x l r]
  split<;>simp
theorem qw:∀(mw:List (Nat×Option (Jw F))) {m m':Nat→Option (Jw F)},(∀x,m x=m' x)→∀x,Kc m mw x=Kc m' mw x
 | [],_,_,h,x=>h x
 | (id,B)::r,m,m',h,x=>by
  simp only[Kc]
  exact qw r (λy=>by rw[h y]) x
theorem eg:∀(mw:List (Nat×Option (Jw F))) (M:List (Nat×Jw F)) (x:Nat),look (NI M mw) x=Kc (look M) mw x
 | [],M,x=>rfl
 | (id,none)::r,M,x=>by
  simp only[NI,Kc];rw[eg r];refine qw r (λy=>?_) x;rw[aI (λp=>!(Nat.beq id p))]
  cases Nat.beq id y<;>simp
 | (id,some B)::r,M,x=>by
  simp only[NI,Kc];rw[eg r];refine qw r (λy=>?_) x;rw[ar,aI (λp=>!(Nat.beq id p))]
  cases Nat.beq id y<;>simp
structure Fr(nv:Nat)(s s':TS F):Prop where
 e:∀x,x<nv→x∉s'.dE→look s'.E x=look s.E x
 m:∀id,id<s.c→id∉s'.dM→look s'.M id=look s.M id
 c:s.c≤s'.c
 dE:∀x∈s.dE,x∈s'.dE
 dM:∀x∈s.dM,x∈s'.dM
theorem Fr.refl(nv:Nat)(s:TS F):Fr nv s s:=⟨λ_ _ _=>rfl,λ_ _ _=>rfl,Ku _,λ_ h=>h,λ_ h=>h⟩
theorem Fr.trans{nv:Nat}{s s' s'':TS F}(h:Fr nv s s')(k:Fr nv s' s''):Fr nv s s'':=
 ⟨λx hx hn=>(k.e x hx hn).trans (h.e x hx (λhd=>hn (k.dE x hd))),λid hi hn=>(k.m id (OZ hi h.c) hn).trans (h.m id hi (λhd=>hn (k.dM id hd))),
  MJ h.c k.c,λx hx=>k.dE x (h.dE x hx),λx hx=>k.dM x (h.dM x hx)⟩
section
variable{P:Program}{T:TypeId→Option (TI F)}{Γ : Ctx F}{nv n:Nat}{ops:List Oper}{R:Type}
def rH(P:Program)(nv n:Nat)(ops:List Oper)(o:Oper)(s:TS F)(recs:List Rec)(K:TS F→List Rec→Option R)(r:R):Prop:=
 ∃s' t,K s' (recs++[t.rc ops])=some r∧t.o=o∧t.s=s.st∧t.next=s'.st∧TR.ok P n ops t∧t.Uk=M9 recs (KA o.after.toList)∧Fr nv s s'
theorem Ay{o:Oper}(h:(match o.dst with | some d=>Nat.blt d n | none=>true)=true):∀d,o.dst=some d→d<n:=by intro d hd;rw[hd]at h;exact MV.mp h
theorem xd{dE:List Nat}{dst:Option Nat}{x:Nat}(hx:x<nv)(h:x∉dirty nv dE dst):dst≠some x∧x∉dE:=by
 cases dst with
 | none=>exact⟨by simp,h⟩
 | some y=>
  simp only[dirty]at h;split at h
  ·simp only[Li,not_or]at h
   exact⟨λe=>by cases e;exact h.1 rfl,h.2⟩
  ·rename_i hb;refine⟨λe=>?_,h⟩;cases e;exact hb (MV.mpr hx)
theorem wQ{dE:List Nat}{dst:Option Nat}{x:Nat}(h:x∈dE):x∈dirty nv dE dst:=by
 cases dst with
 | none=>exact h
 | some y=>
  simp only[dirty];split
  ·simp[h]
  ·exact h
theorem BH{s s':St F}(h1:∀x,s.e x=s'.e x)(h2:∀x,s.m x=s'.m x)(h3:∀x,s.u x=s'.u x):s=s':=by
 cases s;cases s'
 simp only[St.mk.injEq];exact⟨funext h1,funext h2,funext h3⟩
theorem br(a b:Nat):Nat.blt a b=decide (a<b):=by rw[Bool.eq_iff_iff];simp[MV]
theorem aL{p:Prop}[Decidable p]{x:Option R}{r:R}(h:(if p then x else none)=some r):p∧x=some r:=by
 split at h
 ·exact⟨by assumption,h⟩
 ·cases h
theorem ud{o:Oper}{gs:List Nat}{s:TS F}{recs:List Rec}{K:TS F→List Rec→Option R}{r:R}(h:R6 nv n o gs s recs K=some r)
  (hgs:gs=(match o.guard with | some (j,_)=>(Nw ops j).toList | none=>[])) (hsk:Skp ops o s.st):rH P nv n ops o s recs K r:=by
 unfold R6 at h;obtain⟨hd,h⟩:=aL h
 ·refine⟨⟨Rn s.E o.dst (.MC []),s.M,s.c,dirty nv s.dE o.dst,s.dM⟩,⟨o,s.st,s.c,.MC [],[],0,false,M9 recs (KA o.after.toList)⟩,?_,rfl,rfl,?_,⟨Ay (n:=n) (o:=o) hd,λk hk=>absurd hk (Nat.not_lt_zero k),λhr=>(by cases hr),λ_=>⟨rfl,rfl,rfl,hsk⟩⟩,rfl,?_⟩
  ·rw[hgs]at h;exact h
  ·refine BH (λx=>?_) (λx=>rfl) (λx=>?_)
   ·simp only[TR.next,St.upd,TS.st];rw[oQ]
   ·simp only[TR.next,St.upd,TS.st,RS];by_cases hx:s.c≤x
    ·have:¬ x<s.c:=by omega
     simp[this,br]
    ·simp[hx]
  ·refine⟨λx hx hn=>?_,λ_ _ _=>rfl,Ku _,λx hx=>wQ hx,λ_ hx=>hx⟩;show look (Rn s.E o.dst (.MC [])) x=_;rw[oQ,if_neg (xd hx hn).1]
theorem xJ(hT:Js P T)(hΓ : Kr P Γ){o:Oper}{gs:List Nat}{s:TS F}{recs:List Rec}{K:TS F→List Rec→Option R}{r:R}(h:tGo T Γ nv n o gs s recs K=some r)
  (hgs:gs=(match o.guard with | some (j,_)=>(Nw ops j).toList | none=>[])) (hgr:o.guard=none∨Grd ops o s.st):rH P nv n ops o s recs K r:=by
 unfold tGo at h;obtain⟨res,h1,h2⟩:=CR hT hΓ r h;obtain⟨hd,h1⟩:=aL h1
 ·refine⟨⟨Rn s.E o.dst res.val,NI s.M res.mw,s.c+res.nu,dirty nv s.dE o.dst,res.mw.map (·.1)++s.dM⟩,⟨o,s.st,s.c,res.val,res.mw,res.nu,true,M9 recs (KA o.after.toList)⟩,?_,rfl,rfl,?_,⟨Ay (n:=n) (o:=o) hd,λk hk=>?_,λ_=>⟨h2,hgr⟩,λhr=>(by cases hr)⟩,rfl,?_⟩
  ·rw[hgs]at h1;exact h1
  ·refine BH (λx=>?_) (λx=>?_) (λx=>?_)
   ·simp only[TR.next,St.upd,TS.st];rw[oQ]
   ·simp only[TR.next,St.upd,TS.st];rw[eg]
   ·simp only[TR.next,St.upd,TS.st,br];rw[Bool.eq_iff_iff];simp only[Pt,KQ,decide_eq_true_eq];omega
  ·simp only[TS.st,br];simp
  ·refine⟨λx hx hn=>?_,λid hi hn=>?_,Nat.le_add_right _ _,λx hx=>wQ hx,λ_ hx=>WC _ hx⟩
   ·show look (Rn s.E o.dst res.val) x=_;rw[oQ,if_neg (xd hx hn).1]
   ·show look (NI s.M res.mw) id=_;rw[eg,cp];intro hm;exact hn (WA _ hm)
theorem H1{s:TS F}{d:Nat}{v:Dat F}(h:look s.E d=some v):(⟨(d,v)::s.E,s.M,s.c,s.dE,s.dM⟩:TS F).st=s.st:=by
 refine BH (λx=>?_) (λx=>rfl) (λx=>rfl);simp only[TS.st,ar];by_cases hx:d=x
 ·subst hx;simp[h]
 ·rw[aj hx];simp
theorem Dx{s:TS F}{d:Nat}{v:Dat F}(hv:look s.E d=some v){o:Oper}{recs:List Rec}{K:TS F→List Rec→Option R}{r:R}(h:rH P nv n ops o ⟨(d,v)::s.E,s.M,s.c,s.dE,s.dM⟩ recs K r):rH P nv n ops o s recs K r:=by
 obtain⟨s',t,h1,h2,h3,h4,h5,h6,h7⟩:=h;rw[H1 hv]at h3;refine⟨s',t,h1,h2,h3,h4,h5,h6,⟨λx hx hn=>?_,h7.m,h7.c,h7.dE,h7.dM⟩⟩;rw[h7.e x hx hn,ar];by_cases hdx:d=x
 ·subst hdx;simp[hv]
 ·rw[aj hdx];simp
theorem FF(hT:Js P T)(hΓ : Kr P Γ){o:Oper}{s:TS F}{recs:List Rec}{K:TS F→List Rec→Option R}{r:R}(h:Vq T Γ nv n ops o s recs K=some r):rH P nv n ops o s recs K r:=by
 unfold Vq at h;split at h
 ·rename_i hg
  exact xJ hT hΓ h (by rw[hg]) (.inl hg)
 ·rename_i j want hg;split at h
  ·cases h
  ·rename_i d hd
   have hgs:[d]=(match o.guard with | some (j,_)=>(Nw ops j).toList | none=>[]):=by rw[hg];simp[hd]
   split at h
   ·rename_i x hx
    have hx':∀b,x=b→look s.E d=some (.c (.im (.b b))):=λb e=>by rw[hx,e]
    have self:∀b,(⟨(d,.c (.im (.b b)))::s.E,s.M,s.c,s.dE,s.dM⟩:TS F).st.e d=some (.c (.im (.b b))):=λb=>by simp[TS.st,ar]
    cases x with
    | true=>
     refine Dx (hx' true rfl) ?_;simp only[cond_true]at h;split at h
     ·rename_i hw
      exact xJ hT hΓ h hgs (.inr ⟨j,want,d,hg,hd,by rw[hw];exact self true⟩)
     ·rename_i hw
      exact ud h hgs ⟨j,want,d,hg,hd,.inl (by rw[Bool.not_eq_true]at hw;rw[hw];exact self true)⟩
    | false=>
     refine Dx (hx' false rfl) ?_;simp only[cond_false]at h;split at h
     ·rename_i hw
      exact ud h hgs ⟨j,want,d,hg,hd,.inl (by rw[hw];exact self false)⟩
     ·rename_i hw
      exact xJ hT hΓ h hgs (.inr ⟨j,want,d,hg,hd,by rw[Bool.not_eq_true]at hw;rw[hw];exact self false⟩)
   ·rename_i hx;exact ud h hgs ⟨j,want,d,hg,hd,.inr hx⟩
   ·cases h
theorem nF(hT:Js P T)(hΓ : Kr P Γ):∀{l:List Oper}{s:TS F}{recs:List Rec}{K:TS F→List Rec→Option R} {r:R},SV T Γ nv n ops l s recs K=some r→
  ∃s' tr,K s' (recs++tr.map (·.rc ops))=some r∧tr.map (·.o)=l∧Chain s.st tr s'.st∧(∀t∈tr,TR.ok P n ops t)∧vh ops recs tr∧Fr nv s s'
 | [],s,recs,K,r,h=>⟨s,[],by simpa[SV]using h,rfl,rfl,by simp,trivial,.refl _ _⟩
 | o::l,s,recs,K,r,h=>by
  simp only[SV]at h;obtain⟨s1,t,h1,h2,h3,h4,h5,h6,h7⟩:=FF hT hΓ h;obtain⟨s',tr,k1,k2,k3,k4,k5,k6⟩:=nF hT hΓ h1
  refine⟨s',t::tr,by simpa using k1,by simp[h2,k2],⟨h3,by rw[h4];exact k3⟩,?_,⟨by rw[h2];exact h6,k5⟩,h7.trans k6⟩
  intro x hx;rcases Li.1 hx with rfl | hx
  ·exact h5
  ·exact k4 x hx
end
section
variable{P:Program}{n:Nat}{ops:List Oper}{own:Ow}{W0:World}
theorem uH{x:Nat}:∀{l:List Operand},Operand.tmp x∈l→x∈nJ l
 | [],h=>by simp at h
 | y::l,h=>by
  rcases Li.1 h with rfl | h
  ·simp[nJ]
  ·have:=uH h
   cases y<;>simp[nJ,this]
theorem yz{s:St F}{g g':G}{a:Act}{w w':World}{t:TR F}{v:Value}(h:Good P own W0 n s g a w)(hd:∀d,t.o.dst=some d→d<n)(hv:Jr P g' w' t.val v)
  (hm:Je own g' w' (Kc s.m t.mw)) (hst:Stp s.m g w g' w') (hu:∀id,s.u id=false→(id<t.c∨t.c+t.nu≤id)→g'.ids id=none):Good P own W0 n (s.upd t) g' (a.put t.o.dst v) w':=by
 have htm:(a.put t.o.dst v).tmps.size=n:=by
  rw[← h.OH]
  cases t.o.dst<;>simp[Act.put]
 have hdf:(a.put t.o.dst v).defers = []:=by
  rw[← h.Po]
  cases t.o.dst<;>rfl
 refine⟨hdf,htm,?_,hm,?_,λb hb=>hst.le.IV b (h.OW b hb),h.K7.stp h.mem hst,λid p hp=>hst.le.ids id p (h.NU id p hp)⟩
 ·intro x d hx;simp only[St.upd]at hx;split at hx
  ·rename_i hdst;cases hx;have hlt:=hd x hdst;rw[hdst];simp only[Act.put];rw[PZ,XF]
   rw[if_pos rfl,if_pos (by rw[h.OH];exact hlt)]
   exact hv
  ·rename_i hdst;have:=(h.env x d hx).le hst.le
   cases hdd:t.o.dst with
   | none=>exact this
   | some y=>
    have hne:y≠x:=λe=>hdst (by rw[hdd,e])
    simp only[Act.put];rw[PZ,XF,if_neg hne,← PZ];exact this
 ·intro id hid;simp only[St.upd,UJ,QeP,decide_eq_false_iff_not]at hid
  exact hu id hid.2 (by omega)
theorem Df{Kq:Array Oper}(hops:Kq.toList=ops){s:St F}{g:G}{a:Act}{w:World}(h:Good P own W0 n s g a w){j d:Nat}{b:Bool}(hd:Nw ops j=some d)(he:s.e d=some (.c (.im (.b b)))) :
  yielded Kq a.tmps j=some b:=by
 have hv:=mU (h.env d _ he)
 have hj:(Kq[j]?).bind (·.dst)=some d:=by rw[← hd];simp only[Nw,← hops];simp
 have ht:a.tmps[d]? = some (.bool b):=by
  rw[PZ]at hv
  cases hx:a.tmps[d]? with
  | none=>rw[hx]at hv;simp[undef]at hv
  | some x=>rw[hx]at hv;simp only[SQ]at hv;rw[hv]
 simp only[yielded,hj,IP,ht]
theorem FX{Kq:Array Oper}(hops:Kq.toList=ops){s:St F}{g:G}{a:Act}{w:World}(h:Good P own W0 n s g a w){j d:Nat}(hd:Nw ops j=some d)(he:s.e d=some (.MC [])) :
  yielded Kq a.tmps j=none:=by
 obtain⟨vs,hv,hl,_⟩:=Ac (h.env d _ he)
 have hj:(Kq[j]?).bind (·.dst)=some d:=by rw[← hd];simp only[Nw,← hops];simp
 simp only[yielded,hj,IP];rw[PZ]at hv
 cases hx:a.tmps[d]? with
 | none=>rfl
 | some x=>rw[hx]at hv;simp only[SQ]at hv;rw[hv]
theorem vS{t:TR F}(ok:TR.ok P n ops t){s:St F}(hge:∀x∈t.rs ops,s.e x=t.s.e x)(hgm:∀id,id∈t.tm→s.m id=t.s.m id)
  (hfr:∀k,k<t.nu→s.u (t.c+k)=false) {g:G} {a:Act} {w:World} (hgood:Good P own W0 n s g a w) {Kq:Array Oper} (hops:Kq.toList=ops) {i:Nat} (hi:Kq[i]? = some t.o)
  {K:Act→World→Prop} {Q:Exit→Act→World→Prop} (hK:∀g' a' w',Good P own W0 n (s.upd t) g' a' w'→K a' w'):wpOp P Kq Q i K a w:=by
 unfold wpOp;rw[hi];dsimp only
 cases hrun:t.run with
 | false=>
  obtain⟨h1,h2,h3,j,want,d,hgd,hdd,hlk⟩:=ok.skipped hrun
  have hmem:d∈t.rs ops:=by simp[TR.rs,hrun,TR.gs,hgd,hdd]
  have hw:Region.wanted t.o (yielded Kq a.tmps)=false:=by
   rcases hlk with hlk | hlk
   ·have he:s.e d=some (.c (.im (.b (!want)))):=by rw[hge d hmem,hlk]
    have hy:=Df hops hgood hdd he;simp only[Region.wanted,hgd,hy]
    cases want<;>rfl
   ·have he:s.e d=some (.MC []):=by rw[hge d hmem,hlk]
    have hy:=FX hops hgood hdd he;simp only[Region.wanted,hgd,hy];rfl
  rw[hw];simp only[Nb,if_false]
  refine hK g _ w (yz hgood ok.dst (by rw[h1];exact .MC rfl (by simp)) (by rw[h2];exact hgood.mem) (.refl _ _ _) ?_)
  intro id hu _;exact hgood.dom id hu
 | true=>
  obtain⟨h1,h6⟩:=ok.ran hrun
  have hw:Region.wanted t.o (yielded Kq a.tmps)=true:=by
   rcases h6 with h6 | ⟨j,want,d,hgd,hdd,hlk⟩
   ·simp[Region.wanted,h6]
   ·have hmem:d∈t.rs ops:=by simp[TR.rs,hrun,TR.gs,hgd,hdd]
    have he:s.e d=some (.c (.im (.b want))):=by rw[hge d hmem,hlk]
    have hy:=Df hops hgood hdd he;simp[Region.wanted,hgd,hy]
  rw[hw,if_pos rfl];left
  have hv:t.vals=t.o.op.operands.toList.map (Zk s.e):=by
   unfold TR.vals;apply QdP;intro x hx
   cases x with
   | tmp y=>simp only[Zk];rw[hge y (by simp[TR.rs,hrun,uH hx])]
   | _=>rfl
  have hle:M6 (TJ t.s.m t.tm) s.m:=by
   intro id B hB;unfold TJ at hB;split at hB
   ·rename_i hm;rw[hgm id (aK.1 hm)];exact hB
   ·cases hB
  refine h1 own g w a s.m s.u hle hgood.mem hgood.dom (λb hb=>hgood.K7.fresh b (MJ hgood.K7.size hb)) hfr (by rw[hv];exact FG hgood.env _) K Q ?_
  intro v w' g' k1 k2 k3 k4;exact hK g' _ w' (yz hgood ok.dst k1 k2 k3 k4)
theorem mf{Kq:Array Oper}(hops:Kq.toList=ops){Q:Exit→Act→World→Prop}:∀(tr:List (TR F)) (k:Nat) (s s':St F),(∀j,tr[j]?.map (·.o)=Kq[k+j]?)→Chain s tr s'→(∀t∈tr,TR.ok P n ops t)→
  ∀{g:G}{a:Act}{w:World},Good P own W0 n s g a w→(∀g' a' w',Good P own W0 n s' g' a' w'→Q .normal a' w')→wpOps P Kq Q (List.range' k tr.length) a w
 | [],k,s,s',_,hc,_,g,a,w,hgood,hQ=>by have hc':s'=s:=hc;subst hc';exact hQ g a w hgood
 | t::tr,k,s,s',ho,hc,hok,g,a,w,hgood,hQ=>by
  obtain⟨hts,hc⟩:=hc;simp only[Ri,List.range'_succ];rw[wpOps_cons]
  have hi:Kq[k]? = some t.o:=by have:=ho 0;simpa using this.symm
  refine vS (hok t (by simp)) (s:=s) ?_ ?_ ?_ hgood hops hi ?_
  ·intro x _;rw[hts]
  ·intro id _;rw[hts]
  ·intro j hj
   have:=(hok t (by simp)).fresh j hj
   rw[hts]at this;exact this
  ·intro g' a' w' hg'
   refine mf hops tr (k+1) t.next s' ?_ hc (λx hx=>hok x (by simp[hx])) (by unfold TR.next;rw[hts];exact hg') hQ
   intro j;have:=ho (j+1);simpa[Pq,XB 1 j]using this
end
end
set_option linter.unusedVariables false
set_option linter.unusedSimpArgs false
section
variable{F:Fam}
def TR.nm(t:TR F)(x:Nat):Bool:=decide (t.c≤x)&&decide (x<t.c+t.nu)
theorem yp{t:TR F}(h:∀k,k<t.nu→t.s.u (t.c+k)=false){x:Nat}(hx:t.nm x=true):t.s.u x=false:=by
 simp only[TR.nm,KQ,decide_eq_true_eq]at hx
 have:=h (x - t.c) (by omega)
 rwa [QdO hx.1]at this
def Kw(on:Nat→Bool):Nat→List (TR F)→(St F)→(St F)
 | _,[],s=>s
 | k,t::l,s=>Kw on (k+1) l (if on k then s.upd t else s)
theorem sY:∀(mw:List (Nat×Option (Jw F))) (m m':Nat→Option (Jw F)) (x:Nat),x∈mw.map (·.1)→Kc m mw x=Kc m' mw x
 | [],m,m',x,h=>by simp at h
 | (id,B)::r,m,m',x,h=>by
  simp only[Kc];by_cases hr:x∈r.map (·.1)
  ·exact sY r _ _ x hr
  ·rw[cp r _ x hr,cp r _ x hr];simp only[KZ,Li]at h;rcases h with rfl | h
   ·simp
   ·exact absurd h hr
theorem sU(on on':Nat→Bool)(x:Nat):∀(l:List (TR F)) (k:Nat) (s s':(St F)),s.e x=s'.e x→(∀j t,l[j]? = some t→t.o.dst=some x→on (k+j)=on' (k+j))→(Kw on k l s).e x=(Kw on' k l s').e x
 | [],k,s,s',h,_=>h
 | t::l,k,s,s',h,hw=>by
  simp only[Kw]
  refine sU on on' x l (k+1) _ _ ?_ (λj t' hj hd=>by have:=hw (j+1) t' (by simpa using hj) hd;simpa[Pq,XB 1 j]using this)
  by_cases hd:t.o.dst=some x
  ·have:=hw 0 t rfl hd;simp only[RS]at this;rw[this];split
   ·simp[St.upd,hd]
   ·exact h
  ·have e1:∀s:(St F),(s.upd t).e x=s.e x:=λs=>by simp[St.upd,hd]
   split<;>split<;>simp only[e1,h]
theorem sP(on on':Nat→Bool)(x:Nat):∀(l:List (TR F)) (k:Nat) (s s':(St F)),s.m x=s'.m x→(∀j t,l[j]? = some t→x∈t.mw.map (·.1)→on (k+j)=on' (k+j))→(Kw on k l s).m x=(Kw on' k l s').m x
 | [],k,s,s',h,_=>h
 | t::l,k,s,s',h,hw=>by
  simp only[Kw]
  refine sP on on' x l (k+1) _ _ ?_ (λj t' hj hd=>by have:=hw (j+1) t' (by simpa using hj) hd;simpa[Pq,XB 1 j]using this)
  by_cases hd:x∈t.mw.map (·.1)
  ·have:=hw 0 t rfl hd;simp only[RS]at this;rw[this];split
   ·exact sY _ _ _ x hd
   ·exact h
  ·have e1:∀s:(St F),(s.upd t).m x=s.m x:=λs=>cp _ _ x hd
   split<;>split<;>simp only[e1,h]
theorem zg(on:Nat→Bool)(x:Nat)(l:List (TR F))(k:Nat)(s:(St F))(h:∀j t,l[j]? = some t→t.o.dst=some x→on (k+j)=false):(Kw on k l s).e x=s.e x:=by
 have:∀(l:List (TR F)) (k:Nat) (s:(St F)),(Kw (λ_=>false) k l s)=s:=by
  intro l
  induction l with
  | nil=>intro k s;rfl
  | cons t l ih=>intro k s;simp only[Kw];exact ih (k+1) s
 rw[sU on (λ_=>false) x l k s s rfl h,this]
theorem y8(on:Nat→Bool)(x:Nat)(l:List (TR F))(k:Nat)(s:(St F))(h:∀j t,l[j]? = some t→x∈t.mw.map (·.1)→on (k+j)=false):(Kw on k l s).m x=s.m x:=by
 have:∀(l:List (TR F)) (k:Nat) (s:(St F)),(Kw (λ_=>false) k l s)=s:=by
  intro l
  induction l with
  | nil=>intro k s;rfl
  | cons t l ih=>intro k s;simp only[Kw];exact ih (k+1) s
 rw[sP on (λ_=>false) x l k s s rfl h,this]
theorem la(on:Nat→Bool)(x:Nat):∀(l:List (TR F)) (k:Nat) (s:(St F)),(Kw on k l s).u x=true↔s.u x=true∨∃j t,l[j]? = some t∧on (k+j)=true∧t.nm x=true
 | [],k,s=>by simp[Kw]
 | t::l,k,s=>by
  simp only[Kw];rw[la on x l (k+1)];constructor
  ·rintro(h | ⟨j,t',h1,h2,h3⟩)
   ·split at h
    ·rename_i hk;simp only[St.upd,Pt]at h;rcases h with h | h
     ·exact .inr ⟨0,t,rfl,by simpa using hk,h⟩
     ·exact .inl h
    ·exact .inl h
   ·exact .inr ⟨j+1,t',by simpa using h1,by rw[← h2];congr 1;omega,h3⟩
  ·rintro(h | ⟨j,t',h1,h2,h3⟩)
   ·left;split
    ·simp[St.upd,h]
    ·exact h
   ·cases j with
    | zero=>
     left;simp only[M4,KV]at h1;subst h1
     rw[if_pos (by simpa using h2)]
     simp[St.upd,TR.nm]at h3 ⊢;simp[h3]
    | succ j=>exact .inr ⟨j,t',by simpa using h1,by rw[← h2];congr 1;omega,h3⟩
theorem Br(on:Nat→Bool)(i:Nat):∀(l:List (TR F)) (k:Nat) (s:(St F)) (t:TR F),l[i]? = some t→on (k+i)=false→
  (∀j t',l[j]? = some t'→i<j→on (k+j)=true→(∀x,t.o.dst=some x→t'.o.dst≠some x)∧(∀x,x∈t.mw.map (·.1)→x∉t'.mw.map (·.1)))→
  Kw (λj=>on j||j == k+i) k l s=(Kw on k l s).upd t:=by
 intro l k s t hi hoff Y2
 have hon:∀j,j≠i→(λj=>on j||j == k+i) (k+j)=on (k+j):=by
  intro j hj
  have:(k+j == k+i)=false:=by simp;exact hj
  simp[this]
 have e1:∀x,(Kw (λj=>on j||j == k+i) k l s).e x=((Kw on k l s).upd t).e x:=by
  intro x;by_cases hd:t.o.dst=some x
  ·
   have key:∀(l:List (TR F)) (k i:Nat) (s:(St F)) (on:Nat→Bool),l[i]? = some t→on (k+i)=true→(∀j t',l[j]? = some t'→i<j→on (k+j)=true→t'.o.dst≠some x)→(Kw on k l s).e x=some t.val:=by
    intro l
    induction l with
    | nil=>intro k i s on h;simp at h
    | cons t0 l ih=>
     intro k i s on h1 h2 h3
     cases i with
     | zero=>
      simp only[M4,KV]at h1;subst h1;simp only[Kw]
      rw[if_pos (by simpa using h2),zg]
      ·simp[St.upd,hd]
      ·intro j t' hj hdd
       cases hon:on (k+1+j)with
       | false=>rfl
       | true=>exact absurd hdd (h3 (j+1) t' (by simpa using hj) (by omega) (by rw[← hon];congr 1;omega))
     | succ i=>
      simp only[Kw]
      exact ih (k+1) i _ on (by simpa using h1) (by rw[← h2];congr 1;omega) (λj t' hj hij ho=>h3 (j+1) t' (by simpa using hj) (by omega) (by rw[← ho];congr 1;omega))
   rw[key l k i s _ hi (by simp) (λj t' hj hij ho=>(Y2 j t' hj hij (by rw[← hon j (by omega)];exact ho)).1 x hd)]
   simp[St.upd,hd]
  ·rw[sU _ on x l k s s rfl]
   ·simp[St.upd,hd]
   ·intro j t' hj hdd;refine hon j (λe=>hd ?_);subst e;rw[hi]at hj;cases hj;exact hdd
 have e2:∀x,(Kw (λj=>on j||j == k+i) k l s).m x=((Kw on k l s).upd t).m x:=by
  intro x;by_cases hd:x∈t.mw.map (·.1)
  ·have key:∀(l:List (TR F)) (k i:Nat) (s:(St F)) (on:Nat→Bool),l[i]? = some t→on (k+i)=true→(∀j t',l[j]? = some t'→i<j→on (k+j)=true→x∉t'.mw.map (·.1))→(Kw on k l s).m x=Kc (λ_=>none) t.mw x:=by
    intro l
    induction l with
    | nil=>intro k i s on h;simp at h
    | cons t0 l ih=>
     intro k i s on h1 h2 h3
     cases i with
     | zero=>
      simp only[M4,KV]at h1;subst h1;simp only[Kw]
      rw[if_pos (by simpa using h2),y8]
      ·exact sY _ _ _ x hd
      ·intro j t' hj hdd
       cases hon:on (k+1+j)with
       | false=>rfl
       | true=>exact absurd hdd (h3 (j+1) t' (by simpa using hj) (by omega) (by rw[← hon];congr 1;omega))
     | succ i=>
      simp only[Kw]
      exact ih (k+1) i _ on (by simpa using h1) (by rw[← h2];congr 1;omega) (λj t' hj hij ho=>h3 (j+1) t' (by simpa using hj) (by omega) (by rw[← ho];congr 1;omega))
   rw[key l k i s _ hi (by simp) (λj t' hj hij ho=>(Y2 j t' hj hij (by rw[← hon j (by omega)];exact ho)).2 x hd)]
   exact sY _ _ _ x hd
  ·rw[sP _ on x l k s s rfl]
   ·exact(cp _ _ x hd).symm
   ·intro j t' hj hdd;refine hon j (λe=>hd ?_);subst e;rw[hi]at hj;cases hj;exact hdd
 have e3:∀x,(Kw (λj=>on j||j == k+i) k l s).u x=((Kw on k l s).upd t).u x:=by
  intro x;rw[Bool.eq_iff_iff,la];simp only[St.upd,Pt];rw[la];constructor
  ·rintro(h | ⟨j,t',h1,h2,h3⟩)
   ·exact .inr (.inl h)
   ·by_cases hj:j=i
    ·subst hj;rw[hi]at h1;cases h1;exact .inl h3
    ·have h2':on (k+j)=true:=by
      rw[← hon j hj];simpa using h2
     exact .inr (.inr ⟨j,t',h1,h2',h3⟩)
  ·rintro(h | h | ⟨j,t',h1,h2,h3⟩)
   ·exact .inr ⟨i,t,hi,by simp,h⟩
   ·exact .inl h
   ·exact .inr ⟨j,t',h1,by simp[h2],h3⟩
 cases hA:Kw (λj=>on j||j == k+i) k l s
 cases hB:(Kw on k l s).upd t
 rw[hA,hB]at e1 e2 e3;simp only[St.mk.injEq];exact⟨funext e1,funext e2,funext e3⟩
theorem pF:∀(l:List (TR F)) (k:Nat) (s s':St F) (on:Nat→Bool),Chain s l s'→(∀j,j<l.length→on (k+j)=true)→Kw on k l s=s'
 | [],k,s,s',on,h,_=>by have h':s'=s:=h;subst h';rfl
 | t::l,k,s,s',on,h,ho=>by
  obtain⟨h1,h2⟩:=h;simp only[Kw]
  rw[if_pos (by simpa using ho 0 (by simp)),← h1]
  exact pF l (k+1) t.next s' on h2 (λj hj=>by have:=ho (j+1) (by simp;omega);rw[← this];congr 1;omega)
theorem uv:∀(l:List (TR F)) (k:Nat) (s s':St F) (i:Nat) (t:TR F),Chain s l s'→l[i]? = some t→t.s=Kw (λj=>decide (j<k+i)) k l s
 | [],k,s,s',i,t,_,hi=>by simp at hi
 | t0::l,k,s,s',i,t,h,hi=>by
  obtain⟨h1,h2⟩:=h
  cases i with
  | zero=>
   simp only[M4,KV]at hi;subst hi
   have:∀(l:List (TR F)) (k':Nat) (s:(St F)),k≤k'→(Kw (λj=>decide (j<k+0)) k' l s)=s:=by
    intro l
    induction l with
    | nil=>intro k' s _;rfl
    | cons t l ih=>intro k' s hk;simp only[Kw];rw[if_neg (by simp;omega)];exact ih (k'+1) s (by omega)
   rw[this _ k _ (Ku _),h1]
  | succ i=>
   simp only[Kw]
   rw[if_pos (by simp),← h1]
   have:=uv l (k+1) t0.next s' i t h2 (by simpa using hi)
   rw[this]
   congr 1
   funext j
   congr 1
   apply propext
   constructor<;>intro h<;>omega
variable{P:Program}{n:Nat}{ops:List Oper}{own:Ow}{W0:World}
def K3(listed:Array Bool):Nat→Bool:=λk=>listed.getD k false
theorem zO{l:List Edge}{e:Edge}(h:e∈l)(hb:Region.binds .any e=true):e.on∈KA l:=by
 induction l with
 | nil=>simp at h
 | cons x l ih=>
  simp only[KA];rcases Li.1 h with rfl | h
  ·rw[if_pos hb];simp
  ·split
   ·exact Pw _ (ih h)
   ·exact ih h
theorem z8{l:List Edge}{k:Nat}(h:k∈KA l):∃e∈l,Region.binds .any e=true∧e.on=k:=by
 induction l with
 | nil=>simp[KA]at h
 | cons x l ih=>
  simp only[KA]at h;split at h
  ·rename_i hb;rcases Li.1 h with rfl | h
   ·exact⟨x,by simp,hb,rfl⟩
   ·obtain⟨e,h1,h2⟩:=ih h
    exact⟨e,by simp[h1],h2⟩
  ·obtain⟨e,h1,h2⟩:=ih h
   exact⟨e,by simp[h1],h2⟩
theorem CK(on:Nat→Bool)(tr:List (TR F))(hrec:∀i t,tr[i]? = some t→t.Uk=M9 ((tr.map (·.rc ops)).take i) (KA t.o.after.toList))
  (ajf:∀i t,tr[i]? = some t→∀k∈KA t.o.after.toList,k<i) (hclosed:∀i t,tr[i]? = some t→on i=true→∀k∈KA t.o.after.toList,on k=true) :
  ∀(i:Nat)(t:TR F),tr[i]? = some t→(∀k∈KA t.o.after.toList,on k=true)→∀k,Nat.testBit t.Uk k=true→on k=true:=by
 intro i
 induction i using Nat.strongRecOn with
 | _ i ih=>
  intro t hi hon k hk;rw[hrec i t hi]at hk;have an4:=ajf i t hi
  have key:∀(es:List Nat),(∀k∈es,k<i∧on k=true)→∀k,Nat.testBit (M9 ((tr.map (·.rc ops)).take i) es) k=true→on k=true:=by
   intro es
   induction es with
   | nil=>intro _ k hk;simp[M9]at hk
   | cons d es ihe=>
    intro hes k hk
    rw[M9,show∀a b:Nat,Nat.lor a b=a ||| b fromλ_ _=>rfl,show∀a b:Nat,Nat.lor a b=a ||| b fromλ_ _=>rfl,Nat.testBit_or,Nat.testBit_or,Nat.testBit_two_pow]at hk
    simp only[Pt,decide_eq_true_eq,or_assoc]at hk
    obtain⟨hd1,hd2⟩:=hes d (by simp)
    rcases hk with rfl | hk | hk
    ·exact hd2
    ·rw[MO,if_pos hd1,MN]at hk
     cases ht:tr[d]? with
     | none=>rw[ht]at hk;simp at hk
     | some td=>rw[ht]at hk;simp only[SN,Option.elim_some]at hk;exact ih d hd1 td ht (hclosed d td ht hd2) k hk
    ·exact ihe (λk hk=>hes k (by simp[hk])) k hk
  exact key _ (λk hk=>⟨an4 k hk,hon k hk⟩) k hk
theorem rN{b:Rec}:∀{l:List Rec}{i:Nat},qg b i l=true→∀j a,l[j]? = some a→Nat.testBit b.Uk (i+j)=true∨a.conflict b=false
 | [],_,_,j,a,h=>by simp at h
 | x::l,i,ho,j,a,h=>by
  simp only[qg,KQ,Pt,Rj]at ho
  cases j with
  | zero=>simp only[M4,KV]at h;subst h;exact ho.1
  | succ j=>
   have:=rN ho.2 j a (by simpa using h)
   rw[show i+(j+1)=i+1+j by omega]
   exact this
theorem tO(all:List Rec):∀{l:List Rec}{k:Nat},all.drop k=l→k≤all.length→rP all l=true→∀j b,l[j]? = some b→qg b 0 (all.take (k+j))=true
 | [],_,_,_,_,j,b,h=>by simp at h
 | x::l,k,hd,hk,ho,j,b,h=>by
  simp only[rP,KQ]at ho
  have hlen:all.length=k+(x::l).length:=by have:=congrArg List.length hd;rw[Na]at this;omega
  cases j with
  | zero=>
   simp only[M4,KV]at h;subst h;have h1:=ho.1
   rw[show all.length - (x::l).length=k+0 by omega]at h1
   exact h1
  | succ j=>
   have hd':all.drop (k+1)=l:=by rw[← Zr,hd];rfl
   have:=tO all hd' (by simp at hlen;omega) ho.2 j b (by simpa using h)
   rw[show k+(j+1)=k+1+j by omega]
   exact this
theorem rn:∀{l:List Oper}{i:Nat},pW i l=true→∀j o,l[j]? = some o→∀k∈KA o.after.toList,k<i+j
 | [],_,_,j,o,h=>by simp at h
 | x::l,i,he,j,o,h=>by
  simp only[pW,KQ]at he
  cases j with
  | zero=>simp only[M4,KV]at h;subst h;intro k hk;have:=N9.1 he.1 k hk;simpa using this
  | succ j=>
   have:=rn he.2 j o (by simpa using h)
   intro k hk;have:=this k hk;omega
theorem wH:∀{tr:List (TR F)} {rs:List Rec},vh ops rs tr→∀i t,tr[i]? = some t→t.Uk=M9 (rs++(tr.map (·.rc ops)).take i) (KA t.o.after.toList)
 | [],_,_,i,t,h=>by simp at h
 | x::tr,rs,hr,i,t,h=>by
  obtain⟨h1,h2⟩:=hr
  cases i with
  | zero=>simp only[M4,KV]at h;subst h;simpa using h1
  | succ i=>
   have:=wH h2 i t (by simpa using h)
   rw[this]
   congr 1
   simp
theorem r_{a b:List Nat}(h:meets a b=false){x:Nat}(ha:x∈a):x∉b:=by
 induction a with
 | nil=>simp at ha
 | cons y a ih=>
  simp only[meets,UJ]at h;rcases Li.1 ha with rfl | ha
  ·intro hb;rw[aK.2 hb]at h;cases h.1
  ·exact ih h.2 ha
theorem jf{a b:Rec}(h:a.conflict b=false):(∀x,a.d=some x→x∉b.rs∧b.d≠some x)∧(∀x,b.d=some x→x∉a.rs)∧(∀x,x∈a.wm→x∉b.tm∧x∉b.wm)∧(∀x,x∈b.wm→x∉a.tm):=by
 simp only[Rec.conflict,UJ]at h;obtain⟨⟨⟨⟨h1,h2⟩,h3⟩,h4⟩,h5⟩:=h;refine⟨?_,?_,λx hx=>⟨r_ h3 hx,r_ h4 hx⟩,λx hx=>r_ h5 hx⟩
 ·intro x hx;rw[hx]at h1;simp only[UJ]at h1;refine⟨λhb=>?_,λhb=>?_⟩
  ·rw[aK.2 hb]at h1;cases h1.1
  ·rw[hb]at h1;simp at h1
 ·intro x hx ha;rw[hx]at h2;simp only at h2;rw[aK.2 ha]at h2;cases h2
theorem vv{Kq:Array Oper}(hops:Kq.toList=ops){Q:Exit→Act→World→Prop}{tr:List (TR F)}{s s':St F}(htr:tr.map (·.o)=ops)(hc:Chain s tr s')(hok:∀t∈tr,TR.ok P n ops t)
  (hrec:vh ops [] tr) (aay:pW 0 ops=true) (PI:rP (tr.map (·.rc ops)) (tr.map (·.rc ops))=true) {g:G} {a:Act} {w:World} (hgood:Good P own W0 n s g a w)
  (hQ:∀g' a' w',Good P own W0 n s' g' a' w'→Q .normal a' w'):wpAny P .any Kq Q Kq.size (Array.replicate Kq.size false) a w:=by
 have hsize:Kq.size=tr.length:=by rw[← SF,hops,← htr,Ox]
 have hat:∀(i:Nat)(t:TR F),tr[i]? = some t→Kq[i]? = some t.o:=by
  intro i t hi
  have:ops[i]? = some t.o:=by rw[← htr,MN,hi];rfl
  rw[← hops]at this;simpa using this
 have YX:∀(i:Nat)(t:TR F),tr[i]? = some t→t.Uk=M9 ((tr.map (·.rc ops)).take i) (KA t.o.after.toList):=by intro i t hi;simpa using wH hrec i t hi
 have Tj:∀(i:Nat)(t:TR F),tr[i]? = some t→∀k∈KA t.o.after.toList,k<i:=by
  intro i t hi k hk
  have:ops[i]? = some t.o:=by rw[← htr,MN,hi];rfl
  have:=rn aay i t.o this k hk;omega
 have Y5:∀(i j:Nat)(t u:TR F),tr[i]? = some t→tr[j]? = some u→j<i→Nat.testBit t.Uk j=true∨(u.rc ops).conflict (t.rc ops)=false:=by
  intro i j t u hi hj hji
  have h1:=tO (tr.map (·.rc ops)) (l:=tr.map (·.rc ops)) (k:=0) rfl (U1 _) PI i (t.rc ops) (by rw[MN,hi];rfl)
  have:=rN h1 j (u.rc ops) (by rw[LY,MO,if_pos hji,MN,hj];rfl)
  rwa [LY]at this
 have main:∀(fuel:Nat)(listed:Array Bool),listed.size=tr.length→(List.range tr.length).countP (λk=>!K3 listed k)≤fuel→
   (∀(i:Nat)(t:TR F),tr[i]? = some t→K3 listed i=true→∀k∈KA t.o.after.toList,K3 listed k=true)→
   ∀{g:G}{a:Act}{w:World},Good P own W0 n (Kw (K3 listed) 0 tr s) g a w→wpAny P .any Kq Q fuel listed a w:=by
  intro fuel
  induction fuel with
  | zero=>
   intro listed hls hcnt hcl g a w hg
   have hall:∀k,k<tr.length→K3 listed k=true:=by
    intro k hk
    cases hon:K3 listed k with
    | true=>rfl
    | false=>
     have:0<(List.range tr.length).countP (λk=>!K3 listed k):=List.countP_pos_iff.2 ⟨k,by simpa using hk,by simp[hon]⟩
     omega
   refine⟨?_,?_⟩
   ·cases hr:Region.ready .any Kq listed with
    | nil=>rfl
    | cons i l=>
     have hi:i∈Region.ready .any Kq listed:=by rw[hr];simp
     obtain⟨h1,o,ho,_⟩:=mem_ready.1 hi
     have hlt:i<tr.length:=by rw[← hsize];exact(PY.1 ho).1
     have h2:=hall i hlt;simp only[K3,PZ]at h1 h2
     rw[QcX (by rw[hls];exact hlt)]at h1 h2
     simp only[SQ]at h1 h2;rw[h1]at h2;cases h2
   ·rw[pF tr 0 s s' (K3 listed) hc (λj hj=>by rw[LY];exact hall j hj)]at hg
    exact hQ g a w hg
  | succ fuel ih=>
   intro listed hls hcnt hcl g a w hg;refine⟨?_,?_⟩
   ·intro hr
    have hall:∀k,k<tr.length→K3 listed k=true:=by
     intro k
     induction k using Nat.strongRecOn with
     | _ k ihk=>
      intro hk
      cases hon:K3 listed k with
      | true=>rfl
      | false=>
       exfalso;have hk':=IR hk
       have:k∈Region.ready .any Kq listed:=by
        refine mem_ready.2 ⟨?_,tr[k].o,hat k _ hk',?_⟩
        ·simp only[K3,PZ]at hon ⊢
         rw[QcX (by rw[hls];exact hk)]at hon ⊢
         exact hon
        ·intro e he hb
         have hmem:e.on∈KA tr[k].o.after.toList:=zO (by simpa using he) hb
         have hlt:=Tj k _ hk' e.on hmem
         exact ihk e.on hlt (by omega)
       rw[hr]at this;simp at this
    rw[pF tr 0 s s' (K3 listed) hc (λj hj=>by rw[LY];exact hall j hj)]at hg
    exact hQ g a w hg
   ·intro i hi;obtain⟨h1,o,ho,ajg⟩:=mem_ready.1 hi
    have hlt:i<tr.length:=by rw[← hsize];exact(PY.1 ho).1
    have hti:=IR hlt;generalize htdef:tr[i]=t at hti;have Wv:Kq[i]? = some t.o:=hat i t hti;rw[ho]at Wv;cases Wv
    have hoff:K3 listed i=false:=by
     simp only[K3,PZ]at h1 ⊢
     rw[QcX (by rw[hls];exact hlt)]at h1 ⊢
     exact h1
    have acj:∀k∈KA t.o.after.toList,K3 listed k=true:=by
     intro k hk;obtain⟨e,he,hb,rfl⟩:=z8 hk
     exact ajg e (by simpa using he) hb
    have aod:=CK (ops:=ops) (K3 listed) tr YX Tj hcl i t hti acj;have aaB:∀(j:Nat)(u:TR F),tr[j]? = some u→K3 listed j=true→∀k,Nat.testBit u.Uk k=true→K3 listed k=true:=λj u hj hon=>CK (ops:=ops) (K3 listed) tr YX Tj hcl j u hj (hcl j u hj hon)
    have ahead:∀(j:Nat)(u:TR F),tr[j]? = some u→j<i→(u.rc ops).conflict (t.rc ops)=true→K3 listed j=true:=by
     intro j u hj hji hcf;rcases Y5 i j t u hti hj hji with h | h
     ·exact aod j h
     ·rw[hcf]at h;cases h
    have behind:∀(j:Nat)(u:TR F),tr[j]? = some u→i<j→(t.rc ops).conflict (u.rc ops)=true→K3 listed j=false:=by
     intro j u hj hij hcf
     cases hon:K3 listed j with
     | false=>rfl
     | true=>
      rcases Y5 j i u t hj hti hij with h | h
      ·have:=aaB j u hj hon i h;rw[hoff]at this;cases this
      ·rw[hcf]at h;cases h
    have okt:=hok t (Rk hti);have hst:=uv tr 0 s s' i t hc hti;simp only[LY]at hst
    have agree:∀(j:Nat)(u:TR F),tr[j]? = some u→((u.rc ops).conflict (t.rc ops)=true∨(t.rc ops).conflict (u.rc ops)=true)→j≠i→K3 listed j=decide (j<i):=by
     intro j u hj hcf hne
     have symm:∀a b:Rec,a.conflict b=true→b.conflict a=true:=by
      intro a b h
      cases hba:b.conflict a with
      | true=>rfl
      | false=>
       obtain⟨k1,k2,k3,k4⟩:=jf hba;exfalso
       have:a.conflict b=false:=by
        simp only[Rec.conflict,UJ]
        have mt:∀l r:List Nat,(∀x∈l,x∉r)→meets l r=false:=by
         intro l
         induction l with
         | nil=>intro r _;rfl
         | cons y l ihl=>
          intro r hr;simp only[meets,UJ]
          refine⟨?_,ihl r (λx hx=>hr x (by simp[hx]))⟩
          cases hm:Jp y r with
          | false=>rfl
          | true=>exact absurd (aK.1 hm) (hr y (by simp))
        have nm:∀x (l:List Nat),x∉l→Jp x l=false:=by
         intro x l hx
         cases hm:Jp x l with
         | false=>rfl
         | true=>exact absurd (aK.1 hm) hx
        refine⟨⟨⟨⟨?_,?_⟩,mt _ _ (λx hx=>?_)⟩,mt _ _ (λx hx=>?_)⟩,mt _ _ (λx hx=>?_)⟩
        ·cases hd:a.d with
         | none=>rfl
         | some x=>
          simp only[UJ];refine⟨nm x _ (k2 x hd),?_⟩
          cases hd2:b.d with
          | none=>rfl
          | some y=>
           have:=(k1 y hd2).2;rw[hd]at this
           exact aj (λe=>this (by rw[e]))
        ·cases hd:b.d with
         | none=>rfl
         | some x=>exact nm x _ (k1 x hd).1
        ·exact k4 x hx
        ·intro hb;exact(k3 x hb).2 hx
        ·exact(k3 x hx).1
       rw[this]at h;cases h
     rcases Nat.lt_trichotomy j i with hji | hji | hji
     ·rw[decide_eq_true hji];exact ahead j u hj hji (hcf.elim id (symm _ _))
     ·exact absurd hji hne
     ·rw[decide_eq_false (by omega)]
      exact behind j u hj hji (hcf.elim (symm _ _) id)
    refine vS okt (s:=Kw (K3 listed) 0 tr s) ?_ ?_ ?_ hg hops (hat i t hti) ?_
    ·
     intro x hx;show _=t.s.e x;rw[hst];refine sU _ _ x tr 0 _ _ rfl ?_;intro j u hj hdst;rw[LY];by_cases hne:j=i
     ·subst hne
      rw[hoff,decide_eq_false (by omega)]
     ·refine agree j u hj (.inl ?_) hne
      cases hcf:(u.rc ops).conflict (t.rc ops)with
      | true=>rfl
      | false=>exact absurd hx ((jf hcf).1 x hdst).1
    ·intro id hid;show _=t.s.m id;rw[hst];refine sP _ _ id tr 0 _ _ rfl ?_;intro j u hj hmem;rw[LY];by_cases hne:j=i
     ·subst hne
      rw[hoff,decide_eq_false (by omega)]
     ·refine agree j u hj (.inl ?_) hne
      cases hcf:(u.rc ops).conflict (t.rc ops)with
      | true=>rfl
      | false=>exact absurd hid ((jf hcf).2.2.1 id hmem).1
    ·
     intro kk hkk
     have hid:t.nm (t.c+kk)=true:=by simp only[TR.nm,KQ,decide_eq_true_eq];omega
     generalize t.c+kk=id at hid ⊢
     cases hu:(Kw (K3 listed) 0 tr s).u id with
     | false=>rfl
     | true=>
      exfalso;rw[la]at hu;have hfr:=yp okt.fresh hid;have Td:t.s.u id=false:=hfr
      have hnot:¬ (t.s.u id=true):=by rw[Td];simp
      rcases hu with h | ⟨j,u,h1,h2,h3⟩
      ·refine hnot ?_;rw[hst,la];exact .inl h
      ·rw[LY]at h2;rcases Nat.lt_trichotomy j i with hji | hji | hji
       ·refine hnot ?_;rw[hst,la]
        exact .inr ⟨j,u,h1,by simpa using hji,h3⟩
       ·subst hji;rw[hoff]at h2;cases h2
       ·have oku:=hok u (Rk h1);have hfu:u.s.u id=false:=yp oku.fresh h3
        have:u.s.u id=true:=by
         have hsu:=uv tr 0 s s' j u hc h1;simp only[LY]at hsu;rw[hsu,la]
         exact .inr ⟨i,t,hti,by simpa using hji,hid⟩
        rw[hfu]at this;cases this
    ·intro g' a' w' hg'
     have hmore:=Br (K3 listed) i tr 0 s t hti (by rw[LY];exact hoff) (by
      intro j u hj hij hon;rw[LY]at hon
      cases hcf:(t.rc ops).conflict (u.rc ops)with
      | true=>rw[behind j u hj hij hcf]at hon;cases hon
      | false=>obtain⟨k1,_,k3,_⟩:=jf hcf;exact⟨λx hx=>(k1 x hx).2,λx hx=>(k3 x hx).2⟩)
     rw[LY]at hmore;rw[← hmore]at hg'
     have aac:K3 (listed.setIfInBounds i true) = λj=>K3 listed j||j == i:=by
      funext j
      simp only[K3];by_cases hj:i=j
      ·subst hj
       have:(listed.setIfInBounds i true).getD i false=true:=by
        rw[PZ,XF,if_pos rfl,if_pos (by rw[hls];exact hlt)]
        rfl
       rw[this];simp
      ·rw[getD_set_ne false hj]
       have:(j == i)=false:=by simp;exactλe=>hj e.symm
       rw[this,Bool.or_false]
     refine ih (listed.setIfInBounds i true) (by simp[hls]) ?_ ?_ (by rw[aac];exact hg')
     ·rw[aac]
      have hcount:(List.range tr.length).countP (λk=>!(K3 listed k||k == i))+1=(List.range tr.length).countP (λk=>!K3 listed k):=by
       have gen:∀(l:List Nat),l.Nodup→i∈l→l.countP (λk=>!(K3 listed k||k == i))+1=l.countP (λk=>!K3 listed k):=by
        intro l
        induction l with
        | nil=>intro _ h;simp at h
        | cons y l ihl=>
         intro hnd hmem;rw[Pv]at hnd;by_cases hy:y=i
         ·subst hy
          have heq:l.countP (λk=>!(K3 listed k||k == y))=l.countP (λk=>!K3 listed k):=by
           apply List.countP_congr;intro x hx
           have:(x == y)=false:=by simp;rintro rfl;exact hnd.1 hx
           simp[this]
          rw[QfH,QfH,heq,hoff];simp
         ·have hmem':i∈l:=by
           rcases Li.1 hmem with h | h
           ·exact absurd h.symm hy
           ·exact h
          have:=ihl hnd.2 hmem';rw[QfH,QfH,← this]
          have hyi:(y == i)=false:=by simp;exact hy
          rw[hyi,Bool.or_false];omega
       exact gen _ QfI (by simpa using hlt)
      show(List.range tr.length).countP (λk=>!(K3 listed k||k == i))≤fuel;omega
     ·rw[aac];intro j u hj hon k hk;simp only[Pt,beq_iff_eq]at hon ⊢;rcases hon with hon | rfl
      ·exact .inl (hcl j u hj hon k hk)
      ·rw[hti]at hj;cases hj;exact .inl (acj k hk)
 refine main Kq.size (Array.replicate Kq.size false) (by simp[hsize]) ?_ ?_ (g:=g) ?_
 ·rw[hsize]
  exact MJ List.countP_le_length (by simp)
 ·intro i t hi hon;simp only[K3]at hon;simp[PZ,Array.getElem?_replicate]at hon
  split at hon<;>simp at hon
 ·have:Kw (K3 (Array.replicate Kq.size false)) 0 tr s=s:=by
   have gen:∀(l:List (TR F)) (k:Nat) (s:(St F)),Kw (K3 (Array.replicate Kq.size false)) k l s=s:=by
    intro l
    induction l with
    | nil=>intro k s;rfl
    | cons t l ihl=>
     intro k s;simp only[Kw];rw[if_neg]
     ·exact ihl (k+1) s
     ·simp only[K3,PZ,Array.getElem?_replicate]
      split<;>simp
   exact gen tr 0 s
  rw[this];exact hgood
end
set_option linter.unusedVariables false
set_option linter.unusedSimpArgs false
section
variable{F:Fam}{P:Program}{T:TypeId→Option (TI F)}{Γ : Ctx F}{nv n:Nat}{R:Type}{own:Ow}{W0:World}{a:Act}{w:World}{g:G}
theorem ru{s:St F}(hg:Good P own W0 n s g a w):Good P own W0 n s g a w.drew:=by have hle:Le g w g w.drew:=⟨λ_ _ h=>h,λ_ h=>h,λ_ _=>rfl,λ_ h=>h,λ_ _=>rfl⟩;exact⟨hg.Po,hg.OH,λx d h=>(hg.env x d h).le hle,⟨λid B h=>(hg.mem.ok id B h).le hle (λ_ _ _=>rfl),hg.mem.Ou,hg.mem.own,hg.mem.IV,hg.mem.io,hg.mem.len⟩,hg.dom,hg.OW,⟨hg.K7.os,hg.K7.tape,hg.K7.output,hg.K7.size,hg.K7.fresh,hg.K7.block,Nat.le_succ_of_le hg.K7.drawn⟩,hg.NU⟩
theorem Good.sub{s s':St F}(h:Good P own W0 n s g a w)(he:∀x d,s'.e x=some d→s.e x=some d)(hm:∀id B,s'.m id=some B→s.m id=some B)(hu:∀id,s'.u id=false→s.u id=false):Good P own W0 n s' g a w:=
 ⟨h.Po,h.OH,λx d hx=>h.env x d (he x d hx),h.mem.sub hm,λid hi=>h.dom id (hu id hi),h.OW,h.K7,h.NU⟩
theorem jM{kp:List Nat}:∀{E:List (Nat×Dat F)} {seen:List Nat} {K:List (Nat×Dat F)→Option R} {r:R},qa nv kp E seen K=some r→
  ∃E',K E'=some r∧∀y,look E' y=if(Nat.blt y nv||Jp y kp)&&!(Jp y seen)then look E y else none
 | [],seen,K,r,h=>⟨[],h,λy=>by simp[look]⟩
 | (x,d)::E,seen,K,r,h=>by
  simp only[qa]at h;split at h
  ·rename_i hc;obtain⟨E',h1,h2⟩:=jM h;refine⟨_,h1,λy=>?_⟩;rw[ar,ar,h2];by_cases hxy:x=y
   ·subst hxy;rw[bc,if_pos rfl,if_pos rfl,if_pos hc]
   ·rw[aj hxy];simp[Jp,aj hxy]
  ·rename_i hc;obtain⟨E',h1,h2⟩:=jM h;refine⟨E',h1,λy=>?_⟩;rw[h2,ar];by_cases hxy:x=y
   ·subst hxy;rw[if_neg hc,if_neg hc]
   ·rw[aj hxy];simp
theorem Ir(hT:Js P T)(hΓ : Kr P Γ)(KX:P.follows .mixedOrders=true){id:Nat}{Kq:Array Oper}{draw:Bool}{kp:List Nat}{s:TS F}{K:TS F→Option R}{r:R}
  (h:OL T Γ nv n kp Kq.toList draw s K=some r) {Q:Exit→Act→World→Prop} (hg:Good P own W0 n s.st g a w)
  (hQ:∀s' g' a' w',K s'=some r→Fr nv s s'→Good P own W0 n s'.st g' a' w'→Q .normal a' w'):(Code.region id Kq draw).wp P Q a w:=by
 unfold OL at h;obtain⟨z,tr,h1,t1,t2,t3,t4,t5⟩:=nF hT hΓ h;obtain⟨PI,h1⟩:=aL h1;obtain⟨E',h2,h3⟩:=jM h1
 have hQ':∀g' a' w',Good P own W0 n z.st g' a' w'→Q .normal a' w':=by
  intro g' a' w' hg';refine hQ _ g' a' w' h2 ⟨λx hx hn=>?_,t5.m,t5.c,t5.dE,t5.dM⟩ (hg'.sub ?_ (λ_ _ h=>h) (λ_ h=>h))
  ·show look E' x=_
   rw[h3,if_pos (by simp[Jp,MV.mpr hx])]
   exact t5.e x hx hn
  ·intro x d hx;simp only[TS.st]at hx ⊢;rw[h3]at hx;split at hx
   ·exact hx
   ·cases hx
 cases draw with
 | false=>
  have hlen:Kq.size=tr.length:=by rw[← SF,← t1,Ox]
  refine wp_region ?_
  have:=mf (Kq:=Kq) rfl (Q:=Q) tr 0 s.st z.st (by
   intro j
   have:Kq.toList[j]? = (tr.map (·.o))[j]?:=by rw[t1]
   rw[MN]at this;rw[← this];simp) t2 t3 hg hQ'
  rw[← hlen]at this;rw[QdZ];exact this
 | true=>simp only[if_true,KQ,OY]at PI;refine wp_region_any KX ?_;exact vv (Kq:=Kq) rfl t1 t2 t3 t4 PI.1 PI.2 (ru hg) hQ'
inductive Lu(p:Nat→Prop):Ko F→Prop where
 | im (d:ND F):Lu p (.im d)
 | pt (cs:List (ND F)) (off:Nat):Lu p (.pt cs off)
 | ptr {id:Nat} (off:Nat) (h:p id):Lu p (.ptr id off)
 | Ma {id:Nat} (sz i off:Nat) (h:p id):Lu p (.Ma id sz i off)
 | KP {id:Nat} (h:p id):Lu p (.KP id)
 | Nr {id:Nat} (sz off n:Nat) (h:p id):Lu p (.Nr id sz off n)
 | OV {id:Nat} (sz i off:Nat) (h:p id):Lu p (.OV id sz i off)
 | Pn {id:Nat} (sz i off sz' j off':Nat) (h:p id):Lu p (.Pn id sz i off sz' j off')
 | OX {id:Nat} (n:Nat) (h:p id):Lu p (.OX id n)
 | Oa {id:Nat} (h:p id):Lu p (.Oa id)
 | PS (cs:List (ND F)):Lu p (.PS cs)
 | ln (d:ND F):Lu p (.ln d)
 | UE (cs:List (ND F)) (off:Nat):Lu p (.UE cs off)
 | any:Lu p .any
 | one:Lu p .one
inductive NA(p:Nat→Prop):Dat F→Prop where
 | c {x:Ko F} (h:Lu p x):NA p (.c x)
 | agg {cs:List (Ko F)} (h:∀(k:Nat)(c:Ko F),cs[k]? = some c→Lu p c):NA p (.agg cs)
 | MC {ds:List (Dat F)} (h:∀(k:Nat)(d:Dat F),ds[k]? = some d→NA p d):NA p (.MC ds)
 | NG {fn:Fn} {fs cs:List (Dat F)} (h:∀(k:Nat)(d:Dat F),fs[k]? = some d→NA p d) (h':∀(k:Nat)(d:Dat F),cs[k]? = some d→NA p d):NA p (.NG fn fs cs)
 | fv {ks:List Ty} {r:Ty} (φ : Jk F ks→Option (ET F r)):NA p (.fv ks r φ)
 | gh {id:Nat} (h:p id):NA p (.gh id)
theorem Jz.inn{c:Ko F}{x:Value}(h:Jz g w c x):Lu (λid=>g.ids id≠none) c:=by
 cases h with
 | im=>exact .im _
 | pt=>exact .pt _ _
 | ptr h=>exact .ptr _ (by rw[h];simp)
 | Ma h=>exact .Ma _ _ _ (by rw[h];simp)
 | ML p h=>exact .KP (by rw[h];simp)
 | KP h=>exact .KP (by rw[h];simp)
 | OO p h=>exact .Nr _ _ _ (by rw[h];simp)
 | Nr h=>exact .Nr _ _ _ (by rw[h];simp)
 | OV h=>exact .OV _ _ _ (by rw[h];simp)
 | Pn h=>exact .Pn _ _ _ _ _ _ (by rw[h];simp)
 | OX h=>exact .OX _ (by rw[h];simp)
 | Oa h=>exact .Oa (by rw[h];simp)
 | PS=>exact .PS _
 | ln=>exact .ln _
 | UE=>exact .UE _ _
 | any=>exact .any
 | one=>exact .one
theorem Jr.inn{d:Dat F}{x:Value}(h:Jr P g w d x):NA (λid=>g.ids id≠none) d:=by
 induction h with
 | c h=>exact .c h.inn
 | agg hl h=>
  refine .agg λk c hk=>?_;have hlt:=(IS.1 hk).1
  exact(h k c _ hk (IR (by rw[hl];exact hlt))).inn
 | MC hl h ih=>
  refine .MC λk c hk=>?_;have hlt:=(IS.1 hk).1
  exact ih k c _ hk (IR (by rw[hl];exact hlt))
 | NG h1 h2 hf hc i1 i2=>
  refine .NG (λk c hk=>?_) (λk c hk=>?_)
  ·have hlt:=(IS.1 hk).1
   exact i1 k c _ hk (IR (by rw[h1];exact hlt))
  ·have hlt:=(IS.1 hk).1
   exact i2 k c _ hk (IR (by rw[h2];exact hlt))
 | fv=>exact .fv _
 | gh h=>exact .gh (by rw[h];simp)
theorem Jz.ren{p:Nat→Prop}{g':G}(Lm:∀id,p id→g'.ids id=g.ids id)(Kg:∀b,g.IV b→g'.IV b)(hlen:∀b,g.len b→g'.len b){c:Ko F}(hc:Lu p c){x:Value}(h:Jz g w c x):Jz g' w c x:=by
 have hle:∀{d:ND F}{x:Value},Jm w g.IV d x→Jm w g'.IV d x:=λh=>h.mono Kg (λ_ _=>rfl)
 cases h with
 | im h=>exact .im (hle h)
 | pt cs off b o f hb hcc hr=>exact .pt cs off b o f (Kg b hb) hcc (λk d hk=>hle (hr k d hk))
 | ptr h=>cases hc with | ptr _ hp=>exact .ptr (by rw[Lm _ hp];exact h)
 | Ma h=>cases hc with | Ma _ _ _ hp=>exact .Ma (by rw[Lm _ hp];exact h)
 | ML p h=>cases hc with | KP hp=>exact .ML p (by rw[Lm _ hp];exact h)
 | KP h h1 h2=>cases hc with | KP hp=>exact .KP (by rw[Lm _ hp];exact h) h1 h2
 | OO p h=>cases hc with | Nr _ _ _ hp=>exact .OO p (by rw[Lm _ hp];exact h)
 | Nr h h1 h2 h3 h4=>cases hc with | Nr _ _ _ hp=>exact .Nr (by rw[Lm _ hp];exact h) h1 h2 h3 h4
 | OV h h1 h2=>cases hc with | OV _ _ _ hp=>exact .OV (by rw[Lm _ hp];exact h) h1 h2
 | Pn h h1=>cases hc with | Pn _ _ _ _ _ _ hp=>exact .Pn (by rw[Lm _ hp];exact h) h1
 | OX h hm=>cases hc with | OX _ hp=>exact .OX (by rw[Lm _ hp];exact h) hm
 | Oa h=>cases hc with | Oa hp=>exact .Oa (by rw[Lm _ hp];exact h)
 | PS cs b o b2 o2 f hb hv hb2 hcc hr=>exact .PS cs b o b2 o2 f (Kg b hb) hv (Kg b2 hb2) hcc (λk d hk=>hle (hr k d hk))
 | ln h=>exact .ln (h.mono (λb hb=>hb.imp (Kg b) (hlen b)) (λ_ _=>rfl))
 | UE cs off b o f hb hcc hr=>exact .UE cs off b o f (hb.imp (Kg b) (hlen b)) hcc (λk d hk=>(hr k d hk).mono (λb hb=>hb.imp (Kg b) (hlen b)) (λ_ _=>rfl))
 | any=>exact .any
 | one h=>exact .one h
theorem Jr.ren{p:Nat→Prop}{g':G}(Lm:∀id,p id→g'.ids id=g.ids id)(Kg:∀b,g.IV b→g'.IV b)(hlen:∀b,g.len b→g'.len b){d:Dat F}{x:Value}(h:Jr P g w d x):NA p d→Jr P g' w d x:=by
 induction h with
 | c h=>intro hd;cases hd with | c hc=>exact .c (h.ren Lm Kg hlen hc)
 | agg hl h=>intro hd;cases hd with | agg hc=>exact .agg hl (λk c x a b=>(h k c x a b).ren Lm Kg hlen (hc k c a))
 | MC hl h ih=>intro hd;cases hd with | MC hc=>exact .MC hl (λk c x a b=>ih k c x a b (hc k c a))
 | NG h1 h2 hf hc i1 i2=>intro hd;cases hd with | NG k1 k2=>exact .NG h1 h2 (λk c x a b=>i1 k c x a b (k1 k c a)) (λk c x a b=>i2 k c x a b (k2 k c a))
 | fv h=>intro _;obtain⟨fid,bound,captured,h1,h0,h2,h3⟩:=h;exact .fv ⟨fid,bound,captured,h1,h0,h2,λw2 ZW k1 k2=>h3 w2 ZW (λb hb=>k1 b (Kg b hb)) k2⟩
 | gh h=>intro hd;cases hd with | gh hp=>exact .gh (by rw[Lm _ hp];exact h)
theorem KL.ren{p:Nat→Prop}{g':G}(Lm:∀id,p id→g'.ids id=g.ids id)(Kg:∀b,g.IV b→g'.IV b)(hlen:∀b,g.len b→g'.len b){id:Nat}(hp:p id){B:Jw F}(hB:∀(cs:List (Ko F)),B = .box cs→∀(k:Nat)(c:Ko F),cs[k]? = some c→Lu p c)(hA:∀k n,B = .ME k n→p k)(h:KL g w id B):KL g' w id B:=by
 have hle:∀{d:ND F}{x:Value},Jm w g.IV d x→Jm w g'.IV d x:=λh=>h.mono Kg (λ_ _=>rfl);have hi:=Lm id hp
 cases B with
 | box cs=>
  obtain⟨b,c,arr,t,h1,h2,h3,h4⟩:=h
  exact⟨b,c,arr,t,by rw[hi];exact h1,h2,h3,λk c x a b=>(h4 k c x a b).ren Lm Kg hlen (hB cs rfl k c a)⟩
 | row t l=>
  rcases h with⟨h1,h2⟩ | ⟨b,cap,cur,e,h1,h2,h3,h4,h5,h6⟩
  ·exact .inl ⟨by rw[hi];exact h1,h2⟩
  ·exact .inr ⟨b,cap,cur,e,by rw[hi];exact h1,h2,h3,h4,h5,λk d x a b=>hle (h6 k d x a b)⟩
 | KM t l=>
  obtain⟨pl,h1,h2⟩:=h
  exact⟨pl,by rw[hi];exact h1,h2.Ml Kg (λ_ _=>rfl) (λ_ _ _ _ _=>rfl)⟩
 | Oz t l=>
  rcases h with⟨h1,h2⟩ | ⟨b,cap,ns,h1,hn,h2,h3,h4,h5⟩
  ·exact .inl ⟨by rw[hi];exact h1,h2⟩
  ·exact .inr ⟨b,cap,ns,by rw[hi];exact h1,λb' hb'=>Kg b' (hn b' hb'),Kg b h2,h3,h4,λk d hk=>by obtain⟨x,k1,k2⟩:=h5 k d hk;exact⟨x,k1,hle k2⟩⟩
 | Ww cs=>
  obtain⟨b,c,h1,h2,h5⟩:=h
  exact⟨b,c,by rw[hi];exact h1,Kg b h2,λk d hk=>by obtain⟨x,k1,k2⟩:=h5 k d hk;exact⟨x,k1,hle k2⟩⟩
 | mp t l=>
  obtain⟨b,h1,h2⟩:=h
  exact⟨b,by rw[hi];exact h1,h2.Ml Kg (λ_ _=>rfl) rfl⟩
 | it ob=>
  obtain⟨b,h1,h2⟩:=h
  exact⟨b,by rw[hi];exact h1,h2⟩
 | ME k n=>exact Lb.mono (λr hr=>by rw[hi];exact hr) (λr hr=>by rw[Lm k (hA k n rfl)];exact hr) h
 | NY t l i ks=>
  obtain⟨pl,h1,h2⟩:=h
  exact⟨pl,by rw[hi];exact h1,h2.Ml (λ_ _ _ _ _=>rfl) λk d x p hp hc=>hc.Ml Kg (λ_ _=>rfl) hp⟩
 | K5 t l j=>
  obtain⟨pl,h1,h2⟩:=h
  exact⟨pl,by rw[hi];exact h1,h2.Ml (λ_ _ _ _ _=>rfl) λk d x p hp hc=>hc.Ml Kg (λ_ _=>rfl) hp⟩
theorem KL.ab2{id:Nat}{B:Jw F}(h:KL g w id B):∀k n,B = .ME k n→g.ids k≠none:=by
 rintro k n rfl
 rcases h with⟨_,_,_,_,_,h,_⟩ | ⟨_,h,_⟩<;>(rw[h];simp)
theorem KL.inn{id:Nat}{B:Jw F}(h:KL g w id B):∀(cs:List (Ko F)),B = .box cs→∀(k:Nat)(c:Ko F),cs[k]? = some c→Lu (λid=>g.ids id≠none) c:=by
 rintro cs rfl k c hk;obtain⟨b,_,arr,t,h1,h2,h3,h4⟩:=h;have hlt:=(IS.1 hk).1
 exact(h4 k c _ hk (IR (by rw[h3];exact hlt))).inn
def Ux(o:Option Nat)(bx:Pl)(v v':Value):Prop:=
 match o with
 | some n=>if Nat.beq n 4997=true then∃b c,bx=some (b,c)else n≤maxLen∧∃b c,bx=some (b,c)∧v = .slice (some ⟨b,0,none⟩) n n
 | none=>v=v'
def AsB(k:Kd)(bx:Pl)(v v':Value):Prop:=
 match k with
 | .box _ ow=>Ux (Py ow) bx v v'
 | _=>v=v'
def mo(P:Program)(w:World)(IV:Nat→Prop)(e:Option Nat)(k:Kd)(x:k.El F)(v:Value)(Ja:List Pl)(sb:List (Nat×Pl)):Prop:=
 match e with
 | some id=>∃bx v',sb = [(id,bx)]∧Held P w IV k x v' (bx::Ja) [bx]∧k.KO=true∧AsB k bx v v'
 | none=>sb = []∧∃Jo,Held P w IV k x v Ja Jo
def Wq(P:Program)(w:World)(IV:Nat→Prop)(val:Nat→Value)(s0:TS F):(ks:Ks)→TLS F ks→List Pl→List (Nat×Pl)→Prop
 | [],_,Ja,sb=>Ja = []∧sb = []
 | [k],x,Ja,sb=>mo P w IV (dI k.2 (look s0.E k.1)) k.2 x (val k.1) Ja sb
 | k::l::r,a,Ja,sb=>∃p1 p2 b1 b2,Ja=p1++p2∧sb=b1++b2∧mo P w IV (dI k.2 (look s0.E k.1)) k.2 a.1 (val k.1) p1 b1∧Wq P w IV val s0 (l::r) a.2 p2 b2
def acz(g:G)(s0:TS F)(sb:List (Nat×Pl)):Prop:=∀q∈sb,g.ids q.1=some q.2∧∃x k,dI k (look s0.E x)=some q.1
theorem ef{k:Kd}{d:Option (Dat F)}{id:Nat}(h:dI k d=some id):(∃t ow,k = .box t ow∧d=some (UY ow id))∨∃t arr,k = .row t arr∧d=some (Mt t arr id):=by
 unfold dI at h;split at h
 ·split at h
  ·rename_i hs;cases h;exact .inl ⟨_,_,rfl,by simp[UY,hs]⟩
  ·cases h
 ·split at h
  ·rename_i hs;obtain⟨h1,h⟩:=aL h;cases h;simp only[KQ,Rj]at h1;have:=M5 h1.1;subst this
   exact .inl ⟨_,_,rfl,by simp[UY,hs,h1.2]⟩
  ·cases h
 ·split at h
  ·rename_i hs;obtain⟨h1,h⟩:=aL h;cases h
   exact .inl ⟨_,_,rfl,by simp[UY,hs,h1]⟩
  ·cases h
 ·exact .inr ⟨_,_,rfl,congrArg some (rG h)⟩
 ·cases h
theorem AH{ow:List Nat}{id:Nat}{v:Value}(h:Jr (F:=F) P g w (UY ow id) v):∃v',Jr P g w (R5 (UY (F:=F) ow id)) v'∧(∃b c,g.ids id=some (some (b,c)))∧∀(bx:Pl),g.ids id=some bx→Ux (Py ow) bx v v':=by
 unfold UY at h ⊢;generalize Py ow=o at h ⊢
 cases o with
 | none=>obtain⟨b,c,h1,h2⟩:=bo h;exact⟨v,h,⟨b,c,h1⟩,λ_ _=>rfl⟩
 | some n=>
  dsimp only at h ⊢
  cases hn:Nat.beq n 4997 with
  | false=>
   rw[hn]at h;obtain⟨b,c,h1,hm,h2⟩:=wd h;refine⟨_,.c (.ptr h1),⟨b,c,h1⟩,λbx hb=>?_⟩;unfold Ux;dsimp only
   rw[if_neg (by rw[hn];simp)]
   refine⟨hm,b,c,?_,h2⟩;rw[h1]at hb;exact(Option.some.inj hb).symm
  | true=>
   rw[hn]at h;have h:Jr (F:=F) P g w (.gh id) v:=h
   cases h with
   | gh h1=>refine⟨_,.c (.ptr h1),⟨_,_,h1⟩,λbx hb=>?_⟩;unfold Ux;dsimp only;rw[if_pos hn];rw[h1]at hb;exact⟨_,_,(Option.some.inj hb).symm⟩
theorem E1{ow:List Nat}{id:Nat}{v v':Value}{bx:Nat×Nat×Nat}(hv':v' = .pointer (some ⟨bx.1,0,none⟩))(h:Ux (Py ow) (some (RI bx)) v v')(hid:g.ids id=some (some (RI bx))):Jr (F:=F) P g w (UY ow id) v:=by
 unfold UY;generalize Py ow=o at h ⊢
 cases o with
 | none=>have h:v=v':=h;subst h;subst hv';exact .c (.ptr hid)
 | some n=>
  dsimp only;unfold Ux at h;dsimp only at h
  cases hn:Nat.beq n 4997 with
  | false=>
   rw[if_neg (by rw[hn];simp)]at h
   obtain⟨hm,b,c,e,rfl⟩:=h;cases e;exact .c (.OX hid hm)
  | true=>exact .gh hid
theorem tG{s0 s:TS F}(hΓ : Kr P Γ)(hm:Je own g w (look s.M)){val:Nat→Value}(hv:∀x d,look s.E x=some d→Jr P g w d (val x)){x:Nat}{k:Kd}{p:Pk (k.El F)}(h:vA Γ s0 s x k=some p){IV:Nat→Prop}(hi:O6 g p.fz IV) :
  ∃Ja sb,mo P w IV (dI k (look s0.E x)) k p.x (val x) Ja sb∧acz g s0 sb∧(∀q∈sb,some q.1∈p.os)∧(Ht (p.os.map (J7 g))).Perm (Ht (sb.map (·.2))++Ht Ja)∧NH (look s.M) p.fz∧(∀id,some id∈p.os→∃B,look s.M id=some B∧B.owned=true):=by
 unfold vA at h;split at h
 ·rename_i id hs;split at h
  ·cases h
  ·rename_i d hd;split at h
   ·rename_i id' hs';obtain⟨hb,h'⟩:=aL h;have:=M5 hb;subst this;rcases ef hs with⟨t,ow,rfl,hs0⟩ | ⟨t,arr,rfl,hs0⟩
    ·rcases ef hs' with⟨t',ow',e1,e2⟩ | ⟨t',arr',e1,e2⟩
     ·cases e1;cases e2
      obtain⟨v',p1,p2,p3⟩:=AH (hv x _ hd);obtain⟨q,bx,os,h1,h2,h3,h4,h5,h6,h7,h8⟩:=kG (t:=t) (ow:=ow) hm (λ_ _ h=>h) h' hi p1
      have hq:q=id:=by
       unfold UY at h3
       cases hsl:Py ow with
       | none=>rw[hsl]at h3;simp only[R5,Dat.c.injEq,Ko.ptr.injEq,and_true]at h3;exact h3.symm
       | some n=>
        rw[hsl]at h3;dsimp only at h3
        cases hn:Nat.beq n 4997<;>rw[hn]at h3<;>simp only[cond_true,cond_false,R5,Dat.c.injEq,Ko.ptr.injEq,and_true]at h3<;>exact h3.symm
      subst hq
      refine⟨os.map (J7 g),[(q,some (RI bx))],by unfold mo;rw[hs];exact⟨some (RI bx),v',rfl,⟨bx,_,rfl,rfl,h5,h6⟩,rfl,p3 _ h4⟩,?_,?_,?_,NH.MB h7,h8⟩
      ·intro q hq;rw[IU]at hq;subst hq;exact⟨h4,x,_,hs⟩
      ·intro q hq;rw[IU]at hq;subst hq;rw[h1];simp
      ·rw[h1];simp[J7,h4,Ht]
     ·cases e1
    ·have etp:R5 d=d:=by
      rcases ef hs' with⟨t',ow',e1,e2⟩ | ⟨t',arr',e1,e2⟩
      ·cases e1
      ·cases e2;unfold Mt;cases t'.KS<;>cases arr'<;>rfl
     rw[etp]at h';obtain⟨q,pl,h1,h2,h3,h4,h5,h6,h7,l,h8⟩:=rM (t:=t) (arr:=arr) hm (λ_ _ h=>h) h' hi.IV (hv x _ hd);rcases ef hs' with⟨t',ow',e1,e2⟩ | ⟨t',arr',e1,e2⟩
     ·cases e1
     ·cases e1
      have hq:q=id:=by
       have e3:Mt (F:=F) t arr q=Mt t arr id:=by rw[← h4];exact Option.some.inj e2
       unfold Mt at e3
       cases hmp:t.KS<;>rw[hmp]at e3<;>cases arr<;>simpa using e3
      subst hq
      refine⟨[],[(q,pl)],by unfold mo;rw[hs];exact⟨pl,_,rfl,⟨pl,rfl,rfl,h6,h7⟩,rfl,rfl⟩,?_,?_,?_,λid hid=>by rw[h3]at hid;simp at hid,?_⟩
      ·intro q' hq;rw[IU]at hq;subst hq;exact⟨h5,x,_,hs⟩
      ·intro q' hq;rw[IU]at hq;subst hq;rw[h1];simp
      ·rw[h1];simp only[KZ,Lx,J7,h5,SQ,Ht,XC];exact .refl _
      ·intro id' K8;rw[h1]at K8;simp only[IU,KV]at K8;subst K8;exact⟨_,h8,fw⟩
   ·cases h
 ·rename_i hs;split at h
  ·cases h
  ·rename_i d hd;obtain⟨Jo,h1,h2,h3,h4,h5⟩:=qv hΓ hm (λ_ _ h=>h) h hi (hv x d hd)
   refine⟨p.os.map (J7 g),[],by unfold mo;rw[hs];exact⟨rfl,Jo,h1⟩,λq hq=>by simp at hq,λq hq=>by simp at hq,by simp[Ht],h3,h4⟩
theorem DL{α : Type}{a b c d:List α}{x y:List α}(h1:x.Perm (a++b))(h2:y.Perm (c++d)):(x++y).Perm ((a++c)++(b++d)):=by refine(h1.append h2).trans ?_;rw[MF,MF];refine QdX a ?_;rw[← MF,← MF];exact QfF d QcN
theorem vj{s0 s:TS F}(hΓ : Kr P Γ)(hm:Je own g w (look s.M)){val:Nat→Value}(hv:∀x d,look s.E x=some d→Jr P g w d (val x)):∀{ks:Ks}{p:Pk (TLS F ks)},Pd Γ s0 s ks=some p→∀{IV:Nat→Prop},O6 g p.fz IV→
  ∃Ja sb,Wq P w IV val s0 ks p.x Ja sb∧acz g s0 sb∧(∀q∈sb,some q.1∈p.os)∧(Ht (p.os.map (J7 g))).Perm (Ht (sb.map (·.2))++Ht Ja)∧NH (look s.M) p.fz∧(∀id,some id∈p.os→∃B,look s.M id=some B∧B.owned=true)
 | [],p,h,IV,hi=>by
  simp only[Pd,KV]at h;subst h
  exact⟨[],[],⟨rfl,rfl⟩,λq hq=>by simp at hq,by simp,by simp[Ht],λid hid=>by simp at hid,by simp⟩
 | [k],p,h,IV,hi=>tG hΓ hm hv h hi
 | k::l::r,p,h,IV,hi=>by
  simp only[Pd]at h;split at h
  ·cases h
  ·rename_i p1 hp1;split at h
   ·cases h
   ·rename_i p2 hp2;cases h
    obtain⟨l1,b1,h1,h2,h3,h4,h5,h6⟩:=tG hΓ hm hv hp1 (hi.sub (λid hid=>by simp[hid]))
    obtain⟨l2,b2,k1,k2,k3,k4,k5,k6⟩:=vj hΓ hm hv hp2 (hi.sub (λid hid=>by simp[hid]))
    refine⟨l1++l2,b1++b2,⟨l1,l2,b1,b2,rfl,rfl,h1,k1⟩,?_,?_,?_,h5.append k5,?_⟩
    ·intro q hq;rcases Mi.1 hq with hq | hq
     ·exact h2 q hq
     ·exact k2 q hq
    ·intro q hq;rcases Mi.1 hq with hq | hq
     ·exact WA _ (h3 q hq)
     ·exact WC _ (k3 q hq)
    ·show(Ht ((p1.os++p2.os).map (J7 g))).Perm _;rw[SL,av,av,SL,av];exact DL h4 k4
    ·intro id hid;rcases Mi.1 hid with hid | hid
     ·exact h6 id hid
     ·exact k6 id hid
theorem zB{s0:TS F}{x:Nat}{k:Kd}{y:k.El F}{v:Value}{Ja:List Pl}{sb:List (Nat×Pl)}{c:Nat}(h:mo P w g.IV (dI k (look s0.E x)) k y v Ja sb)(hn:Mx g c Ja)(hsb:∀q∈sb,g.ids q.1=some q.2) :
  Jr P g w (NQ s0.E x k y c).1 v∧Og g w c Ja.length (sb.map (·.1)) (NQ s0.E x k y c).2.1∧(NQ s0.E x k y c).2.2=c+Ja.length:=by
 unfold NQ;unfold mo at h
 cases hs:dI k (look s0.E x)with
 | none=>rw[hs]at h;dsimp only at h ⊢;obtain⟨rfl,Jo,h⟩:=h;obtain⟨h1,h2,h3⟩:=cg (c:=c) h hn;exact⟨h1,h2.back,h3⟩
 | some id=>
  rw[hs]at h;dsimp only at h ⊢;rcases ef hs with⟨t,ow,rfl,_⟩ | ⟨t,arr,rfl,_⟩
  ·obtain⟨bx,v',rfl,⟨bx',rest,e1,e2,hv',hB⟩,_,has⟩:=h;cases e1;cases e2
   have hid:=hsb (id,some (RI bx')) (by simp)
   obtain⟨k1,k2⟩:=ur (c:=c) hB hid hn;exact⟨E1 hv' has hid,k1,k2⟩
  ·obtain⟨bx,v',rfl,⟨pl,e1,e2,h1,h2⟩,_,has⟩:=h;cases e1;cases e2;cases has
   have hid:g.ids id=some bx:=hsb (id,bx) (by simp)
   refine⟨yh h1 hid h2,?_,rfl⟩;intro p hp;simp only[Uq,IU]at hp;subst hp
   exact⟨fw,nI h1 hid,.inr (by simp)⟩
theorem Ap{s0:TS F}{val:Nat→Value}:∀{ks:Ks}{x:TLS F ks}{Ja:List Pl}{sb:List (Nat×Pl)} {c:Nat},Wq P w g.IV val s0 ks x Ja sb→Mx g c Ja→(∀q∈sb,g.ids q.1=some q.2)→
  (∀y d,look (KI s0.E ks x c).1 y=some d→Jr P g w d (val y))∧Og g w c Ja.length (sb.map (·.1)) (KI s0.E ks x c).2.1∧(KI s0.E ks x c).2.2=c+Ja.length∧(∀y,y∉keysOf ks→look (KI s0.E ks x c).1 y=none)
 | [],x,Ja,sb,c,h,hn,hsb=>by
  obtain⟨rfl,rfl⟩:=h
  exact⟨λy d h=>by simp[KI,look]at h,λp hp=>by simp[KI]at hp,rfl,λ_ _=>rfl⟩
 | [k],x,Ja,sb,c,h,hn,hsb=>by
  obtain⟨h1,h2,h3⟩:=zB (c:=c) h hn hsb;simp only[KI];refine⟨?_,h2,h3,?_⟩
  ·intro y d hy;rw[ar]at hy;split at hy
   ·rename_i hb;have:=M5 hb;subst this;cases hy;exact h1
   ·simp[look]at hy
  ·intro y hy;rw[ar,aj]
   ·rfl
   ·rintro rfl;simp[keysOf]at hy
 | k::l::r,x,Ja,sb,c,h,hn,hsb=>by
  obtain⟨p1,p2,b1,b2,rfl,rfl,h,h'⟩:=h
  obtain⟨h1,h2,h3⟩:=zB (c:=c) h hn.left (λq hq=>hsb q (by simp[hq]))
  obtain⟨k1,k2,k3,k4⟩:=Ap (c:=c+p1.length) h' hn.right (λq hq=>hsb q (by simp[hq]))
  simp only[KI];rw[h3]
  refine⟨?_,by rw[IT,SL];exact h2.append k2,by rw[k3,IT];omega,?_⟩
  ·intro y d hy;rw[ar]at hy;split at hy
   ·rename_i hb;have:=M5 hb;subst this;cases hy;exact h1
   ·exact k1 y d hy
  ·intro y hy
   rw[ar,aj (λe=>hy (by simp[keysOf,e]))]
   exact k4 y (λh=>hy (by simp only[keysOf,KZ,Li]at h ⊢;exact .inr h))
theorem mn{c0:Nat}{kill l:List Nat}(h:Ol c0 kill l=true){id:Nat}(hi:id∈l):c0≤id∨id∈kill:=by have:=N9.1 h id hi;simp only[Pt]at this;exact this.imp (λh=>PX h) aK.1
def G.cut(g:G)(c0:Nat)(Ja:List Pl)(I:Nat→Prop):G:=⟨λx=>if x<c0 then g.ids x else if x<c0+Ja.length then Ja[x - c0]? else none,I,g.len⟩
theorem vu{c0:Nat}{Ja:List Pl}{I:Nat→Prop}{x:Nat}(h:x<c0):(g.cut c0 Ja I).ids x=g.ids x:=by simp only[G.cut];rw[if_pos h]
theorem HZ{c0:Nat}{Ja:List Pl}{I:Nat→Prop}:Mx (g.cut c0 Ja I) c0 Ja:=by
 intro j pl hj;have hlt:=(IS.1 hj).1;simp only[G.cut]
 rw[if_neg (by omega),if_pos (by omega),WV]
 exact hj
theorem xR{s:TS F}{dr kill:List Nat}{ks:Ks}{x:TLS F ks}(hk:∀y∈keysOf ks,y∈dr)(hks:∀y,y∉keysOf ks→look (KI s.E ks x s.c).1 y=none)(hb:∀q∈(KI s.E ks x s.c).2.1,s.c≤q.1∨q.1∈kill)(hc:s.c≤(KI s.E ks x s.c).2.2):Fr nv s (merge nv dr kill s ks x):=by
 refine⟨?_,?_,hc,λy hy=>WC _ hy,λy hy=>WC _ hy⟩
 ·intro y hy hn;have hnd:y∉dr:=λh=>hn (WA _ h);show look ((KI s.E ks x s.c).1++s.E.filter λp=>Nat.blt p.1 nv&&!(Jp p.1 dr)) y=_;rw[aY,hks y (λh=>hnd (hk y h)),Tv,aI (λy=>Nat.blt y nv&&!(Jp y dr)),if_pos];rw[MV.mpr hy]
  cases hm:Jp y dr with
  | true=>exact absurd (aK.1 hm) hnd
  | false=>rfl
 ·intro id hid hn;have hnd:id∉kill:=λh=>hn (WA _ h);show look ((KI s.E ks x s.c).2.1++s.M.filter λp=>!(Jp p.1 kill)) id=_
  have hnone:∀{l:List (Nat×Jw F)},(∀q∈l,s.c≤q.1∨q.1∈kill)→look l id=none:=by
   intro l
   induction l with
   | nil=>intro _;rfl
   | cons q l ih=>
    intro h;obtain⟨y,C⟩:=q
    have hne:y≠id:=by
     rintro rfl
     rcases h (y,C) (by simp)with h | h
     ·simp only at h;omega
     ·exact hnd h
    rw[ar,aj hne]
    exact ih (λq hq=>h q (by simp[hq]))
  rw[aY,hnone hb,Tv,aI (λy=>!(Jp y kill)),if_pos]
  cases hm:Jp id kill with
  | true=>exact absurd (aK.1 hm) hnd
  | false=>rfl
theorem uR(hΓ : Kr P Γ){s z:TS F}{gs:G}{as:Act}{ws W1:World}(hs:Good P own W1 n s.st gs as ws)(hz:Good P own W0 n z.st g a w){dr kill:List Nat}
  (he:∀x,x<nv→x∉dr→look z.E x=look s.E x) (hm:∀id,id<s.c→id∉kill→look z.M id=look s.M id) {ks:Ks} {p:Pk (TLS F ks)} (hp:Pd Γ s z ks=some p)
  (hnd:cD (Kh p.os)=true) (hdj:Ny (Kh p.os) p.fz=true) (ho:Ol s.c kill (Kh p.os)=true) (hf:Ol s.c kill p.fz=true) :
  (∃g',Good P own W0 n (merge nv dr kill s ks p.x).st g' a w)∧((∀y∈keysOf ks,y∈dr)→Fr nv s (merge nv dr kill s ks p.x)∧Fr nv (clean s) (merge nv dr kill (clean s) ks p.x))∧
  (∀q∈(KI s.E ks p.x s.c).2.1,s.c≤q.1∨q.1∈kill)∧(∀y,y∉keysOf ks→look (KI s.E ks p.x s.c).1 y=none)∧s.c≤(KI s.E ks p.x s.c).2.2:=by
 have hfz:O6 g p.fz (g.Nj p.fz).IV:=⟨λ_ h=>.inl h,λid hid b hb=>.inr ⟨id,hid,hb⟩⟩;obtain⟨Ja,sb,h1,hsb,Z5,hperm,h2,h3⟩:=vj (s0:=s) (val:=λx=>a.tmps.getD x undef) hΓ hz.mem hz.env hp hfz;have hfr:=freeze hz.mem (λ_ _ h=>h) h2
 have Ng:∀{id:Nat},gs.ids id≠none→id<s.c:=by
  intro id hid;apply Nat.lt_of_not_le;intro hle
  exact hid (hs.dom id (by simp only[TS.st,br,decide_eq_false_iff_not];omega))
 let g':G:=g.cut s.c Ja (g.Nj p.fz).IV
 have Lm:∀id,gs.ids id≠none→g'.ids id=g.ids id:=λid hid=>vu (Ng hid);have Kg:∀b,g.IV b→g'.IV b:=λb hb=>.inl hb
 have anD:∀q∈sb,q.1<s.c:=by
  intro q hq;obtain⟨_,x,k,hx⟩:=hsb q hq;rcases ef hx with⟨t,ow,_,hx⟩ | ⟨t,arr,_,hx⟩
  ·obtain⟨_,_,⟨b,c,hi⟩,_⟩:=AH (hs.env x _ hx)
   exact Ng (by rw[hi];simp)
  ·obtain⟨⟨pl,hi⟩,_⟩:=xh (t:=t) (hs.env x _ hx)
   exact Ng (by rw[hi];simp)
 have ab5:∀q∈sb,g'.ids q.1=some q.2:=λq hq=>(vu (anD q hq)).trans (hsb q hq).1;obtain⟨k1,k2,k3,k4⟩:=Ap (g:=g') (c:=s.c) h1 HZ ab5
 have hpl:∀{b:Nat},b∈Ht (sb.map (·.2))++Ht Ja→∃id B,id∈Kh p.os∧look z.M id=some B∧B.owned=true∧g.blk id b:=by intro b hb;obtain⟨id,q1,q2⟩:=bC.1 (hperm.mem_iff.2 hb);obtain⟨B,q3,q4⟩:=h3 id q1;exact⟨id,B,dh.2 q1,q3,q4,q2⟩
 have ace:(Ht (sb.map (·.2))++Ht Ja).Nodup:=hperm.nodup_iff.1 (eZ hz.mem (eB hnd) h3);have anG:(Ht Ja).Nodup:=(Wz.1 ace).2.1
 have ab7:∀{b:Nat},b∈Ht (sb.map (·.2))++Ht Ja→own.o b∧¬ (g.Nj p.fz).IV b:=by
  intro b hb;obtain⟨id,B,q1,q2,q3,q4⟩:=hpl hb;refine⟨(hz.mem.own id B b q2 q3 q4).1,?_⟩;have hno:id∉p.fz:=jK hdj id q1
  exact(hfr.own id B b (by rw[fV,if_neg hno];exact q2) q3 q4).2
 have hmem:∀{id:Nat}{B:Jw F},look ((KI s.E ks p.x s.c).2.1++s.M.filter λq=>!(Jp q.1 kill)) id=some B→
   (KL g' w id B∧s.c≤id∧∀b,g'.blk id b→∃b0 q,Ja[id - s.c]? = some (some (b0,q))∧b∈b0::Km q.2.2)∨
   (KL g' w id B∧∃bx,(id,bx)∈sb∧∀b,g'.blk id b→∃b0 q,bx=some (b0,q)∧b∈b0::Km q.2.2)∨
   (id<s.c∧id∉kill∧look z.M id=some B∧KL g' w id B∧∀b,g'.blk id b→g.blk id b):=by
  intro id B hB;rw[aY]at hB
  cases hl:look (KI s.E ks p.x s.c).2.1 id with
  | some B'=>
   rw[hl]at hB;cases hB
   have hin:∀{l:List (Nat×Jw F)} {B:Jw F},look l id=some B→(id,B)∈l:=by
    intro l
    induction l with
    | nil=>intro B h;simp[look]at h
    | cons q l ih=>
     intro B h;obtain⟨y,C⟩:=q;rw[ar]at h;split at h
     ·rename_i hb;have:=M5 hb;subst this;cases h;simp
     ·exact Pw _ (ih h)
   obtain⟨q3,q4,⟨j,q1,q2⟩ | q1⟩:=k2 _ (hin hl)
   ·simp only at q1 q4
    refine .inl ⟨q4,by omega,?_⟩
    rintro b ⟨b0,q,hq,hbb⟩;refine⟨b0,q,?_,hbb⟩
    have:¬ id<s.c:=by omega
    simp only[g',G.cut]at hq
    rw[if_neg this,if_pos (by omega)]at hq
    exact hq
   ·simp only at q1 q4;obtain⟨⟨i,bx⟩,r1,r2⟩:=Ot.1 q1;simp only at r2;subst r2;refine .inr (.inl ⟨q4,bx,r1,?_⟩);rintro b ⟨b0,q,hq,hbb⟩;rw[ab5 _ r1]at hq;cases hq;exact⟨_,_,rfl,hbb⟩
  | none=>
   rw[hl,Tv]at hB;rw[aI (λy=>!(Jp y kill))]at hB;split at hB
   ·rename_i hk
    have hk':id∉kill:=λh=>by rw[aK.2 h]at hk;simp at hk
    have hok:=hs.mem.ok id B hB;have hlt:id<s.c:=Ng hok.named
    have hzB:look z.M id=some B:=by rw[hm id hlt hk'];exact hB
    refine .inr (.inr ⟨hlt,hk',hzB,(hz.mem.ok id B hzB).ren Lm Kg (λ_ h=>h) hok.named hok.inn hok.ab2,?_⟩);rintro b ⟨b0,q,hq,hbb⟩
    exact⟨b0,q,by rw[← vu (g:=g) (Ja:=Ja) (I:=(g.Nj p.fz).IV) hlt];exact hq,hbb⟩
   ·cases hB
 have hkept:∀{id:Nat}{B:Jw F}{b:Nat},id<s.c→id∉kill→look z.M id=some B→B.owned=true→g.blk id b→b∉Ht (sb.map (·.2))++Ht Ja∧¬ (g.Nj p.fz).IV b:=by
  intro id B b q1 q2 q3 q4 q5;refine⟨λhb=>?_,?_⟩
  ·obtain⟨id',B',r1,r2,r3,r4⟩:=hpl hb;have:=hz.mem.Ou id id' B B' b q3 r2 q4 r3 q5 r4;subst this;rcases mn ho r1 with h | h
   ·omega
   ·exact q2 h
  ·have hno:id∉p.fz:=λh=>by
    rcases mn hf h with h | h
    ·omega
    ·exact q2 h
   exact(hfr.own id B b (by rw[fV,if_neg hno];exact q3) q4 q5).2
 have Mj:∀{id b b0:Nat}{q:Nat×Nat×NS},(id,some (b0,q))∈sb→b∈b0::Km q.2.2→b∈Ht (sb.map (·.2))++Ht Ja:=λh hb=>WA _ (qJ (Ot.2 ⟨_,h,rfl⟩) hb);have inP:∀{j b b0:Nat}{q:Nat×Nat×NS},Ja[j]? = some (some (b0,q))→b∈b0::Km q.2.2→b∈Ht (sb.map (·.2))++Ht Ja:=λh hb=>WC _ (bO.2 ⟨_,_,_,h,hb⟩)
 have apart:∀{id j b b1:Nat}{bx:Pl}{q:Nat×Nat×NS},(id,bx)∈sb→(∃b0 q,bx=some (b0,q)∧b∈b0::Km q.2.2)→Ja[j]? = some (some (b1,q))→b∈b1::Km q.2.2→False:=by rintro id j b b1 bx q h ⟨b0,q',rfl,hb⟩ h' hb';exact(Wz.1 ace).2.2 b (qJ (Ot.2 ⟨_,h,rfl⟩) hb) b (bO.2 ⟨_,_,_,h',hb'⟩) rfl
 have hb:∀q∈(KI s.E ks p.x s.c).2.1,s.c≤q.1∨q.1∈kill:=λq hq=>by
  obtain⟨_,_,⟨j,q1,_⟩ | q1⟩:=k2 q hq
  ·exact .inl (by omega)
  ·obtain⟨⟨i,bx⟩,r1,r2⟩:=Ot.1 q1;simp only at r2;rw[← r2];rcases mn ho (dh.2 (Z5 _ r1))with h | h
   ·exact .inl h
   ·exact .inr h
 refine⟨⟨g',hz.Po,hz.OH,?_,⟨?_,?_,?_,hfr.IV,hfr.io,hz.mem.len⟩,?_,λb hb=>.inl (hz.OW b hb),hz.K7,λid q h=>(vu (Ng (by rw[hs.NU id q h];simp))).trans (hz.NU id q h)⟩,λhk=>?_,hb,k4,by rw[k3];omega⟩
 ·intro x d hx;simp only[TS.st,merge]at hx;rw[aY]at hx
  cases hl:look (KI s.E ks p.x s.c).1 x with
  | some d'=>rw[hl]at hx;cases hx;exact k1 x d hl
  | none=>
   rw[hl,Tv,aI (λy=>Nat.blt y nv&&!(Jp y dr))]at hx;split at hx
   ·rename_i hc;simp only[KQ,Rj]at hc;have hlt:x<nv:=MV.mp hc.1
    have hnd:x∉dr:=λh=>by rw[aK.2 h]at hc;simp at hc
    have hzx:look z.E x=some d:=by rw[he x hlt hnd];exact hx
    exact(hz.env x d hzx).ren Lm Kg (λ_ h=>h) (hs.env x d hx).inn
   ·cases hx
 ·intro id B hB
  rcases hmem hB with⟨q,_⟩ | ⟨q,_⟩ | ⟨_,_,_,q,_⟩<;>exact q
 ·intro id id' B B' b hB hB' ob MK hb hb';rcases hmem hB with⟨_,q1,q2⟩ | ⟨_,bx,q1,q2⟩ | ⟨q1,q2,q3,_,q4⟩
  ·obtain⟨x0,x,q3,q5⟩:=q2 b hb;rcases hmem hB' with⟨_,r1,r2⟩ | ⟨_,bx',r1,r2⟩ | ⟨r1,r2,r3,_,r4⟩
   ·obtain⟨y0,y,r3,r5⟩:=r2 b hb';have:=iI anG q3 q5 r3 r5;omega
   ·exact(apart r1 (r2 b hb') q3 q5).elim
   ·exact absurd (inP q3 q5) (hkept r1 r2 r3 MK (r4 b hb')).1
  ·have e1:=q2 b hb;rcases hmem hB' with⟨_,r1,r2⟩ | ⟨_,bx',r1,r2⟩ | ⟨r1,r2,r3,_,r4⟩
   ·obtain⟨y0,y,r3,r5⟩:=r2 b hb';exact(apart q1 e1 r3 r5).elim
   ·have e2:=r2 b hb';obtain⟨B1,s1,s2⟩:=h3 id (Z5 _ q1);obtain⟨B2,t1,t2⟩:=h3 id' (Z5 _ r1);obtain⟨x0,x1,rfl,x2⟩:=e1;obtain⟨y0,y1,rfl,y2⟩:=e2;exact hz.mem.Ou id id' B1 B2 b s1 t1 s2 t2 ⟨x0,x1,(hsb _ q1).1,x2⟩ ⟨y0,y1,(hsb _ r1).1,y2⟩
   ·obtain⟨x0,x1,rfl,x2⟩:=e1;have:=Mj q1 x2;exact absurd this (hkept r1 r2 r3 MK (r4 b hb')).1
  ·rcases hmem hB' with⟨_,r1,r2⟩ | ⟨_,bx',r1,r2⟩ | ⟨r1,r2,r3,_,r4⟩
   ·obtain⟨y0,y,r3,r5⟩:=r2 b hb';exact absurd (inP r3 r5) (hkept q1 q2 q3 ob (q4 b hb)).1
   ·obtain⟨x0,x1,rfl,x2⟩:=r2 b hb';have:=Mj r1 x2;exact absurd this (hkept q1 q2 q3 ob (q4 b hb)).1
   ·exact hz.mem.Ou id id' B B' b q3 r3 ob MK (q4 b hb) (r4 b hb')
 ·intro id B b hB ob hb;rcases hmem hB with⟨_,q1,q2⟩ | ⟨_,bx,q1,q2⟩ | ⟨q1,q2,q3,_,q4⟩
  ·obtain⟨x0,x,q3,q5⟩:=q2 b hb;exact ab7 (inP q3 q5)
  ·obtain⟨x0,x1,rfl,x2⟩:=q2 b hb;exact ab7 (Mj q1 x2)
  ·exact⟨(hz.mem.own id B b q3 ob (q4 b hb)).1,(hkept q1 q2 q3 ob (q4 b hb)).2⟩
 ·intro id hid;simp only[TS.st,merge,br,decide_eq_false_iff_not]at hid;rw[k3]at hid;simp only[g',G.cut]
  rw[if_neg (by omega),if_neg (by omega)]
 ·exact⟨xR hk k4 hb (by rw[k3];omega),xR (s:=clean s) hk k4 hb (by show s.c≤(KI s.E ks p.x s.c).2.2;rw[k3];omega)⟩
end
set_option linter.unusedVariables false
set_option linter.unusedSimpArgs false
section
variable{F:Fam}{P:Program}{own:Ow}{W0:World}{n nv:Nat}
theorem rW{s z:TS F}{gs g:G}{a0 a:Act}{w0 w:World}(hs:Good P own W0 n s.st gs a0 w0)(hz:Good P own W0 n z.st g a w){id ix kk:Nat}{dr:List Nat}{B B':Jw F}{len:Nat}{nn:Int}(hid:id<s.c)
  (he:∀y,y<nv→y∉ix::dr→look z.E y=look s.E y) (hi:look z.E ix=some (.c (.im (.i .i64 nn)))) (hm:∀y,y<s.c→y≠id→look z.M y=look s.M y)
  (hB:look z.M kk=some B) (hBo:B.owned=true) (hkk:kk=id∨s.c≤kk) (hsame:Lb len (g.ids id) (g.ids kk)) (hB':∀g2:G,g2.ids s.c=g.ids kk→g2.IV=g.IV→KL g2 w s.c B') (hBo':B'.owned=true) :
  ∃g2,Good P own W0 n (LP nv s id ix dr B' len nn).st g2 a w:=by
 have Ng:∀{y:Nat},gs.ids y≠none→y<s.c:=by
  intro y hy;by_cases h:y<s.c
  ·exact h
  ·exact absurd (hs.dom y (by simp only[TS.st,br];simpa using h)) hy
 obtain⟨g2,hg2⟩:∃g2:G,g2=⟨λy=>if y=s.c then g.ids kk else if y<s.c then g.ids y else none,g.IV,g.len⟩:=⟨_,rfl⟩
 have h2c:g2.ids s.c=g.ids kk:=by rw[hg2];simp
 have h2l:∀y,y<s.c→g2.ids y=g.ids y:=λy hy=>by rw[hg2];simp only;rw[if_neg (by omega),if_pos hy]
 have h2g:∀y,s.c<y→g2.ids y=none:=λy hy=>by rw[hg2];simp only;rw[if_neg (by omega),if_neg (by omega)]
 have h2i:g2.IV=g.IV:=by rw[hg2]
 have Y_:g2.len=g.len:=by rw[hg2]
 have Lm:∀y,gs.ids y≠none→g2.ids y=g.ids y:=λy hy=>h2l y (Ng hy)
 have Kg:∀b,g.IV b→g2.IV b:=λb h=>by rw[h2i];exact h
 have hlen:∀b,g.len b→g2.len b:=λb h=>by rw[Y_];exact h
 have hcase:∀y B0,look (LP nv s id ix dr B' len nn).M y=some B0→(y=id∧B0 = .ME s.c len)∨(y=s.c∧B0=B')∨(y<s.c∧y≠id∧look s.M y=some B0∧look z.M y=some B0):=by
  intro y B0 h;simp only[LP]at h;rw[ar]at h;by_cases h1:id=y
  ·subst h1;rw[if_pos (WM _)]at h;cases h;exact .inl ⟨rfl,rfl⟩
  ·have hb1:Nat.beq id y=false:=aj h1
   rw[if_neg (by rw[hb1];simp),ar]at h
   by_cases h2:s.c=y
   ·subst h2;rw[if_pos (WM _)]at h;cases h;exact .inr (.inl ⟨rfl,rfl⟩)
   ·have hb2:Nat.beq s.c y=false:=aj h2
    rw[if_neg (by rw[hb2];simp),aI (λy=>!(Nat.beq id y))]at h
    rw[if_pos (by rw[hb1];rfl)]at h
    have hlt:y<s.c:=Ng (hs.mem.ok y B0 h).named
    exact .inr (.inr ⟨hlt,λe=>h1 e.symm,h,by rw[hm y hlt (λe=>h1 e.symm)];exact h⟩)
 have hback:∀y B0,look (LP nv s id ix dr B' len nn).M y=some B0→B0.owned=true→∀b,g2.blk y b→∃y' B1,look z.M y'=some B1∧B1.owned=true∧g.blk y' b∧((y=s.c∧y'=kk)∨(y<s.c∧y≠id∧y'=y)):=by
  intro y B0 h ho b hb;rcases hcase y B0 h with⟨_,rfl⟩ | ⟨rfl,rfl⟩ | ⟨h1,h2,h3,h4⟩
  ·cases ho
  ·obtain⟨b0,c,k1,k2⟩:=hb;rw[h2c]at k1;exact⟨kk,B,hB,hBo,⟨b0,c,k1,k2⟩,.inl ⟨rfl,rfl⟩⟩
  ·obtain⟨b0,c,k1,k2⟩:=hb;rw[h2l y h1]at k1;exact⟨y,B0,h4,ho,⟨b0,c,k1,k2⟩,.inr ⟨h1,h2,rfl⟩⟩
 refine⟨g2,hz.Po,hz.OH,?_,⟨?_,?_,?_,λb hb=>hz.mem.IV b (by rw[← h2i];exact hb),λb hb=>hz.mem.io b (by rw[← h2i];exact hb),λb hb=>hz.mem.len b (by rw[← Y_];exact hb)⟩,?_,λb hb=>Kg b (hz.OW b hb),hz.K7,?_⟩
 ·intro x d hx;have hx:look ((ix,.c (.im (.i .i64 nn)))::s.E.filter (λp=>Nat.blt p.1 nv&&!(Jp p.1 (ix::dr)))) x=some d:=hx;rw[ar]at hx;by_cases h1:ix=x
  ·subst h1;rw[if_pos (WM _)]at hx;cases hx;have:=hz.env ix _ hi
   cases this with
   | c h=>cases h with
    | im h=>exact .c (.im (by rw[h2i];exact h))
  ·have hb1:Nat.beq ix x=false:=aj h1
   rw[if_neg (by rw[hb1];simp),aI (λy=>Nat.blt y nv&&!(Jp y (ix::dr)))]at hx
   split at hx
   ·rename_i hc;simp only[KQ,br,decide_eq_true_eq,Rj]at hc
    have hn:x∉ix::dr:=λh=>by rw[aK.2 h]at hc;cases hc.2
    have hzx:look z.E x=some d:=by rw[he x hc.1 hn];exact hx
    exact(hz.env x d hzx).ren Lm Kg hlen (hs.env x d hx).inn
   ·cases hx
 ·intro y B0 h;rcases hcase y B0 h with⟨rfl,rfl⟩ | ⟨rfl,rfl⟩ | ⟨h1,h2,h3,h4⟩
  ·show Lb len (g2.ids y) (g2.ids s.c);rw[h2l y hid,h2c];exact hsame
  ·exact hB' g2 h2c h2i
  ·have hok:=hs.mem.ok y B0 h3;exact(hz.mem.ok y B0 h4).ren Lm Kg hlen hok.named hok.inn hok.ab2
 ·intro y y' B0 B1 b h h' ho ho' hb hb';obtain⟨q,C,k1,k2,k3,k4⟩:=hback y B0 h ho b hb;obtain⟨q',C',l1,l2,l3,l4⟩:=hback y' B1 h' ho' b hb';have:=hz.mem.Ou q q' C C' b k1 l1 k2 l2 k3 l3;omega
 ·intro y B0 b h ho hb;obtain⟨q,C,k1,k2,k3,k4⟩:=hback y B0 h ho b hb;have:=hz.mem.own q C b k1 k2 k3
  exact⟨this.1,by rw[h2i];exact this.2⟩
 ·intro y hy;have hy:Nat.blt y (s.c+1)=false:=hy;rw[br]at hy
  have hy':¬ y<s.c+1:=by simpa using hy
  exact h2g y (by omega)
 ·intro y p hp;have h1:=hs.NU y p hp
  rw[h2l y (Ng (by rw[h1];simp))]
  exact hz.NU y p hp
theorem Lb.len{w:World}{t:Ty}{l:List (ET F t)}{C:Nat→ND F→Value→Option (Nat×Nat×Nat)→Prop}{x:Nat}{p q:Option Pl}(h:Lb x p q)(hq:∃pl,q=some pl∧Nf w t l C pl):Lb l.length p q:=by
 obtain⟨pl,h1,h2⟩:=hq;rcases h with⟨b,c,n,n',k1,k2,k3,k4⟩ | ⟨k1,k2,k3⟩
 ·rw[k2]at h1;cases h1;exact .inl ⟨b,c,n,n',k1,k2,k3,k3.symm.trans h2.1⟩
 ·rw[k2]at h1;cases h1;have:l = []:=h2;subst this;exact .inr ⟨k1,k2,rfl⟩
theorem D4{m:Nat→Option (Jw F)}{g:G}{w:World}(hm:Je own g w m){id c:Nat}{t:Ty}{l:List (ET F t)}(hB:m id=some (.row t l))(hf:g.ids c=none) :
  ∃g',Je own g' w (Kc m [(id,none),(c,some (.K5 t l 0)),(id,some (.ME c l.length))])∧Stp m g w g' w∧∀y,y≠c→g'.ids y=g.ids y:=by
 have hnb:∀k:Nat,Km (List.replicate k (none:Option (Nat×Nat×Nat))) = []:=by
  intro k
  induction k with
  | zero=>rfl
  | succ k ih=>rw[List.replicate_succ];exact ih
 obtain⟨pl,PU,hid,hO,hbl,hSm⟩:∃pl PU,g.ids id=some pl∧Nf w t l (Rv w g.IV (Jf F t) 0) PU∧(∀b0 c',PU=some (b0,c')→∀b∈b0::Km c'.2.2,∃c2,pl=some (b,c2))∧Lb l.length (some pl) (some PU):=by
  rcases hm.ok id _ hB with⟨k1,k2⟩ | ⟨b,cap,cur,e,k1,k2,k3,k4,k5,k6⟩
  ·exact⟨none,none,k1,k2,λ_ _ h=>by simp at h,.inr ⟨rfl,rfl,by rw[k2];rfl⟩⟩
  ·refine⟨_,some (b,cap,l.length,List.replicate (cells F t l).length none),k1,⟨rfl,k3,k4,by simp,by rw[hnb];simp,cur,e,k2,k5,λk d y p h1 h2 h3=>⟨λh=>by omega,λ_=>⟨?_,k6 k d y h1 h2⟩⟩⟩,?_,.inl ⟨b,cap,_,_,rfl,rfl,rfl,rfl⟩⟩
   ·dsimp only at h3;rw[List.getElem?_replicate]at h3;split at h3
    ·cases h3;rfl
    ·cases h3
   ·rintro b0 c' h b' hb';cases h;rw[hnb]at hb';rw[IU]at hb';subst hb';exact⟨_,rfl⟩
 obtain⟨k1,k2⟩:=fT (rm:=[id]) (id:=c) (pl:=PU) (B:=.K5 t l 0) (w':=w) hm hf
  (λb0 c' e b hb=>by
   obtain⟨c2,hc2⟩:=hbl b0 c' e b hb
   exact .inr ⟨id,by simp,_,hB,rfl,b,c2,by rw[hid,hc2],WT⟩) rfl rfl rfl (Ku _) (Ku _) (λ_ _ _=>rfl) (λg' hle hi=>⟨PU,hi,hO.Ml (λ_ _ _ _ _=>rfl) λk d y p hp hc=>hc.Ml hle.IV hle.heap hp⟩)
 refine⟨g.name c PU,?_,k2,λy hy=>bE _ _ _ hy⟩
 have h2:=k1.ME (id:=id) (k:=c) (n:=l.length) (by rw[k2.le.ids _ _ hid,a9];exact hSm)
 have e:([(id,none),(c,some (.K5 t l 0)),(id,some (.ME c l.length))]:List (Nat×Option (Jw F)))=([id].map (λr=>(r,none))++[(c,some (.K5 t l 0))])++[(id,some (.ME c l.length))]:=rfl;rw[e,dC];exact h2
theorem CH{g:G}{w:World}{id:Nat}{t:Ty}{l:List (ET F t)}{j:Nat}(h:KL g w id (.K5 t l j))(hj:l.length≤j):KL g w id (.KM t l):=by
 obtain⟨pl,h1,h2⟩:=h;refine⟨pl,h1,?_⟩
 cases pl with
 | none=>exact h2
 | some q=>obtain⟨b,cap,n⟩:=q;obtain⟨q1,q2,q3,q4,q5,cur,e,q6,q7,q8⟩:=h2;refine⟨q1,q2,q3,q4,q5,cur,e,q6,q7,λk d x p p1 p2 p3=>(q8 k d x p p1 p2 p3).1 ?_⟩;have hk:k<(cells F t l).length:=(IS.1 p1).1;rw[d5]at hk;have:l.length*Jf F t≤j*Jf F t:=MW _ hj;omega
end
set_option linter.unusedVariables false
set_option linter.unusedSimpArgs false
def exC:Nat→Exit
 | 0=>.normal
 | 1=>.ret
 | i+2=>.exit i
section
variable{F:Fam}{P:Program}{T:TypeId→Option (TI F)}{Γ : Ctx F}{nv n:Nat}{own:Ow}{W0:World}
def U5(P:Program)(own:Ow)(W0:World)(n nv:Nat)(s:TS F){R:Type}(K:Nat→TS F→Option R)(r:R):Exit→Act→World→Prop:=
 λe a w=>∃k s' g',exC k=e∧K k s'=some r∧Fr nv s s'∧Good P own W0 n s'.st g' a w
theorem U5.back{s s1:TS F}(h:Fr nv s s1){R:Type}{K:Nat→TS F→Option R}{r:R}{e:Exit}{a:Act}{w:World}(k:U5 P own W0 n nv s1 K r e a w):U5 P own W0 n nv s K r e a w:=by obtain⟨i,s',g',h1,h2,h3,h4⟩:=k;exact⟨i,s',g',h1,h2,h.trans h3,h4⟩
def aX(P:Program)(own:Ow)(W0:World)(n nv:Nat)(c:Code)(run:TS F→{R:Type}→(Nat→TS F→Option R)→Option R):Prop:=
 ∀(s:TS F){R:Type}(K:Nat→TS F→Option R)(r:R),run s K=some r→∀(g:G)(a:Act)(w:World),Good P own W0 n s.st g a w→c.wp P (U5 P own W0 n nv s K r) a w
theorem B9{x y:Code}{f k:TS F→{R:Type}→(Nat→TS F→Option R)→Option R}(hx:aX P own W0 n nv x f)(hy:aX P own W0 n nv y k) :
  aX P own W0 n nv (x.seq y) (λs R K=>f s λe s'=>match e with | 0=>k s' K | e=>K e s'):=by
 intro s R K r h g a w hg;refine wp_seq (wp_mono (hx s _ r h g a w hg) ?_);rintro e a' w' ⟨i,s',g',rfl,h2,h3,h4⟩
 match i,h2 with
 | 0,h2=>exact wp_mono (hy s' K r h2 g' a' w' h4) (λe a w hq=>hq.back h3)
 | 1,h2=>exact⟨1,s',g',rfl,h2,h3,h4⟩
 | i+2,h2=>exact⟨i+2,s',g',rfl,h2,h3,h4⟩
theorem Ae{t:Nat}{x y:Code}{f k:TS F→{R:Type}→(Nat→TS F→Option R)→Option R}(hx:aX P own W0 n nv x f)(hy:aX P own W0 n nv y k) :
  aX P own W0 n nv (.cond (.tmp t) x y) (λs R K=>match look s.E t with
  | some (.c (.im (.b b)))=>cond b (f s K) (k s K)
  | _=>none):=by
 intro s R K r h g a w hg;dsimp only at h;split at h
 ·rename_i b hb;refine wp_cond_split (mU (hg.env t _ hb)) (λe=>?_) (λe=>?_)
  ·subst e;exact hx s K r h g a w hg
  ·subst e;exact hy s K r h g a w hg
 ·cases h
theorem xW{b:Bool}{x y:Code}{f k:TS F→{R:Type}→(Nat→TS F→Option R)→Option R}(hx:aX P own W0 n nv x f)(hy:aX P own W0 n nv y k) :
  aX P own W0 n nv (.cond (.const (.bool b)) x y) (λs R K=>cond b (f s K) (k s K)):=by
 intro s R K r h g a w hg;refine wp_cond_split (t:=b) rfl (λe=>?_) (λe=>?_)
 ·subst e;exact hx s K r h g a w hg
 ·subst e;exact hy s K r h g a w hg
theorem yo{i:Nat}{x:Code}{f:TS F→{R:Type}→(Nat→TS F→Option R)→Option R}(hx:aX P own W0 n nv x f) :
  aX P own W0 n nv (.block i x) (λs R K=>f s λe s'=>if Nat.beq e (i+2)then K 0 s' else K e s'):=by
 intro s R K r h g a w hg;refine wp_block (wp_mono (hx s _ r h g a w hg) ?_);rintro e a' w' ⟨j,s',g',rfl,h2,h3,h4⟩
 match j,h2 with
 | 0,h2=>exact⟨0,s',g',rfl,h2,h3,h4⟩
 | 1,h2=>exact⟨1,s',g',rfl,h2,h3,h4⟩
 | j+2,h2=>
  simp only at h2;show Exit.inBlock i _ (.exit j) a' w';simp only[Exit.inBlock];by_cases hij:j=i
  ·subst hij;rw[bc,if_pos rfl]at h2;rw[if_pos rfl];exact⟨0,s',g',rfl,h2,h3,h4⟩
  ·rw[aj (by omega)]at h2
   rw[if_neg hij];exact⟨j+2,s',g',rfl,h2,h3,h4⟩
theorem yd{x:Code}{f:TS F→{R:Type}→(Nat→TS F→Option R)→Option R}(hx:aX P own W0 n nv x f) :
  aX P own W0 n nv (.scope x) (λs R K=>f s K):=by
 intro s R K r h g a w hg;refine wp_scope_straight (wp_mono (hx s _ r h g a w hg) ?_);rintro e a' w' ⟨j,s',g',rfl,h2,h3,h4⟩
 match j,h2 with
 | 0,h2=>exact⟨0,s',g',rfl,h2,h3,h4⟩
 | 1,h2=>exact⟨1,s',g',rfl,h2,h3,h4⟩
 | j+2,h2=>exact⟨j+2,s',g',rfl,h2,h3,h4⟩
theorem wv(hT:Js P T)(hΓ : Kr P Γ)(KX:P.follows .mixedOrders=true){id:Nat}{ops:Array Oper}{draw:Bool}{kp:List Nat} :
  aX P own W0 n nv (.region id ops draw) (λs R K=>OL T Γ nv n kp ops.toList draw s (K 0)):=by
 intro s R K r h g a w hg;refine Ir hT hΓ KX h hg ?_;intro s' g' a' w' h1 h2 h3;exact⟨0,s',g',rfl,h1,h2,h3⟩
theorem Cu{F:Fam}(Γ : Ctx F)(f:Nat):look (mark Γ) f=look Γ f:=by
 cases Γ with
 | nil=>rfl
 | cons a l=>
  simp only[mark,look]
  split<;>first | rfl | simp_all
theorem rY(hΓ : Kr P Γ){b:Bool}:Kr P (cond b (mark Γ) Γ):=by
 cases b with
 | false=>exact hΓ
 | true=>exactλf sp h=>hΓ f sp (by rw[← Cu];exact h)
theorem zJ{s:TS F}{g:G}{a:Act}{w:World}(hg:Good P own W0 n s.st g a w)(id:Nat):(∃g',Good P own W0 n (u5 id s).st g' a w)∧Fr nv s (u5 id s):=by
 unfold u5;split
 ·rename_i t l hB
  obtain⟨g',k1,k2,k3⟩:=DB (c:=s.c) hg.mem hB (hg.dom s.c (by simp only[TS.st,br];simp))
  refine⟨⟨g',hg.Po,hg.OH,λx d h=>(hg.env x d h).le k2.le,?_,λy hy=>?_,λb hb=>k2.le.IV b (hg.OW b hb),hg.K7.stp hg.mem k2,λy p hp=>k2.le.ids _ _ (hg.NU y p hp)⟩,?_⟩
  ·have e:(⟨s.E,NI s.M [(id,none),(s.c,some (.KM t l)),(id,some (.ME s.c l.length))],s.c+1,s.dE,id::s.c::s.dM⟩:TS F).st.m=Kc s.st.m [(id,none),(s.c,some (.KM t l)),(id,some (.ME s.c l.length))]:=by
    funext x
    simp only[TS.st];rw[eg]
   rw[e];exact k1
  ·have hy:Nat.blt y (s.c+1)=false:=hy;rw[br]at hy
   have hy':¬ y<s.c+1:=by simpa using hy
   rw[k3 y (by omega)]
   exact hg.dom y (by simp only[TS.st,br];simp;omega)
  ·refine⟨λ_ _ _=>rfl,λy hy hn=>?_,WL _,λ_ h=>h,λx hx=>by simp[hx]⟩
   show look (NI s.M _) y=_;rw[eg,cp];simp only[Li,not_or]at hn;simp only[KZ,Lx,Li,Zv,or_false,not_or];exact⟨hn.1,hn.2.1,hn.1⟩
 ·exact⟨⟨g,hg⟩,.refl _ _⟩
theorem BE{s:TS F}{g:G}{a:Act}{w:World}(hg:Good P own W0 n s.st g a w)(x gs:Nat):Good P own W0 n (Ua x gs s).st g a w∧Fr nv s (Ua x gs s):=by
 unfold Ua;split
 ·rename_i fn y id hE;have hr:=hg.env x _ hE
  have hid:∃b c,g.ids id=some (some (b,c)):=by
   generalize a.tmps.getD x undef=v at hr
   cases hr with
   | NG h1 h2 h3 h4=>
    rename_i us
    match us,h2 with
    | [u0,u1],_=>obtain⟨b,c,q,_⟩:=bo (h4 1 _ u1 rfl rfl);exact⟨b,c,q⟩
  obtain⟨b,c,hid⟩:=hid;refine⟨⟨hg.Po,hg.OH,λz d h=>?_,hg.mem,hg.dom,hg.OW,hg.K7,hg.NU⟩,λz hz hn=>?_,λ_ _ _=>rfl,Ku _,λz hz=>Pw _ hz,λ_ h=>h⟩
  ·have h:look ((gs,.gh id)::s.E) z=some d:=h;simp only[look]at h;split at h
   ·cases h;exact .gh hid
   ·exact hg.env z d h
  ·show look ((gs,.gh id)::s.E) z=_;simp only[look];split
   ·rename_i e;have:gs=z:=M5 e;subst this;exact absurd WT hn
   ·rfl
 ·exact⟨hg,.refl _ _⟩
theorem iW:∀(kp:List Nat){s:TS F}{g:G}{a:Act} {w:World},Good P own W0 n s.st g a w→(∃g',Good P own W0 n (jt kp s).st g' a w)∧Fr nv s (jt kp s)
 | [],s,g,a,w,hg=>⟨⟨g,hg⟩,.refl _ _⟩
 | x::r,s,g,a,w,hg=>by
  simp only[jt]
  cases Nat.ble 10000 x with
  | false=>exact iW r hg
  | true=>
   cases Nat.ble 1000000 x with
   | true=>obtain⟨h1,h2⟩:=BE (nv:=nv) hg (x / 1000 - 1000) (x % 1000);obtain⟨h3,h4⟩:=iW r h1;exact⟨h3,h2.trans h4⟩
   | false=>obtain⟨⟨g1,h1⟩,h2⟩:=zJ (nv:=nv) hg (x - 10000);obtain⟨h3,h4⟩:=iW r h1;exact⟨h3,h2.trans h4⟩
theorem Ck{c:Code}{f:TS F→{R:Type}→(Nat→TS F→Option R)→Option R}(hf:aX P own W0 n nv c f)(kp:List Nat):aX P own W0 n nv c (λs R K=>f (jt kp s) K):=by intro s R K r h g a w hg;obtain⟨⟨g',h1⟩,h2⟩:=iW (nv:=nv) kp hg;exact wp_mono (hf _ K r h g' a w h1) (λe a' w' hq=>hq.back h2)
theorem LQ(hT:Js P T)(hΓ : Kr P Γ)(KX:P.follows .mixedOrders=true):∀(c:Code),aX P own W0 n nv c (Kv T Γ nv n c)
 | .skip=>λs R K r h g a w hg=>wp_skip ⟨0,s,g,rfl,by simpa[Kv]using h,.refl _ _,hg⟩
 | .exit i=>λs R K r h g a w hg=>wp_exit ⟨i+2,s,g,rfl,by simpa[Kv]using h,.refl _ _,hg⟩
 | .ret=>λs R K r h g a w hg=>wp_ret ⟨1,s,g,rfl,by simpa[Kv]using h,.refl _ _,hg⟩
 | .region id ops draw=>λs R K r h g a w hg=>wv (id:=id) (kp:=[]) hT hΓ KX s K r (by simp only[Kv]at h;exact h) g a w hg
 | .seq x y=>λs R K r h g a w hg=>B9 (LQ hT hΓ KX x) (LQ hT hΓ KX y) s K r (by simp only[Kv]at h;exact h) g a w hg
 | .cond (.tmp t) x y=>λs R K r h g a w hg=>Ae (LQ hT hΓ KX x) (LQ hT hΓ KX y) s K r (by simp only[Kv]at h;exact h) g a w hg
 | .cond (.const v) x y=>by
  cases v with
  | bool b=>exactλs R K r h g a w hg=>xW (LQ hT hΓ KX x) (LQ hT hΓ KX y) s K r (by simp only[Kv]at h;exact h) g a w hg
  | _=>exactλs R K r h g a w hg=>by simp[Kv]at h
 | .cond (.global _) x y=>λs R K r h g a w hg=>by simp[Kv]at h
 | .cond (.func _) x y=>λs R K r h g a w hg=>by simp[Kv]at h
 | .block i x=>λs R K r h g a w hg=>yo (LQ hT hΓ KX x) s K r (by simp only[Kv]at h;exact h) g a w hg
 | .loop x=>λs R K r h g a w hg=>by simp[Kv]at h
 | .goto x=>λs R K r h g a w hg=>by simp[Kv]at h
 | .label x=>λs R K r h g a w hg=>wp_label ⟨0,s,g,rfl,by simpa[Kv]using h,.refl _ _,hg⟩
 | .rangeFunc _ _ _ _=>λs R K r h g a w hg=>by simp[Kv]at h
 | .refuse _=>λs R K r h g a w hg=>by simp[Kv]at h
 | .scope x=>λs R K r h g a w hg=>yd (LQ hT hΓ KX x) s K r (by simp only[Kv]at h;exact h) g a w hg
theorem y_{dr kill:List Nat}{c0:Nat}{ks:Ks}{s0 z:TS F}{v:TLS F ks}(h:Lr Γ s0 dr c0 kill ks z=some v) :
  (∀x∈z.dE,x∈dr)∧Ol c0 kill z.dM=true∧∃p,Pd Γ s0 z ks=some p∧p.x=v∧cD (Kh p.os)=true∧Ny (Kh p.os) p.fz=true∧Ol c0 kill (Kh p.os)=true∧Ol c0 kill p.fz=true:=by
 unfold Lr at h;obtain⟨h1,h⟩:=aL h;simp only[KQ]at h1;split at h
 ·cases h
 ·rename_i p hp;obtain⟨h2,h⟩:=aL h;simp only[KQ,and_assoc]at h2;cases h;exact⟨λx hx=>aK.1 (N9.1 h1.1 x hx),h1.2,p,hp,rfl,h2⟩
theorem sC{dr kill:List Nat}{c0:Nat}{s0:TS F}:∀{xs:List (Nat×Ks)} {e:Nat} {z:TS F} {v:ExT F xs},O9 Γ s0 dr c0 kill xs e z=some v→
  ∃ks x,Lr Γ s0 dr c0 kill ks z=some x∧(∀y∈keysOf ks,y∈MR xs)∧∀{R:Type}(K:(e:Nat)→(ks:Ks)→TLS F ks→Option R),OE K xs v=K e ks x
 | [],e,z,v,h=>by cases h
 | [x],e,z,v,h=>by
  simp only[O9]at h;obtain⟨h1,h⟩:=aL h;have:=M5 h1;subst this;rw[h1]at h
  exact⟨x.2,v,h,λy hy=>by simpa[MR]using hy,λK=>rfl⟩
 | x::y::r,e,z,v,h=>by
  simp only[O9]at h;split at h
  ·rename_i hb;have:=M5 hb;subst this;split at h
   ·rename_i v' hv';cases h
    exact⟨x.2,v',hv',λy hy=>by simp[MR,hy],λK=>rfl⟩
   ·cases h
  ·split at h
   ·rename_i v' hv';cases h;obtain⟨ks,x',h1,h2,h3⟩:=sC hv'
    exact⟨ks,x',h1,λy hy=>by have:=h2 y hy;simp only[MR,List.flatMap_cons,Mi]at this ⊢;exact .inr this,λK=>h3 K⟩
   ·cases h
theorem m8(hΓ : Kr P Γ){s z:TS F}{gs g:G}{as a:Act}{ws w W1:World}(hs:Good P own W1 n s.st gs as ws)(hz:Good P own W0 n z.st g a w){dr kill:List Nat}
  (hE:∀x,x<nv→x∉dr→x∉z.dE→look z.E x=look s.E x) (hM:∀id,id<s.c→id∉kill→id∉z.dM→look z.M id=look s.M id) {ks:Ks} (hk:∀y∈keysOf ks,y∈dr) {v:TLS F ks} (h:Lr Γ s dr s.c kill ks z=some v) :
  (∃g',Good P own W0 n (merge nv dr kill s ks v).st g' a w)∧Fr nv s (merge nv dr kill s ks v)∧Fr nv (clean s) (merge nv dr kill (clean s) ks v):=by
 obtain⟨h1,h2,p,h3,rfl,h4,h5,h6,h7⟩:=y_ h
 obtain⟨k1,k2,_⟩:=uR hΓ hs hz (dr:=dr) (kill:=kill) (λx hx hn=>hE x hx hn (λhd=>hn (h1 x hd))) (λid hi hn=>hM id hi hn (λhd=>by
  rcases mn h2 hd with h | h
  ·omega
  ·exact hn h)) h3 h4 h5 h6 h7
 exact⟨k1,k2 hk⟩
theorem vq(hΓ : Kr P Γ){s z:TS F}{gs g:G}{as a:Act}{ws w W1:World}(hs:Good P own W1 n s.st gs as ws)(hz:Good P own W0 n z.st g a w){dr kill:List Nat}
  (hE:∀x,x<nv→x∉dr→x∉z.dE→look z.E x=look s.E x) (hM:∀id,id<s.c→id∉kill→id∉z.dM→look z.M id=look s.M id) {ks:Ks} {v:TLS F ks} (h:Lr Γ s dr s.c kill ks z=some v) :
  (∃g',Good P own W0 n (merge nv dr kill s ks v).st g' a w)∧(∀q∈(KI s.E ks v s.c).2.1,s.c≤q.1∨q.1∈kill)∧(∀y,y∉keysOf ks→look (KI s.E ks v s.c).1 y=none)∧s.c≤(KI s.E ks v s.c).2.2:=by
 obtain⟨h1,h2,p,h3,rfl,h4,h5,h6,h7⟩:=y_ h
 obtain⟨k1,k2,k3,k4,k5⟩:=uR hΓ hs hz (dr:=dr) (kill:=kill) (λx hx hn=>hE x hx hn (λhd=>hn (h1 x hd))) (λid hi hn=>hM id hi hn (λhd=>by
  rcases mn h2 hd with h | h
  ·omega
  ·exact hn h)) h3 h4 h5 h6 h7
 exact⟨k1,k3,k4,k5⟩
theorem G7(hΓ : Kr P Γ){c:Code}{f:TS F→{R:Type}→(Nat→TS F→Option R)→Option R}(hf:aX P own W0 n nv c f){dr:List Nat}{xs:List (Nat×Ks)}(hx:∀y∈MR xs,y∈dr) :
  aX P own W0 n nv c (λs R K=>(f (clean s) λe s'=>O9 Γ s dr s.c (aM s dr) xs e s').bind λv=>OE (λe ks x=>K e (merge nv dr (aM s dr) s ks x)) xs v):=by
 intro s R K r h g a w hg;rw[UL]at h;obtain⟨v,hv,he⟩:=h;refine wp_mono (hf (clean s) _ v hv g a w hg) ?_;rintro e a' w' ⟨i,s',g',rfl,h2,h3,h4⟩;obtain⟨ks,x,hp,hsub,hel⟩:=sC h2;rw[hel]at he;obtain⟨⟨g2,k1⟩,k2,_⟩:=m8 hΓ hg h4 (λx hx _ hn=>h3.e x hx hn) (λid hi _ hn=>h3.m id hi hn) (λy hy=>hx y (hsub y hy)) hp;exact⟨i,_,g2,rfl,he,k2,k1⟩
def LW(P:Program)(c:Code)(Q:Exit→Act→World→Prop)(a:Act)(w:World):Prop:=
 ∀b tl cs,∃e a' w',Q e a' w'∧Arrives P (lone (b.at a (.code c::.inLoop c::tl)) cs w) b tl cs e a' w'
theorem LW.loop{c:Code}{Q:Exit→Act→World→Prop}{a:Act}{w:World}(h:LW P c Q a w):(Code.loop c).wp P Q a w:=by intro b tl cs;obtain⟨e,a',w',hq,harr⟩:=h b tl cs;exact⟨e,a',w',hq,.of_steps (.one step_loop) harr⟩
theorem LW.mono{c:Code}{Q Q':Exit→Act→World→Prop}{a:Act}{w:World}(h:LW P c Q a w)(hq:∀e a w,Q e a w→Q' e a w):LW P c Q' a w:=by intro b tl cs;obtain⟨e,a',w',h1,harr⟩:=h b tl cs;exact⟨e,a',w',hq _ _ _ h1,harr⟩
theorem LW.round{c:Code}{Q:Exit→Act→World→Prop}{a:Act}{w:World}(h:c.wp P (Exit.then (λa' w'=>LW P c Q a' w') Q) a w):LW P c Q a w:=by
 intro b tl cs;obtain⟨e,a₁,w₁,hq,harr⟩:=h b (.inLoop c::tl) cs
 cases e with
 | normal=>obtain⟨e₂,a₂,w₂,hq₂,harr₂⟩:=hq b tl cs;exact⟨e₂,a₂,w₂,hq₂,.of_steps (Steps.trans harr (.one step_inLoop)) harr₂⟩
 | exit id=>exact⟨_,a₁,w₁,hq,.pass (x:=.inLoop c) rfl (λ_ _=>.inl (by simp)) harr⟩
 | goto l=>exact⟨_,a₁,w₁,hq,.pass (x:=.inLoop c) rfl (λ_ _=>.inl (by simp)) harr⟩
 | ret=>exact⟨_,a₁,w₁,hq,.pass (x:=.inLoop c) rfl (λ_ _=>.inl (by simp)) harr⟩
 | panic ch=>exact⟨_,a₁,w₁,hq,.pass (x:=.inLoop c) rfl (λ_ _=>.inl (by simp)) harr⟩
 | outgrown=>exact⟨_,a₁,w₁,hq,.pass (x:=.inLoop c) rfl (λ_ _=>.inl (by simp)) harr⟩
theorem zi{c:Code}{Q:Exit→Act→World→Prop}(I:Nat→Act→World→Prop)(round:∀k a w,I k a w→c.wp P (Exit.then (λa' w'=>∃j,j<k∧I j a' w') Q) a w){k:Nat}{a:Act}{w:World}(h₀ : I k a w):LW P c Q a w:=by
 intro b tl cs
 have key:∀n a w,I n a w→∃e a' w',Q e a' w'∧Arrives P (lone (b.at a (.code c::.inLoop c::tl)) cs w) b tl cs e a' w':=by
  intro n
  induction n using Nat.strongRecOn with
  | _ n ih=>
   intro a w hI;obtain⟨e,a₁,w₁,hq,harr⟩:=round n a w hI b (.inLoop c::tl) cs
   cases e with
   | normal=>obtain⟨j,hlt,hI₁⟩:=hq;obtain⟨e₂,a₂,w₂,hq₂,harr₂⟩:=ih j hlt a₁ w₁ hI₁;exact⟨e₂,a₂,w₂,hq₂,.of_steps (Steps.trans harr (.one step_inLoop)) harr₂⟩
   | exit id=>exact⟨_,a₁,w₁,hq,.pass (x:=.inLoop c) rfl (λ_ _=>.inl (by simp)) harr⟩
   | goto l=>exact⟨_,a₁,w₁,hq,.pass (x:=.inLoop c) rfl (λ_ _=>.inl (by simp)) harr⟩
   | ret=>exact⟨_,a₁,w₁,hq,.pass (x:=.inLoop c) rfl (λ_ _=>.inl (by simp)) harr⟩
   | panic ch=>exact⟨_,a₁,w₁,hq,.pass (x:=.inLoop c) rfl (λ_ _=>.inl (by simp)) harr⟩
   | outgrown=>exact⟨_,a₁,w₁,hq,.pass (x:=.inLoop c) rfl (λ_ _=>.inl (by simp)) harr⟩
 exact key k a w h₀
theorem qX{c:Code}{Q:Exit→Act→World→Prop}(I:Nat→Act→World→Prop)(round:∀k a w,I k a w→c.wp P (Exit.then (λa' w'=>∃j,j<k∧I j a' w') Q) a w){k:Nat}{a:Act}{w:World}(h₀ : I k a w):(Code.loop c).wp P Q a w:=
 LW.loop (zi I round h₀)
def zr(P:Program)(own:Ow)(W0:World)(n nv:Nat)(c:Code)(f:TS F→{R:Type}→(Nat→TS F→Option R)→Option R):Prop:=
 ∀(s:TS F){R:Type}(K:Nat→TS F→Option R)(r:R),f s K=some r→∀(g:G)(a:Act)(w:World),Good P own W0 n s.st g a w→LW P c (U5 P own W0 n nv s K r) a w
theorem zC(hΓ : Kr P Γ){c:Code}{f:TS F→{R:Type}→(Nat→TS F→Option R)→Option R}(hf:aX P own W0 n nv c f){dr:List Nat}{ks:Ks}{xs:List (Nat×Ks)}(hx:∀y∈MR xs,y∈dr)(hk:∀y∈keysOf ks,y∈dr) :
  zr P own W0 n nv c (λs R K=>match Lr Γ s dr s.c (aM s dr) ks (clean s)with
  | none=>none
  | some t0=>(loop (λt:TLS F ks=>f (clean (merge nv dr (aM s dr) s ks t)) λe s'=>match e with
    | 0=>(match Lr Γ s dr s.c (aM s dr) ks s' with | some t'=>some (Sum.inl t') | none=>none)
    | e=>(match O9 Γ s dr s.c (aM s dr) xs e s' with | some v=>some (Sum.inr v) | none=>none)) t0).bind λv=>OE (λe ks x=>K e (merge nv dr (aM s dr) s ks x)) xs v):=by
 intro s R K r h g a w hg;dsimp only at h;split at h
 ·cases h
 ·rename_i t0 ht0;rw[UL]at h;obtain⟨v,hv,he⟩:=h
  generalize hstep:(λt:TLS F ks=>f (clean (merge nv dr (aM s dr) s ks t)) λe s'=>match e with
    | 0=>(match Lr Γ s dr s.c (aM s dr) ks s' with | some t'=>some (Sum.inl t') | none=>none)
    | e=>(match O9 Γ s dr s.c (aM s dr) xs e s' with | some v=>some (Sum.inr v) | none=>none))=step at hv
  obtain⟨m,hm⟩:=oT hv;obtain⟨⟨g0,b1⟩,_,b3⟩:=m8 hΓ hg (z:=clean s) hg (λ_ _ _ _=>rfl) (λ_ _ _ _=>rfl) hk ht0;refine zi (λm a w=>∃t,iter step m t=some v∧(∃g,Good P own W0 n (merge nv dr (aM s dr) s ks t).st g a w)∧Fr nv (clean s) (merge nv dr (aM s dr) (clean s) ks t)) ?_ (k:=m) ⟨t0,hm,⟨g0,b1⟩,b3⟩;rintro m a w ⟨t,hit,⟨g1,hg1⟩,hfr⟩
  cases m with
  | zero=>cases hit
  | succ m=>
   simp only[iter]at hit
   have hend:∀{z:TS F}{g':G}{a':Act}{w':World},Fr nv (clean (merge nv dr (aM s dr) s ks t)) z→Good P own W0 n z.st g' a' w'→∀{ks':Ks},(∀y∈keysOf ks',y∈dr)→∀{x:TLS F ks'},Lr Γ s dr s.c (aM s dr) ks' z=some x→
     (∃g',Good P own W0 n (merge nv dr (aM s dr) s ks' x).st g' a' w')∧Fr nv s (merge nv dr (aM s dr) s ks' x)∧Fr nv (clean s) (merge nv dr (aM s dr) (clean s) ks' x):=by
    intro z g' a' w' hz hgz ks' hk' x hp;refine m8 hΓ hg hgz (λy hy hn hd=>?_) (λid hi hn hd=>?_) hk' hp
    ·exact(hz.e y hy hd).trans (hfr.e y hy (by simpa[merge,clean]using hn))
    ·exact(hz.m id (OZ hi hfr.c) hd).trans (hfr.m id hi (by simpa[merge,clean]using hn))
   cases hst:step t with
   | none=>rw[hst]at hit;cases hit
   | some q=>
    have hst':=hst;rw[← hstep]at hst';refine wp_mono (hf (clean (merge nv dr (aM s dr) s ks t)) _ q hst' g1 a w hg1) ?_;rintro e a' w' ⟨i,z,g',rfl,h2,h3,h4⟩;rw[hst]at hit
    match i,h2 with
    | 0,h2=>
     simp only at h2;split at h2
     ·rename_i t' ht';cases h2;obtain⟨k1,_,k3⟩:=hend h3 h4 hk ht';exact⟨m,QfJ m,t',hit,k1,k3⟩
     ·cases h2
    | i+1,h2=>
     simp only at h2;split at h2
     ·rename_i v' hv';cases h2;cases hit;obtain⟨ks',x,hp,hsub,hel⟩:=sC hv';rw[hel]at he;obtain⟨⟨g2,k1⟩,k2,_⟩:=hend h3 h4 (λy hy=>hx y (hsub y hy)) hp;have:U5 P own W0 n nv s K r (exC (i+1)) a' w':=⟨i+1,_,g2,rfl,he,k2,k1⟩
      cases i with
      | zero=>exact this
      | succ i=>exact this
     ·cases h2
theorem Gg(hΓ : Kr P Γ){c:Code}{f:TS F→{R:Type}→(Nat→TS F→Option R)→Option R}(hf:aX P own W0 n nv c f){dr:List Nat}{ks:Ks}{xs:List (Nat×Ks)}(hx:∀y∈MR xs,y∈dr)(hk:∀y∈keysOf ks,y∈dr) :
  aX P own W0 n nv (.loop c) (λs R K=>match Lr Γ s dr s.c (aM s dr) ks (clean s)with
  | none=>none
  | some t0=>(loop (λt:TLS F ks=>f (clean (merge nv dr (aM s dr) s ks t)) λe s'=>match e with
    | 0=>(match Lr Γ s dr s.c (aM s dr) ks s' with | some t'=>some (Sum.inl t') | none=>none)
    | e=>(match O9 Γ s dr s.c (aM s dr) xs e s' with | some v=>some (Sum.inr v) | none=>none)) t0).bind λv=>OE (λe ks x=>K e (merge nv dr (aM s dr) s ks x)) xs v):=λs R K r h g a w hg=>LW.loop (zC hΓ hf hx hk s K r h g a w hg)
theorem Fi{c:Code}{f:TS F→{R:Type}→(Nat→TS F→Option R)→Option R}(hf:aX P own W0 n nv c f){x ix ex:Nat}{dr:List Nat} :
  aX P own W0 n nv (.loop c) (λs R K=>match look s.E x with
  | some (.c (.KP id))=>match look s.M id with
   | some (.row t l0)=>match look s.E ix with
    | some (.c (.im (.i .i64 n0)))=>if Nat.blt id s.c&&Nat.blt 0 ex then
      (loop (λq:List (ET F t)×Nat×Int=>f (clean (LP nv s id ix dr (.K5 t q.1 q.2.1) q.1.length q.2.2)) λe s'=>match e with
       | 0=>(match RZ s.c id ix dr t s' with | some q'=>some (Sum.inl q') | none=>none)
       | e=>if Nat.beq e ex then(match RZ s.c id ix dr t s' with | some q'=>some (Sum.inr q') | none=>none)else none) (l0,0,n0)).bind λv=>
        cond (Nat.ble v.1.length v.2.1) (K ex (LP nv s id ix dr (.KM t v.1) v.1.length v.2.2)) none
     else none
    | _=>none
   | _=>none
  | _=>none):=by
 intro s R K r h g a w hg;dsimp only at h;split at h
 ·rename_i id hx;split at h
  ·rename_i t l0 hB;split at h
   ·rename_i n0 hi;obtain⟨hc,h⟩:=aL h;simp only[KQ,br,decide_eq_true_eq]at hc;rw[UL]at h;obtain⟨v,hv,he⟩:=h
    generalize hstep:(λq:List (ET F t)×Nat×Int=>f (clean (LP nv s id ix dr (.K5 t q.1 q.2.1) q.1.length q.2.2)) λe s'=>match e with
       | 0=>(match RZ s.c id ix dr t s' with | some q'=>some (Sum.inl q') | none=>none)
       | e=>if Nat.beq e ex then(match RZ s.c id ix dr t s' with | some q'=>some (Sum.inr q') | none=>none)else none)=step at hv
    obtain⟨m,hm⟩:=oT hv
    have Y9:∀(B:Jw F)(len:Nat)(nn:Int) y,y<nv→y∉ix::dr→look (LP nv s id ix dr B len nn).E y=look s.E y:=by
     intro B len nn y hy hn;simp only[LP]
     rw[ar,if_neg (by rw[aj (λe=>hn (by simp[e]))];simp),aI (λy=>Nat.blt y nv&&!(Jp y (ix::dr)))]
     rw[if_pos];simp only[KQ,br,decide_eq_true_eq,Rj];refine⟨hy,?_⟩
     cases hmm:Jp y (ix::dr)with
     | false=>rfl
     | true=>exact absurd (aK.1 hmm) hn
    have Y8:∀(B:Jw F)(len:Nat)(nn:Int) y,y<s.c→y≠id→look (LP nv s id ix dr B len nn).M y=look s.M y:=by
     intro B len nn y hy hn;simp only[LP]
     rw[ar,if_neg (by rw[aj (λe=>hn e.symm)];simp),ar,if_neg (by rw[aj (by omega)];simp),aI (λy=>!(Nat.beq id y)),if_pos]
     rw[aj (λe=>hn e.symm)];rfl
    have hstart:∃g0,Good P own W0 n (LP nv s id ix dr (.K5 t l0 0) l0.length n0).st g0 a w:=by
     obtain⟨g1,k1,k2,k3⟩:=D4 (c:=s.c) hg.mem hB (hg.dom s.c (by simp only[TS.st,br];simp))
     have hz:Good P own W0 n (⟨s.E,NI s.M [(id,none),(s.c,some (.K5 t l0 0)),(id,some (.ME s.c l0.length))],s.c+1,s.dE,s.dM⟩:TS F).st g1 a w:=by
      refine⟨hg.Po,hg.OH,λx d h=>(hg.env x d h).le k2.le,?_,λy hy=>?_,λb hb=>k2.le.IV b (hg.OW b hb),hg.K7.stp hg.mem k2,λy p hp=>k2.le.ids _ _ (hg.NU y p hp)⟩
      ·have e:(⟨s.E,NI s.M [(id,none),(s.c,some (.K5 t l0 0)),(id,some (.ME s.c l0.length))],s.c+1,s.dE,s.dM⟩:TS F).st.m=Kc s.st.m [(id,none),(s.c,some (.K5 t l0 0)),(id,some (.ME s.c l0.length))]:=by
        funext x
        simp only[TS.st];rw[eg]
       rw[e];exact k1
      ·have hy:Nat.blt y (s.c+1)=false:=hy;rw[br]at hy
       have hy':¬ y<s.c+1:=by simpa using hy
       rw[k3 y (by omega)]
       exact hg.dom y (by simp only[TS.st,br];simp;omega)
     have hMs:look (NI s.M [(id,none),(s.c,some (.K5 t l0 0)),(id,some (.ME s.c l0.length))]) s.c=some (.K5 t l0 0):=by
      rw[eg];simp only[Kc]
      rw[if_neg (by rw[aj (by omega)];simp),if_pos (WM _)]
     have hMi:look (NI s.M [(id,none),(s.c,some (.K5 t l0 0)),(id,some (.ME s.c l0.length))]) id=some (.ME s.c l0.length):=by rw[eg];simp only[Kc];rw[if_pos (WM _)]
     refine rW (kk:=s.c) (B:=.K5 t l0 0) hg hz hc.1 (λ_ _ _=>rfl) hi (λy hy hn=>?_) hMs rfl (.inr (Ku _)) (hz.mem.ok id _ hMi) (λg2 e1 e2=>?_) rfl
     ·show look (NI s.M _) y=_;rw[eg,cp];simp only[KZ,Lx,Li,Zv,or_false,not_or]
      exact⟨hn,by omega,hn⟩
     ·obtain⟨pl,p1,p2⟩:=hz.mem.ok s.c _ hMs
      exact⟨pl,by rw[e1];exact p1,by rw[e2];exact p2⟩
    have Ws:∀{z:TS F}{g':G}{a':Act}{w':World} {q0 q:List (ET F t)×Nat×Int},Fr nv (clean (LP nv s id ix dr (.K5 t q0.1 q0.2.1) q0.1.length q0.2.2)) z→Good P own W0 n z.st g' a' w'→RZ s.c id ix dr t z=some q→
      (∃g2,Good P own W0 n (LP nv s id ix dr (.K5 t q.1 q.2.1) q.1.length q.2.2).st g2 a' w')∧(q.1.length≤q.2.1→∃g2,Good P own W0 n (LP nv s id ix dr (.KM t q.1) q.1.length q.2.2).st g2 a' w'):=by
     intro z g' a' w' q0 q hfr hz hq;unfold RZ at hq;obtain⟨hq1,hq⟩:=aL hq;simp only[KQ,N9]at hq1;split at hq
     ·rename_i nn hnn;split at hq
      ·rename_i k len aan;split at hq
       ·rename_i t' l j Sl;split at hq
        ·rename_i Rz;subst Rz;obtain⟨hkk,hq⟩:=aL hq;have hkk:=PX hkk;cases hq
         have hS:Lb l.length (g'.ids id) (g'.ids (OM (look z.M) 8 k)):=by
          have h1:Lb len (g'.ids id) (g'.ids k):=hz.mem.ok id _ aan
          have h2:Lb len (g'.ids id) (g'.ids (OM (look z.M) 8 k)):=by
           rcases rT hz.mem (λ_ _ h=>h) 8 k with e | ⟨_,e⟩
           ·have e':OM (look z.M) 8 k=k:=e;rw[e'];exact h1
           ·exact h1.trans e
          exact h2.len (hz.mem.ok _ _ Sl)
         have hE:∀y,y<nv→y∉ix::dr→look z.E y=look s.E y:=by intro y hy hn;rw[hfr.e y hy (λhd=>hn (aK.1 (hq1.1 y hd)))];exact Y9 (.K5 _ q0.1 q0.2.1) q0.1.length q0.2.2 y hy hn
         have hM:∀y,y<s.c→y≠id→look z.M y=look s.M y:=by
          intro y hy hn
          rw[hfr.m y (by show y<s.c+1;omega) (λhd=>by
           have:=hq1.2 y hd;rw[Pt]at this;rcases this with this | this
           ·have:=PX this;omega
           ·exact hn (M5 this))]
          exact Y8 (.K5 _ q0.1 q0.2.1) q0.1.length q0.2.2 y hy hn
         refine⟨rW (kk:=OM (look z.M) 8 k) hg hz hc.1 hE hnn hM Sl rfl (.inr hkk) hS (λg2 e1 e2=>?_) rfl,λhj=>rW (kk:=OM (look z.M) 8 k) hg hz hc.1 hE hnn hM Sl rfl (.inr hkk) hS (λg2 e1 e2=>?_) rfl⟩
         ·obtain⟨pl,p1,p2⟩:=hz.mem.ok _ _ Sl
          exact⟨pl,by rw[e1];exact p1,by rw[e2];exact p2⟩
         ·obtain⟨pl,p1,p2⟩:=CH (hz.mem.ok _ _ Sl) hj
          exact⟨pl,by rw[e1];exact p1,by rw[e2];exact p2⟩
        ·cases hq
       ·cases hq
      ·cases hq
     ·cases hq
    refine qX (λm a w=>∃q,iter step m q=some v∧∃g,Good P own W0 n (LP nv s id ix dr (.K5 t q.1 q.2.1) q.1.length q.2.2).st g a w) ?_ (k:=m) ⟨(l0,0,n0),hm,hstart⟩;rintro m a w ⟨q,hit,g1,hg1⟩
    cases m with
    | zero=>cases hit
    | succ m=>
     simp only[iter]at hit
     cases hst:step q with
     | none=>rw[hst]at hit;cases hit
     | some qq=>
      have hst':=hst;rw[← hstep]at hst';refine wp_mono (hf (clean (LP nv s id ix dr (.K5 t q.1 q.2.1) q.1.length q.2.2)) _ qq hst' g1 a w hg1) ?_;rintro e a' w' ⟨i,z,g',rfl,h2,h3,h4⟩;rw[hst]at hit
      match i,h2 with
      | 0,h2=>
       simp only at h2;split at h2
       ·rename_i q' hq';cases h2;exact⟨m,QfJ m,q',hit,(Ws h3 h4 hq').1⟩
       ·cases h2
      | i+1,h2=>
       simp only at h2;obtain⟨hie,h2⟩:=aL h2;have hie:=M5 hie;split at h2
       ·rename_i q' hq';cases h2;cases hit
        cases aal:Nat.ble v.1.length v.2.1 with
        | false=>rw[aal]at he;cases he
        | true=>
         rw[aal]at he;obtain⟨g2,k1⟩:=(Ws h3 h4 hq').2 (PX aal)
         have:U5 P own W0 n nv s K r (exC (i+1)) a' w':=by
          refine⟨i+1,_,g2,rfl,by rw[hie];exact he,⟨λy hy hn=>?_,λy hy hn=>?_,WL _,λy hy=>?_,λy hy=>?_⟩,k1⟩
          ·exact Y9 _ _ _ y hy (λhh=>hn (by
            show y∈ix::(dr++s.dE);rcases Li.1 hh with rfl | hh
            ·simp
            ·simp[hh]))
          ·exact Y8 _ _ _ y hy (λhh=>hn (by show y∈id::s.dM;simp[hh]))
          ·show y∈ix::(dr++s.dE);simp[hy]
          ·show y∈id::s.dM;simp[hy]
         cases i with
         | zero=>exact this
         | succ i=>exact this
       ·cases h2
   ·cases h
  ·cases h
 ·cases h
theorem IB{c:Code}{f:TS F→{R:Type}→(Nat→TS F→Option R)→Option R}(hf:aX P own W0 n nv c f)(k:Nat):aX P own W0 n nv (.loop c) (unr f k):=by
 intro s R K r h g a w hg;refine LW.loop ?_
 induction k generalizing s g a w with
 | zero=>simp[unr]at h
 | succ k ih=>
  simp only[unr]at h;refine LW.round (wp_mono (hf s _ r h g a w hg) ?_);rintro e a' w' ⟨i,s',g',rfl,h2,h3,h4⟩
  match i,h2 with
  | 0,h2=>exact(ih s' h2 g' a' w' h4).mono (λ_ _ _ hq=>hq.back h3)
  | 1,h2=>exact⟨1,s',g',rfl,h2,h3,h4⟩
  | i+2,h2=>exact⟨i+2,s',g',rfl,h2,h3,h4⟩
theorem G_{c:Code}{f f2:TS F→{R:Type}→(Nat→TS F→Option R)→Option R}(hf:aX P own W0 n nv c f)(hf2:zr P own W0 n nv c f2) :
  aX P own W0 n nv (.loop c) (λs R K=>f s λe s'=>match e with | 0=>f2 s' K | e=>K e s'):=by
 intro s R K r h g a w hg;refine LW.loop (LW.round (wp_mono (hf s _ r h g a w hg) ?_));rintro e a' w' ⟨i,s',g',rfl,h2,h3,h4⟩
 match i,h2 with
 | 0,h2=>exact(hf2 s' K r h2 g' a' w' h4).mono (λ_ _ _ hq=>hq.back h3)
 | 1,h2=>exact⟨1,s',g',rfl,h2,h3,h4⟩
 | i+2,h2=>exact⟨i+2,s',g',rfl,h2,h3,h4⟩
theorem CN{τ α ω : Type}{t0:ω→Option τ}{step:ω→τ→α→Option τ}{l:List α}{r:τ}(h:rng t0 step l=some r):∃st,st=step∧∃t,(∀ob,t0 ob=some t)∧NR st l l.length [] t r:=⟨step,rfl,Fb h⟩
theorem Ey{s s':St F}{g:G}{a a':Act}{w:World}(hg:Good P own W0 n s g a w)(hd:a'.defers = [])(hs:a'.tmps.size=n)(he:∀x d,s'.e x=some d→d = .c .any∨(s.e x=some d∧a'.tmps.getD x undef=a.tmps.getD x undef))
  (hm:∀id B,s'.m id=some B→s.m id=some B) (hu:∀id,s'.u id=false→s.u id=false):Good P own W0 n s' g a' w:=by
 refine⟨hd,hs,λx d h=>?_,hg.mem.sub hm,λid hi=>hg.dom id (hu id hi),hg.OW,hg.K7,hg.NU⟩;rcases he x d h with rfl | ⟨h1,h2⟩
 ·exact .c .any
 ·rw[h2];exact hg.env x d h1
theorem zh{s:TS F}{g:G}{a:Act}{w:World}(hg:Good P own W0 n s.st g a w){d:Nat}(hd:d<n){v:Dat F}{x:Value}(hv:Jr P g w v x)(dE dM:List Nat) :
  Good P own W0 n (⟨(d,v)::s.E,s.M,s.c,dE,dM⟩:TS F).st g (a.put (some d) x) w:=by
 refine⟨hg.Po,by simp[Act.put,hg.OH],?_,hg.mem,hg.dom,hg.OW,hg.K7,hg.NU⟩
 intro y e hy;simp only[TS.st,ar]at hy;simp only[Act.put];rw[PZ,XF];by_cases hdy:d=y
 ·subst hdy;rw[bc]at hy;simp only[if_true,KV]at hy;subst hy
  rw[if_pos rfl,if_pos (by rw[hg.OH];exact hd)]
  exact hv
 ·rw[aj hdy]at hy;rw[if_neg hdy,← PZ]
  exact hg.env y e (by simpa[TS.st]using hy)
theorem nA{a:Act}{d:Nat}(hd:d<a.tmps.size){x:Value}:(a.put (some d) x).eval (.tmp d)=x:=by simp only[Act.put,Act.eval];rw[PZ,XF,if_pos rfl,if_pos hd];rfl
theorem oF{Kq:Array Oper}{i:Nat}{o:Oper}(hi:Kq[i]? = some o)(hg:o.guard=none){v:Value}{w w':World}{a:Act}(hrun:(execOp a.eval o).run P w = .ok (.value v) w'){rest:List Nat}{Q:Exit→Act→World→Prop}(hn:wpOps P Kq Q rest (a.put o.dst v) w'):wpOps P Kq Q (i::rest) a w:=by
 rw[wpOps_cons];unfold wpOp;rw[hi];dsimp only
 rw[show Region.wanted o (yielded Kq a.tmps)=true by simp[Region.wanted,hg],if_pos rfl]
 left;unfold Oper.wp;rw[hrun];exact hn
theorem wV{s s':St F}{g:G}{a:Act}{w:World}(hg:Good P own W0 n s g a w){id b:Nat}{ob MK:Obj}(hB:s.m id=some (.it ob))(hid:g.ids id=some (some (b,0,0,[])))(he:s'.e=s.e)(hu:s'.u=s.u)
  (hm:∀x B,s'.m x=some B→if x=id then B = .it MK else s.m x=some B):Good P own W0 n s' g a (NK w b MK):=by
 obtain⟨k1,k2⟩:=qo (ob:=MK) (B':=.it MK) hg.mem hB rfl (G.Kn hid) (λhh _=>⟨b,hid,hh⟩)
 refine⟨hg.Po,hg.OH,λx d h=>(hg.env x d (by rw[← he];exact h)).le k2.le,k1.sub ?_,λid hi=>hg.dom id (by rw[← hu];exact hi),hg.OW,hg.K7.stp hg.mem k2,hg.NU⟩
 intro x B hx;have:=hm x B hx;simp only[Kc];by_cases hxi:x=id
 ·subst hxi;rw[if_pos rfl]at this;rw[bc,if_pos rfl,this]
 ·rw[if_neg hxi]at this;rw[aj (λe=>hxi e.symm)];simpa using this
def Ow.fix(own:Ow)(i1:Nat)(p1:Pl)(i2:Nat)(p2:Pl):Ow:=⟨own.o,own.i,λid=>if id=i1 then some p1 else if id=i2 then some p2 else own.nm id⟩
theorem Good.fix{s:St F}{g:G}{a:Act}{w:World}(hg:Good P own W0 n s g a w){i1 i2:Nat}{p1 p2:Pl}(h1:g.ids i1=some p1)(h2:g.ids i2=some p2):Good P (own.fix i1 p1 i2 p2) W0 n s g a w:=by
 refine⟨hg.Po,hg.OH,hg.env,⟨hg.mem.ok,hg.mem.Ou,hg.mem.own,hg.mem.IV,hg.mem.io,hg.mem.len⟩,hg.dom,hg.OW,⟨hg.K7.os,hg.K7.tape,hg.K7.output,hg.K7.size,hg.K7.fresh,hg.K7.block,hg.K7.drawn⟩,?_⟩;intro id p hp;simp only[Ow.fix]at hp;split at hp
 ·rename_i e;cases hp;rw[e];exact h1
 ·split at hp
  ·rename_i e;cases hp;rw[e];exact h2
  ·exact hg.NU id p hp
theorem Good.acF{s:St F}{g:G}{a:Act}{w:World}{i1 i2:Nat}{p1 p2:Pl}(hg:Good P (own.fix i1 p1 i2 p2) W0 n s g a w)(h1:∀p,own.nm i1=some p→p=p1)(h2:∀p,own.nm i2=some p→p=p2):Good P own W0 n s g a w:=by
 refine⟨hg.Po,hg.OH,hg.env,⟨hg.mem.ok,hg.mem.Ou,hg.mem.own,hg.mem.IV,hg.mem.io,hg.mem.len⟩,hg.dom,hg.OW,⟨hg.K7.os,hg.K7.tape,hg.K7.output,hg.K7.size,hg.K7.fresh,hg.K7.block,hg.K7.drawn⟩,?_⟩;intro id p hp;refine hg.NU id p ?_;simp only[Ow.fix];split
 ·rename_i e;rw[e]at hp;rw[h1 p hp]
 ·split
  ·rename_i e;rw[e]at hp;rw[h2 p hp]
  ·exact hp
theorem zY{MX Me Nn:List Oper}{c2:Nat}{h:RgS}(hh:vH n MX Me Nn c2=some h) :
  ∃(oa ob oc od oe:Oper),MX = [oa,ob]∧Me = [oc,od]∧Nn=oe::h.rest∧(oa.dst=some h.b∧oa.op = .move (.tmp h.a)∧oa.guard=none)∧(ob.dst=some h.it∧ob.op = .range h.ty (.tmp h.b)∧ob.guard=none)∧
   (oc.dst=some h.d1∧oc.op = .next (.tmp h.it) false∧oc.guard=none)∧(od.dst=some c2∧od.op = .extract (.tmp h.d1) 0∧od.guard=none)∧(oe.dst=some h.d3∧oe.op = .entry (.tmp h.it)∧oe.guard=none)∧
   (h.b<n∧h.it<n∧h.d1<n∧c2<n∧h.d3<n)∧h.it≠h.b∧h.it≠h.d1∧h.it≠c2∧h.it≠h.d3∧c2≠h.d1:=by
 unfold vH at hh;split at hh
 ·obtain⟨hc,hh⟩:=aL hh;cases hh;simp only[KQ,and_assoc,Nat.beq_eq,MV,Rj,Nat.beq_eq_true_eq]at hc;obtain⟨e1,e2,e3,e4,e5,l1,l2,l3,l4,l5,n1,n2,n3,n4,n5⟩:=hc;subst e1 e2 e3 e4 e5
  have hne:∀{x y:Nat},Nat.beq x y=false→x≠y:=λh e=>by rw[e,bc]at h;cases h
  exact⟨_,_,_,_,_,rfl,rfl,rfl,⟨rfl,rfl,rfl⟩,⟨rfl,rfl,rfl⟩,⟨rfl,rfl,rfl⟩,⟨rfl,rfl,rfl⟩,⟨rfl,rfl,rfl⟩,⟨l1,l2,l3,l4,l5⟩,hne n1,hne n2,hne n3,hne n4,hne n5⟩
 ·cases hh
theorem u6{E E':List (Nat×Dat F)}:∀{ks:Ks}{x:TLS F ks}{c:Nat},(∀y∈keysOf ks,look E y=look E' y)→KI E ks x c=KI E' ks x c
 | [],x,c,h=>rfl
 | [k],x,c,h=>by
  simp only[KI,NQ]
  rw[h k.1 (by simp[keysOf])]
 | k::l::r,x,c,h=>by
  simp only[KI,NQ]
  rw[h k.1 (by simp[keysOf])]
  rw[u6 (λy hy=>h y (by simp only[keysOf,KZ,Li]at hy ⊢;exact .inr hy))]
theorem r9:∀{l1 l2:List Nat},l1.Nodup→(∀x∈l1,x∈l2)→l1.length≤l2.length
 | [],_,_,_=>U1 _
 | a::l,l2,hn,hs=>by
  have hn':=Pv.1 hn
  have h:=r9 (l2:=l2.erase a) hn'.2 (λx hx=>by
   have hxa:x≠a:=λe=>hn'.1 (e▸hx)
   exact(List.mem_erase_of_ne hxa).2 (hs x (by simp[hx])))
  have ha:=hs a (by simp)
  rw[List.length_erase_of_mem ha]at h;have:=List.length_pos_of_mem ha;simp only[Ri];omega
theorem E8{N:Nat}{l:List Nat}(hn:l.Nodup)(hl:∀x∈l,x<N):l.length≤N:=by have h:=r9 (l2:=List.range N) hn (λx hx=>WO.2 (hl x hx));simpa using h
structure Nm(nv:Nat)(s:TS F)(it:Nat)(kill:List Nat)(ks:Ks)(t:TLS F ks):Prop where
 m:∀q∈(KI ((it,.c (.ptr s.c 0))::s.E) ks t (s.c+1)).2.1,s.c+1≤q.1∨q.1∈kill
 e:∀y,y∉keysOf ks→look (KI ((it,.c (.ptr s.c 0))::s.E) ks t (s.c+1)).1 y=none
 c:s.c+1≤(KI ((it,.c (.ptr s.c 0))::s.E) ks t (s.c+1)).2.2
theorem sO{c:Nat}{kill:List Nat}{id:Nat}(hid:id<c)(hnd:id∉kill):∀{l:List (Nat×Jw F)},(∀q∈l,c≤q.1∨q.1∈kill)→look l id=none:=by
 intro l
 induction l with
 | nil=>intro _;rfl
 | cons q l ih=>
  intro h;obtain⟨y,C⟩:=q
  have hne:y≠id:=by
   rintro rfl
   rcases h (y,C) (by simp)with h | h
   ·simp only at h;omega
   ·exact hnd h
  rw[ar,aj hne]
  exact ih (λq hq=>h q (by simp[hq]))
theorem Nm.TU{s:TS F}{it:Nat}{kill dr:List Nat}{ks:Ks}{t:TLS F ks}(h:Nm nv s it kill ks t)(ob:Obj){id:Nat}(hi:id<s.c+1)(hk:id∉kill):look (merge nv dr kill (NM s it ob) ks t).M id=look (NM s it ob).M id:=by
 show look ((KI ((it,.c (.ptr s.c 0))::s.E) ks t (s.c+1)).2.1++(NM s it ob).M.filter λp=>!(Jp p.1 kill)) id=_;rw[aY,sO hi hk h.m,Tv,aI (λy=>!(Jp y kill)),if_pos]
 cases hm:Jp id kill with
 | true=>exact absurd (aK.1 hm) hk
 | false=>rfl
theorem Nm.VU{s:TS F}{it:Nat}{kill dr:List Nat}{ks:Ks}{t:TLS F ks}(h:Nm nv s it kill ks t)(ob:Obj){y:Nat}(hk:y∉keysOf ks):look (merge nv dr kill (NM s it ob) ks t).E y=if Nat.blt y nv&&!(Jp y dr)then look ((it,.c (.ptr s.c 0))::s.E) y else none:=by show look ((KI ((it,.c (.ptr s.c 0))::s.E) ks t (s.c+1)).1++((it,.c (.ptr s.c 0))::s.E).filter λp=>Nat.blt p.1 nv&&!(Jp p.1 dr)) y=_;rw[aY,h.e y hk,Tv,aI (λy=>Nat.blt y nv&&!(Jp y dr))]
theorem ES{s:St F}{g:G}{a a':Act}{w:World}(hg:Good P own W0 n s g a w)(hd:a'.defers = [])(hs:a'.tmps.size=n)(he:∀x d,s.e x=some d→a'.tmps.getD x undef=a.tmps.getD x undef):Good P own W0 n s g a' w:=
 ⟨hd,hs,λx d h=>by rw[he x d h];exact hg.env x d h,hg.mem,hg.dom,hg.OW,hg.K7,hg.NU⟩
theorem Ro{a:Act}{d x:Nat}{v:Value}:(a.put (some d) v).tmps.getD x undef=if d=x then(if d<a.tmps.size then v else undef)else a.tmps.getD x undef:=by
 simp only[Act.put];rw[PZ,XF];by_cases h:d=x
 ·rw[if_pos h,if_pos h];by_cases h2:d<a.tmps.size
  ·rw[if_pos h2,if_pos h2];rfl
  ·rw[if_neg h2,if_neg h2];rfl
 ·rw[if_neg h,if_neg h,← PZ]
theorem DX(hT:Js P T)(hΓ : Kr P Γ){id0 id1 id2 i j c2:Nat}{MX Me Nn:Array Oper}{body:Code}{f:TS F→{R:Type}→(Nat→TS F→Option R)→Option R}
  (hf:∀own:Ow,aX P own W0 n nv body f) {ks:Ks} {dr:List Nat} (hk:∀y∈keysOf ks,y∈dr) :
  aX P own W0 n nv (.seq (.region id0 MX false) (.block i (.loop (.seq (.region id1 Me false) (.seq (.cond (.tmp c2) .skip (.exit i)) (.block j (.seq (.region id2 Nn false) body))))))) (λs R K=>ya T Γ nv n f MX.toList Me.toList Nn.toList j c2 ks dr s K):=by
 intro s R K r h g a w hg;dsimp only at h;unfold ya at h;split at h
 ·cases h
 rename_i hs hsh;split at h
 rotate_left
 ·cases h
 rename_i mid ha;split at h
 rotate_left
 ·cases h
 rename_i tt l hmid;split at h
 ·cases h
 rename_i mty hmt;obtain⟨hc,h⟩:=aL h;rw[UL]at h;obtain⟨v,hv,hK⟩:=h;obtain⟨step,hstep,t0,ht0,anE⟩:=CN hv;generalize ai9:aM s dr=kill at *;simp only[KQ,and_assoc,Rj,MV]at hc;obtain⟨c1,c2',c3,c4,c5,c6,c7,c8⟩:=hc;obtain⟨oa,ob,oc,od,oe,e0,e1,e2,⟨a1,a2,a3⟩,⟨b1,b2,b3⟩,⟨n1,n2,n3⟩,⟨x1,x2,x3⟩,⟨y1,y2,y3⟩,⟨l1,l2,l3,l4,l5⟩,m1,m2,m3,m4,m5⟩:=zY hsh
 have TP:∀{x:Nat}{l:List Nat},Jp x l=false→x∉l:=λh hm=>by rw[aK.2 hm]at h;cases h
 have c2n:=TP c2';have c3n:=TP c3;have c5n:=TP c5;have aae:hs.it∉keysOf ks:=λhh=>c5n (hk _ hh)
 have hdrop:∀x∈[hs.b,hs.d1,c2,hs.d3],(Nat.blt x nv&&!(Jp x dr))=false:=by
  intro x hx;have:=N9.1 c6 x hx;simp only[Pt]at this;rcases this with h1 | h1
  ·have:=PX h1
   rw[show Nat.blt x nv=false by rw[br,decide_eq_false_iff_not];omega]
   rfl
  ·rw[h1];simp
 have Y1:∀x∈[hs.b,hs.d1,c2],x∉keysOf ks:=by
  intro x hx;have:=N9.1 c7 x hx
  exact TP (by simpa using this)
 obtain⟨bm,k1,k2,es,k3,k4,k5⟩:=pX hg.mem hmid;obtain⟨bm',cm',k6,hval⟩:=pQ (aV (hg.env _ _ ha));rw[k2]at k6;cases k6;obtain⟨ti,hti,hde,_⟩:=ul (k:=mty.1) (v:=mty.2.1) (tt:=mty.2.2) hmt;have hu:=hT.und _ _ hti;rw[hde]at hu
 have hfr:g.ids s.c=none:=hg.dom s.c (by simp only[TS.st,br,decide_eq_false_iff_not];omega)
 generalize hbit:w.heap.size=bit
 obtain⟨q1,q2⟩:=fT (rm:=[]) (pl:=some (w.heap.size,0,0,[])) (B:=Jw.it (.mapIter (some bm) es.length #[] es.length)) hg.mem hfr (w':=w.alloc (.mapIter (some bm) es.length #[] es.length)) (by
  intro b0 c e b hb;cases e;simp only[Km,IU]at hb;subst hb
  exact .inl ⟨Ku _,by rw[World.size_alloc];omega,hg.K7.fresh _ hg.K7.size⟩) rfl rfl rfl (Ku _) (by rw[World.size_alloc];omega) (λb hb _=>heap_alloc_old w _ hb) (λg' hle hi=>⟨_,hi,heap_alloc_new w _⟩)
 rw[hbit]at q1 q2;generalize hg1:g.name s.c (some (bit,0,0,[]))=g1 at q1 q2
 have aai:g1.ids s.c=some (some (bit,0,0,[])):=by rw[← hg1];exact a9 _ _ _
 generalize hN:es.length=N at *
 have aaA:Good P own W0 n (NM s hs.it (.mapIter (some bm) N #[] N)).st g1 (a.put (some hs.it) (.pointer (some ⟨bit,0,none⟩))) (w.alloc (.mapIter (some bm) N #[] N)):=by
  refine⟨hg.Po,by simp[Act.put,hg.OH],?_,q1.sub ?_,?_,λb hb=>q2.le.IV b (hg.OW b hb),hg.K7.stp hg.mem q2,λid p hp=>q2.le.ids id p (hg.NU id p hp)⟩
  ·intro y e hy;simp only[TS.st,NM,ar]at hy;rw[Ro];by_cases hdy:hs.it=y
   ·rw[if_pos hdy,if_pos (by rw[hg.OH];exact l2)]
    rw[hdy,bc]at hy;simp only[if_true,KV]at hy;subst hy;exact .c (.ptr aai)
   ·rw[if_neg hdy];rw[aj hdy]at hy
    exact(hg.env y e (by simpa[TS.st]using hy)).le q2.le
  ·intro id B hB;simp only[TS.st,NM,ar]at hB;simp only[Lx,OY,Kc];exact hB
  ·intro id hid;simp only[TS.st,NM,br,decide_eq_false_iff_not]at hid
   rw[← hg1,bE _ _ _ (by omega)]
   exact hg.dom id (by simp only[TS.st,br,decide_eq_false_iff_not];omega)
 have Rt:g1.ids mid=some (some (bm,0,0,[])):=q2.le.ids mid _ k2;have Tk:=aaA.fix Rt aai;generalize hown:own.fix mid (some (bm,0,0,[])) s.c (some (bit,0,0,[]))=own' at Tk
 have anK:own'.nm mid=some (some (bm,0,0,[])):=by rw[← hown];simp[Ow.fix]
 have anJ:own'.nm s.c=some (some (bit,0,0,[])):=by
  rw[← hown];simp only[Ow.fix];rw[if_neg (by omega)];simp
 have aau:∀{z:St F}{g':G}{a':Act}{w':World},Good P own' W0 n z g' a' w'→Good P own W0 n z g' a' w':=by
  intro z g' a' w' hh;rw[← hown]at hh;refine hh.acF (λp hp=>?_) (λp hp=>?_)
  ·have:=hg.NU _ _ hp;rw[k2]at this;exact(Option.some.inj this).symm
  ·have:=hg.NU _ _ hp;rw[hfr]at this;cases this
 generalize hw1:w.alloc (.mapIter (some bm) N #[] N)=w1 at *;generalize haB:a.put (some hs.it) (.pointer (some ⟨bit,0,none⟩))=aB at *
 have hbase:∀MK,Good P own' W0 n (NM s hs.it MK).st g1 aB (NK w1 bit MK):=by
  intro MK
  refine wV (s:=(NM s hs.it (.mapIter (some bm) N #[] N)).st) Tk (id:=s.c) (ob:=.mapIter (some bm) N #[] N) (by simp[TS.st,NM,ar]) aai rfl rfl ?_
  intro x B hx;simp only[TS.st,NM,ar]at hx ⊢;by_cases hxc:x=s.c
  ·subst hxc;rw[if_pos rfl];rw[bc]at hx;simpa using hx.symm
  ·rw[if_neg hxc];rw[aj (λe=>hxc e.symm)]at hx ⊢;exact hx
 have YZ:∀{MK:Obj}{z:TS F}{t:TLS F ks}{g':G} {a':Act} {w':World},Good P own' W0 n z.st g' a' w'→(∀x,x<nv→x∉dr→x∉z.dE→look z.E x=look ((hs.it,.c (.ptr s.c 0))::s.E) x)→
   (∀id,id<s.c+1→id∉kill→id∉z.dM→look z.M id=look (NM s hs.it MK).M id)→Lr Γ (NM s hs.it MK) dr (s.c+1) kill ks z=some t→
   Nm nv s hs.it kill ks t∧∃g'',Good P own' W0 n (merge nv dr kill (NM s hs.it MK) ks t).st g'' a' w':=by
  intro MK z t g' a' w' hz hE hM hp;obtain⟨p1,p2,p3,p4⟩:=vq hΓ (hbase MK) hz hE hM hp;exact⟨⟨p2,p3,p4⟩,p1⟩
 obtain⟨hn0,g0,hg0⟩:=YZ (MK:=.mapIter (some bm) N #[] N) Tk (λ_ _ _ _=>rfl) (λ_ _ _ _=>rfl) (ht0 _);obtain rfl:MX = #[oa,ob]:=Array.toList_inj.1 e0;obtain rfl:Me = #[oc,od]:=Array.toList_inj.1 e1;refine wp_seq (wp_region ?_)
 refine oF (o:=oa) (i:=0) (rest:=[1]) rfl a3 (v:=a.eval (.tmp hs.a)) (w':=w) (by simp[execOp,a2]) ?_
 have hmv:(a.put oa.dst (a.eval (.tmp hs.a))).eval (.tmp hs.b) = .map (some bm):=by
  rw[a1,nA (by rw[hg.OH];exact l1)]
  exact hval
 refine oF (o:=ob) (i:=1) (rest:=[]) rfl b3 (v:=.pointer (some ⟨bit,0,none⟩)) (w':=w1) ?_ ?_
 ·have hrr:=run_range_map (P:=P) w hs.ty mty.1 mty.2.1 bm ⟨es⟩ N hu k3;rw[hbit,hw1]at hrr;simp[execOp,b2,hmv,LC,hrr,Result.andThen]
 simp only[wpOps,Exit.then]
 refine wp_block (qX (λm a w=>∃(t:TLS F ks)(seen:List Nat),NR step l m seen t v∧seen.Nodup∧(∀x∈seen,x<N)∧m+seen.length=N∧Nm nv s hs.it kill ks t∧
   ∃g',Good P own' W0 n (merge nv dr kill (NM s hs.it (.mapIter (some bm) N ⟨seen⟩ N)) ks t).st g' a w) ?_ (k:=N) ?_)
 rotate_left
 ·refine⟨t0,[],by rw[k4];exact anE,Zt,by simp,by simp,hn0,g0,ES hg0 ?_ ?_ ?_⟩
  ·rw[a1,b1];exact hg.Po
  ·rw[a1,b1];simp[Act.put,hg.OH]
  ·intro x d hx;rw[a1,b1,← haB,Ro,Ro,Ro]
   have hxb:hs.b≠x:=by
    rintro rfl;have hx:look (merge nv dr kill (NM s hs.it (.mapIter (some bm) N #[] N)) ks t0).E hs.b=some d:=hx
    rw[hn0.VU _ (Y1 _ (by simp)),hdrop _ (by simp)]at hx
    cases hx
   rw[if_neg hxb];simp[Act.put]
 intro m a w hI;obtain⟨t,seen,hr,hnd,hlt,hlen,hnm,g',hg'⟩:=hI
 have hM1:look (merge nv dr kill (NM s hs.it (.mapIter (some bm) N ⟨seen⟩ N)) ks t).M s.c=some (.it (.mapIter (some bm) N ⟨seen⟩ N)):=by
  rw[hnm.TU _ (by omega) c3n]
  simp[NM,ar]
 have hM2:look (merge nv dr kill (NM s hs.it (.mapIter (some bm) N ⟨seen⟩ N)) ks t).M mid=some (.mp tt l):=by
  rw[hnm.TU _ (by omega) c2n]
  simp only[NM,ar]
  rw[aj (by omega)]
  simpa using hmid
 have hE1:look (merge nv dr kill (NM s hs.it (.mapIter (some bm) N ⟨seen⟩ N)) ks t).E hs.it=some (.c (.ptr s.c 0)):=by rw[hnm.VU _ aae,if_pos,ar,bc,if_pos rfl];rw[MV.mpr c4,c5];rfl
 have Rs:=hg'.NU _ _ anJ;have anU:=hg'.NU _ _ anK;obtain⟨bb,hb1,hh⟩:=hg'.mem.ok s.c _ hM1;rw[Rs]at hb1;cases hb1;obtain⟨bm2,_,j2,es2,j3,j4,j5⟩:=pX hg'.mem hM2;rw[anU]at j2;cases j2
 have Z6:a.eval (.tmp hs.it) = .pointer (some ⟨bit,0,none⟩):=by obtain⟨b',c',e1,e2⟩:=bo (hg'.env _ _ hE1);rw[Rs]at e1;cases e1;exact e2
 have an2:es2.length=N:=by omega
 have hborn:∀(k:Nat)(e:MapEntry),es2[k]? = some e→e.born=k∧k<N:=by
  intro k e hke;have hk2:k<es2.length:=(IS.1 hke).1
  have hk3:k<l.length:=by omega
  exact⟨(j5 k _ e (IR hk3) hke).1,by omega⟩
 have hold:∀x∈(⟨es2⟩:Array MapEntry).toList,x.born<N:=by intro x hx;obtain⟨k,hk2⟩:=RD hx;obtain⟨p1,p2⟩:=hborn k x hk2;omega
 have hbn:es2.map (·.born)=List.range N:=by
  apply Zw;intro k;rw[MN];by_cases hkN:k<N
  ·rw[IR (by omega),IR (by simpa using hkN)]
   simp only[SN,List.getElem_range]
   rw[(hborn k _ (IR (by omega))).1]
  ·rw[QdF (by omega),QdF (by simp;omega)]
   rfl
 have hsz0:a.tmps.size=n:=hg'.OH;rcases run_next_at (P:=P) w oc.type bit bm N N ⟨seen⟩ ⟨es2⟩ es2.length hh j3 hold (Ku _)with⟨z1,z2⟩ | ⟨e,he,w2,hw2,hrun⟩
 ·refine wp_seq (wp_region ?_)
  refine oF (o:=oc) (i:=0) (rest:=[1]) rfl n3 (v:=.tuple #[.bool false]) (w':=w) (by simp[execOp,n2,Z6,LC,z2,Result.andThen]) ?_
  have hex:(a.put oc.dst (.tuple #[.bool false])).eval (.tmp hs.d1) = .tuple #[.bool false]:=by
   rw[n1,nA (by rw[hsz0];exact l3)]
  refine oF (o:=od) (i:=1) (rest:=[]) rfl x3 (v:=.bool false) (w':=w) (by simp[execOp,x2,hex,Instr.extract]) ?_
  simp only[wpOps,Exit.then]
  refine wp_seq (wp_cond_split (t:=false) ?_ (λe=>by cases e) (λ_=>wp_exit ?_))
  ·rw[x1,nA (by rw[n1];simpa[Act.put,hsz0]using l4)]
  simp only[Exit.then,Exit.inBlock,if_true]
  have hm0:m=0:=by
   have hsub:∀k∈List.range N,k∈seen:=by
    intro k hkN;rw[WO]at hkN
    have hk2:k<es2.length:=by omega
    have h0:leftOf ⟨es2⟩ ⟨seen⟩ = #[]:=QeJ z1;unfold leftOf at h0;rw[Array.filter_eq_empty_iff]at h0
    have:=h0 es2[k] (by simp)
    rw[(hborn k _ (IR hk2)).1]at this;simpa using this
   have:=r9 QfI hsub;simp at this;omega
  subst hm0;have htv:t=v:=hr;subst htv
  have P_:KI ((hs.it,.c .any)::s.E) ks t (s.c+1)=KI ((hs.it,.c (.ptr s.c 0))::s.E) ks t (s.c+1):=u6 (λy hy=>by
   rw[ar,ar,aj (λ(e:hs.it=y)=>aae (by rw[e];exact hy))];rfl)
  refine⟨0,_,g',rfl,hK,?_,?_⟩
  ·refine⟨?_,?_,?_,λx hx=>?_,λx hx=>?_⟩
   ·intro x hx hn;have hn:x∉dr++hs.it::s.dE:=hn;simp only[Mi,Li,not_or]at hn;show look ((KI ((hs.it,.c .any)::s.E) ks t (s.c+1)).1++((hs.it,.c .any)::s.E).filter λp=>Nat.blt p.1 nv&&!(Jp p.1 dr)) x=_;rw[P_,aY,hnm.e x (λh=>hn.1 (hk x h)),Tv,aI (λy=>Nat.blt y nv&&!(Jp y dr)),if_pos,ar,aj (λe=>hn.2.1 e.symm)]
    ·rfl
    ·rw[MV.mpr hx]
     cases hm:Jp x dr with
     | true=>exact absurd (aK.1 hm) hn.1
     | false=>rfl
   ·intro id hid hn;have hn:id∉kill++s.dM:=hn;simp only[Mi,not_or]at hn;show look ((KI ((hs.it,.c .any)::s.E) ks t (s.c+1)).2.1++s.M.filter λp=>!(Jp p.1 kill)) id=_;rw[P_,aY,sO (Nat.lt_succ_of_lt hid) hn.1 hnm.m,Tv,aI (λy=>!(Jp y kill)),if_pos]
    cases hm:Jp id kill with
    | true=>exact absurd (aK.1 hm) hn.1
    | false=>rfl
   ·show s.c≤(KI ((hs.it,.c .any)::s.E) ks t (s.c+1)).2.2;rw[P_];exact MJ (WL _) hnm.c
   ·show x∈dr++hs.it::s.dE;simp[hx]
   ·show x∈kill++s.dM;simp[hx]
  ·refine Ey (aau hg') ?_ ?_ ?_ ?_ ?_
   ·rw[n1,x1];exact hg'.Po
   ·rw[n1,x1];simp[Act.put,hsz0]
   ·intro x d hx;have hx:look ((KI ((hs.it,.c .any)::s.E) ks t (s.c+1)).1++((hs.it,.c .any)::s.E).filter λp=>Nat.blt p.1 nv&&!(Jp p.1 dr)) x=some d:=hx;rw[P_,aY,aI (λy=>Nat.blt y nv&&!(Jp y dr))]at hx;by_cases hxi:x=hs.it
    ·subst hxi
     rw[hnm.e _ aae,Tv,if_pos (by rw[MV.mpr c4,c5];rfl),ar,bc,if_pos rfl]at hx
     cases hx;exact .inl rfl
    ·right;rw[ar,aj (λe=>hxi e.symm)]at hx
     have hne:∀y∈[hs.b,hs.d1,c2],y≠x:=by
      rintro y hy rfl
      rw[hnm.e _ (Y1 _ hy),Tv,hdrop _ (by simp only[Li,Zv,or_false]at hy ⊢;rcases hy with h | h | h<;>simp[h])]at hx
      cases hx
     refine⟨?_,?_⟩
     ·show look ((KI ((hs.it,.c (.ptr s.c 0))::s.E) ks t (s.c+1)).1++((hs.it,.c (.ptr s.c 0))::s.E).filter λp=>Nat.blt p.1 nv&&!(Jp p.1 dr)) x=some d;rw[aY,aI (λy=>Nat.blt y nv&&!(Jp y dr)),ar,aj (λe=>hxi e.symm)];exact hx
     ·rw[n1,x1,Ro,Ro,if_neg (hne c2 (by simp)),if_neg (hne hs.d1 (by simp))]
   ·intro id B hB;have hB:look ((KI ((hs.it,.c .any)::s.E) ks t (s.c+1)).2.1++s.M.filter λp=>!(Jp p.1 kill)) id=some B:=hB;show look ((KI ((hs.it,.c (.ptr s.c 0))::s.E) ks t (s.c+1)).2.1++((s.c,.it (.mapIter (some bm) N ⟨seen⟩ N))::s.M).filter λp=>!(Jp p.1 kill)) id=some B;rw[P_,aY,aI (λy=>!(Jp y kill))]at hB;rw[aY,aI (λy=>!(Jp y kill)),ar];by_cases hic:id=s.c
    ·subst hic;rw[sO (QfJ _) c3n hnm.m,Tv]at hB;split at hB
     ·exact absurd hfr (hg.mem.ok _ B hB).named
     ·cases hB
    ·rw[aj (λe=>hic e.symm)];exact hB
   ·intro id hid;have hid:Nat.blt id (KI ((hs.it,.c .any)::s.E) ks t (s.c+1)).2.2=false:=hid;rw[P_]at hid;exact hid
 ·have he':e∈es2∧e.born∉seen:=by
   unfold leftOf at he;simpa using he
  obtain⟨k,hke⟩:=RD he'.1;obtain⟨hbk,hkN⟩:=hborn k e hke;have hkn:k∉seen:=hbk▸he'.2
  have hkl:k<l.length:=by omega
  cases m with
  | zero=>
   have:=E8 (N:=N) (l:=k::seen) (Pv.2 ⟨hkn,hnd⟩) (λx hx=>by
    rcases Li.1 hx with rfl | hx
    ·exact hkN
    ·exact hlt x hx)
   simp at this;omega
  | succ m=>
   obtain⟨t',hs1,hs2⟩:=hr k l[k] hkn (IR hkl);obtain⟨_,kd0,abJ,r1,r2,r3⟩:=j5 k l[k] e (IR hkl) hke
   have Zo:Obj.mapIter (some bm) N ((⟨seen⟩:Array Nat).push e.born) es2.length = .mapIter (some bm) N ⟨seen++[k]⟩ N:=by rw[hbk,an2];simp
   rw[Zo]at hrun;generalize ab_:Obj.mapIter (some bm) N ⟨seen++[k]⟩ N=MK at hrun;have h1:=hs1 MK;rw[hstep]at h1;simp only[r1]at h1;split at h1
   ·rename_i kd _ d hkd hd;cases hkd
    have ZY:Good P own' W0 n (merge nv dr kill (NM s hs.it (.mapIter (some bm) N ⟨seen⟩ N)) ks t).st g' a w2:=by
     rcases hw2 with rfl | rfl
     ·exact hg'
     ·exact ru hg'
    have hheap:w2.heap=w.heap:=by rcases hw2 with rfl | rfl<;>rfl
    have hg3:Good P own' W0 n (merge nv dr kill (NM s hs.it MK) ks t).st g' a (NK w2 bit MK):=by
     refine wV ZY (id:=s.c) hM1 Rs rfl rfl ?_;intro x B hx;by_cases hxc:x=s.c
     ·subst hxc;rw[if_pos rfl];have hx:look (merge nv dr kill (NM s hs.it MK) ks t).M s.c=some B:=hx
      rw[hnm.TU _ (by omega) c3n]at hx
      simpa[NM,ar]using hx.symm
     ·rw[if_neg hxc];have hx:look ((KI ((hs.it,.c (.ptr s.c 0))::s.E) ks t (s.c+1)).2.1++((s.c,.it MK)::s.M).filter λp=>!(Jp p.1 kill)) x=some B:=hx;show look ((KI ((hs.it,.c (.ptr s.c 0))::s.E) ks t (s.c+1)).2.1++((s.c,.it (.mapIter (some bm) N ⟨seen⟩ N))::s.M).filter λp=>!(Jp p.1 kill)) x=some B;rw[aY,aI (λy=>!(Jp y kill)),ar,aj (λe=>hxc e.symm)]at hx ⊢;exact hx
    have hne:bm≠bit:=by rintro rfl;rw[hh]at j3;cases j3
    have an_:(NK w2 bit MK).heap[bm]? = some (.map ⟨es2⟩ es2.length):=by rw[se _ _ _ hne,hheap];exact j3
    have ajj:(NK w2 bit MK).heap[bit]? = some MK:=by refine ym _ _ _ ?_;rw[hheap];exact(PY.1 hh).1
    have hrep:Jr P g' (NK w2 bit MK) d e.val:=by
     have:=ui (P:=P) (g:=g') (w:=w) hd r1 r3
     have hle:Le g' w g' (NK w2 bit MK):=by
      obtain⟨_,kk⟩:=qo (ob:=MK) (B':=.it MK) ZY.mem hM1 rfl (G.Kn Rs) (λhh _=>⟨bit,Rs,hh⟩)
      exact⟨kk.le.ids,kk.le.IV,λb hb=>(kk.le.heap b hb).trans (by rw[hheap]),kk.le.len,λb hb=>(kk.le.T_ b hb).trans (by rw[hheap])⟩
     exact this.le hle
    have hrk:Jm (NK w2 bit MK) g'.IV kd0 e.key:=by
     obtain⟨_,kk⟩:=qo (ob:=MK) (B':=.it MK) ZY.mem hM1 rfl (G.Kn Rs) (λhh _=>⟨bit,Rs,hh⟩)
     exact r2.mono (λ_ h=>h) (λb hb=>(kk.le.heap b hb).trans (by rw[hheap]))
    have hr3:Jr P g' (NK w2 bit MK) (.MC [.c (.im (.b true)),.c (.im kd0),d]) (.tuple #[.bool true,e.key,e.val]):=by
     refine .MC rfl λj0 d0 x0 a0 b0=>?_
     match j0 with
     | 0=>cases a0;cases b0;exact .c (.im (.b _))
     | 1=>cases a0;cases b0;exact .c (.im hrk)
     | 2=>cases a0;cases b0;exact hrep
     | j0+3=>simp at a0
    have hr2:Jr P g' (NK w2 bit MK) (.MC [.c (.im kd0),d]) (.tuple #[e.key,e.val]):=by
     refine .MC rfl λj0 d0 x0 a0 b0=>?_
     match j0 with
     | 0=>cases a0;cases b0;exact .c (.im hrk)
     | 1=>cases a0;cases b0;exact hrep
     | j0+2=>simp at a0
    have hg4:=zh hg3 l3 hr3 [] [];have hg5:=zh hg4 l4 (v:=.c (.im (.b true))) (x:=.bool true) (.c (.im (.b _))) [] [];have hg6:=zh hg5 l5 hr2 [] [];refine wp_seq (wp_region ?_)
    refine oF (o:=oc) (i:=0) (rest:=[1]) rfl n3 (v:=.tuple #[.bool true,e.key,e.val]) (w':=NK w2 bit MK) (by simp[execOp,n2,Z6,LC,hrun,Result.andThen];rfl) ?_
    have hex:(a.put oc.dst (.tuple #[.bool true,e.key,e.val])).eval (.tmp hs.d1) = .tuple #[.bool true,e.key,e.val]:=by
     rw[n1,nA (by rw[hsz0];exact l3)]
    refine oF (o:=od) (i:=1) (rest:=[]) rfl x3 (v:=.bool true) (w':=NK w2 bit MK) (by simp[execOp,x2,hex,Instr.extract]) ?_
    simp only[wpOps,Exit.then]
    refine wp_seq (wp_cond_split (t:=true) ?_ (λ_=>wp_skip ?_) (λe=>by cases e))
    ·rw[x1,nA (by rw[n1];simpa[Act.put,hsz0]using l4)]
    simp only[Exit.then];obtain⟨z,tr,h2,t1,t2,t3,t4,t5⟩:=nF hT hΓ h1;obtain⟨E',h3,h4⟩:=jM h2
    have hsz:Nn.size=tr.length+1:=by rw[← SF,e2,← t1];simp
    refine wp_block (wp_seq (wp_region ?_));rw[hsz,QdZ,List.range'_succ]
    have anR:((a.put oc.dst (.tuple #[.bool true,e.key,e.val])).put od.dst (.bool true)).eval (.tmp hs.it) = .pointer (some ⟨bit,0,none⟩):=by rw[n1,x1];show(Array.getD _ _ _)=_;rw[Ro,Ro,if_neg (λe=>m3 e.symm),if_neg (λe=>m2 e.symm)];exact Z6
    refine oF (o:=oe) (i:=0) (rest:=List.range' (0+1) tr.length) (by rw[← Zz,e2];rfl) y3 (v:=.tuple #[e.key,e.val]) (w':=NK w2 bit MK) ?_ ?_
    ·have:=run_entry_at (P:=P) (NK w2 bit MK) bit bm N ⟨seen⟩ ⟨es2⟩ es2.length e (by rw[ajj,← ab_,← Zo]) an_ (by simpa using he'.1) (by rw[hbn];exact QfI)
     simp[execOp,y2,anR,LC,this,Result.andThen]
    rw[n1,x1,y1];refine mf (Kq:=Nn) rfl tr (0+1) _ z.st (λj0=>?_) t2 t3 hg6 ?_
    ·rw[← Zz,e2,← MN,t1,LY,XB,WW]
    intro g5 a5 w5 an0;simp only[Exit.then];refine wp_mono (hf own' _ _ t' h3 g5 a5 w5 (an0.sub ?_ (λ_ _ h=>h) (λ_ h=>h))) ?_
    ·intro x d0 hx;simp only[TS.st]at hx ⊢;rw[h4]at hx;split at hx
     ·exact hx
     ·cases hx
    rintro ee a6 w6 ⟨i',s',g6,rfl,h5,h6,h7⟩;obtain⟨hcond,h5⟩:=aL h5
    have hne2:∀{x:Nat},x<nv→x∉dr→∀y∈[hs.b,hs.d1,c2,hs.d3],y≠x:=by rintro x hx hxd y hy rfl;have:=hdrop _ hy;rw[MV.mpr hx]at this;simp only[Bool.true_and,Bool.not_eq_false']at this;exact hxd (aK.1 this)
    have hnext:∃m',m'<m+1∧∃(t:TLS F ks)(seen:List Nat),NR step l m' seen t v∧seen.Nodup∧(∀x∈seen,x<N)∧m'+seen.length=N∧Nm nv s hs.it kill ks t∧
      ∃g',Good P own' W0 n (merge nv dr kill (NM s hs.it (.mapIter (some bm) N ⟨seen⟩ N)) ks t).st g' a6 w6:=by
     have hEE:∀x,x<nv→x∉dr→x∉s'.dE→look s'.E x=look ((hs.it,.c (.ptr s.c 0))::s.E) x:=by
      intro x hx hxd hn;have q1:=h6.e x hx hn;have q2:=t5.e x hx (λhh=>hn (h6.dE x hh));rw[q1];show look E' x=_
      rw[h4,if_pos (by simp[Jp,MV.mpr hx]),q2]
      have hy:=hne2 hx hxd;simp only[xE,ar]
      rw[aj (hy _ (by simp)),aj (hy _ (by simp)),aj (hy _ (by simp))]
      simp only[Nb,if_false];rw[hnm.VU _ (λh=>hxd (hk x h)),if_pos]
      ·rw[ar]
      ·rw[MV.mpr hx]
       cases hm:Jp x dr with
       | true=>exact absurd (aK.1 hm) hxd
       | false=>rfl
     have hMM:∀id,id<s.c+1→id∉kill→id∉s'.dM→look s'.M id=look (NM s hs.it MK).M id:=by intro id hid hik hn;have hcm:s.c+1≤(xE nv s dr kill ks hs c2 MK t kd0 d).c:=hnm.c;have q1:=h6.m id (OZ hid (MJ hcm t5.c)) hn;have q2:=t5.m id (OZ hid hcm) (λhh=>hn (h6.dM id hh));rw[q1];show look z.M id=_;rw[q2];exact hnm.TU (dr:=dr) _ hid hik
     obtain⟨o1,g7,o2⟩:=YZ (MK:=MK) h7 hEE hMM h5
     ·refine⟨m,QfJ m,t',seen++[k],hs2,?_,?_,?_,o1,g7,by rw[ab_];exact o2⟩
      ·rw[Wz]
       exact⟨hnd,by simp,λx hx y hy=>by rw[IU]at hy;subst hy;exactλe=>hkn (e▸hx)⟩
      ·intro x hx;rcases Mi.1 hx with hx | hx
       ·exact hlt x hx
       ·rw[IU]at hx;subst hx;exact hkN
      ·simp;omega
    rcases(Pt _ _).mp hcond with hc0 | hc0
    ·have:=M5 hc0;subst this;exact hnext
    ·have:=M5 hc0;subst this;simp only[exC,Exit.then,Exit.inBlock,if_true];exact hnext
   ·cases h1
theorem BA{c:Code}{q:RgC}(h:yD c=some q):∃id0 id1 id2,c = .seq (.region id0 q.MX false) (.block q.i (.loop (.seq (.region id1 q.Me false) (.seq (.cond (.tmp q.c2) .skip (.exit q.i')) (.block q.j (.seq (.region id2 q.Nn false) q.body)))))):=by
 unfold yD at h;split at h
 ·cases h;exact⟨_,_,_,rfl⟩
 ·cases h
theorem Ee(hT:Js P T)(hΓ : Kr P Γ)(KX:P.follows .mixedOrders=true):∀(h:Hint),(∀(own:Ow)(c:Code),aX P own W0 n nv c (KJ T Γ nv n h c))∧(h.isL=true→∀(own:Ow)(x:Code),zr P own W0 n nv x (KJ T Γ nv n h (.loop x))):=by
 intro h
 induction h with
 | z=>
  refine⟨?_,λh=>by cases h⟩
  intro own c s R K r hr;exact LQ hT hΓ KX c s K r (by simp only[KJ]at hr;exact hr)
 | r kp=>
  refine⟨?_,λh=>by cases h⟩
  intro own c s R K r hr
  cases c with
  | region id ops draw=>exact Ck (wv (id:=id) (kp:=kp) hT (rY hΓ) KX) kp s K r (by simp only[KJ]at hr;exact hr)
  | _=>simp[KJ]at hr
 | s h k ih ik=>
  refine⟨?_,λh=>by cases h⟩
  intro own c s R K r hr
  cases c with
  | seq x y=>exact B9 (ih.1 own x) (ik.1 own y) s K r (by simp only[KJ]at hr;exact hr)
  | _=>simp[KJ]at hr
 | c h k ih ik=>
  refine⟨?_,λh=>by cases h⟩
  intro own c s R K r hr
  cases c with
  | cond t x y=>
   cases t with
   | tmp t=>exact Ae (ih.1 own x) (ik.1 own y) s K r (by simp only[KJ]at hr;exact hr)
   | const v=>cases v with
    | bool b=>exact xW (ih.1 own x) (ik.1 own y) s K r (by simp only[KJ]at hr;exact hr)
    | _=>simp[KJ]at hr
   | _=>simp[KJ]at hr
  | _=>simp[KJ]at hr
 | b h ih=>
  refine⟨?_,λh=>by cases h⟩
  intro own c s R K r hr
  cases c with
  | block i x=>exact yo (ih.1 own x) s K r (by simp only[KJ]at hr;exact hr)
  | scope x=>exact yd (ih.1 own x) s K r (by simp only[KJ]at hr;exact hr)
  | _=>simp[KJ]at hr
 | l ks dr xs h ih=>
  refine⟨?_,λ_ own x s R K r hr=>zC (dr:=dr++keysOf ks++MR xs) (ks:=ks) (xs:=xs) hΓ (ih.1 own x) (λy hy=>by simp[hy]) (λy hy=>by simp[hy]) s K r (by simp only[KJ]at hr;exact hr)⟩
  intro own c s R K r hr
  cases c with
  | loop x=>exact Gg (dr:=dr++keysOf ks++MR xs) (ks:=ks) (xs:=xs) hΓ (ih.1 own x) (λy hy=>by simp[hy]) (λy hy=>by simp[hy]) s K r (by simp only[KJ]at hr;exact hr)
  | _=>simp[KJ]at hr
 | p h k ih ik=>
  refine⟨?_,λh=>by cases h⟩
  intro own c s R K r hr
  cases c with
  | loop x=>
   simp only[KJ]at hr
   cases hk:k.isL with
   | false=>rw[hk]at hr;cases hr
   | true=>rw[hk]at hr;exact G_ (ih.1 own x) (ik.2 hk own x) s K r hr
  | _=>simp[KJ]at hr
 | u k h ih=>
  refine⟨?_,λh=>by cases h⟩
  intro own c s R K r hr
  cases c with
  | loop x=>exact IB (ih.1 own x) k s K r (by simp only[KJ]at hr;exact hr)
  | _=>simp[KJ]at hr
 | j dr xs h ih=>
  refine⟨?_,λh=>by cases h⟩
  intro own c s R K r hr
  exact G7 (dr:=dr++MR xs) (xs:=xs) hΓ (ih.1 own c) (λy hy=>by simp[hy]) s K r (by simp only[KJ]at hr;exact hr)
 | m x ix ex dr h ih=>
  refine⟨?_,λh=>by cases h⟩
  intro own c s R K r hr
  cases c with
  | loop y=>exact Fi (x:=x) (ix:=ix) (ex:=ex) (dr:=dr) (ih.1 own y) s K r (by simp only[KJ]at hr;exact hr)
  | _=>simp[KJ]at hr
 | g ks dr h ih=>
  refine⟨?_,λh=>by cases h⟩
  intro own c s R K r hr;simp only[KJ]at hr;split at hr
  ·cases hr
  rename_i q hq;obtain⟨id0,id1,id2,rfl⟩:=BA hq;obtain⟨hi,hr⟩:=aL hr;have:=M5 hi;rw[this]
  exact DX (dr:=dr++keysOf ks) hT hΓ (λown'=>ih.1 own' _) (λy hy=>by simp[hy]) s K r hr
theorem Gq(hT:Js P T)(hΓ : Kr P Γ)(KX:P.follows .mixedOrders=true)(h:Hint)(c:Code):aX P own W0 n nv c (KJ T Γ nv n h c):=(Ee hT hΓ KX h).1 own c
end
set_option linter.unusedVariables false
set_option linter.unusedSimpArgs false
section
variable{F:Fam}{P:Program}{T:TypeId→Option (TI F)}{Γ : Ctx F}{nv n:Nat}{own:Ow}{W0:World}{g:G}{a:Act}{w:World}{m mm:Nat→Option (Jw F)}
def qk(tmps:Array Value):ResultVar→Sem Value
 | .tmp t=>Pure.pure (tmps.getD t undef)
 | .cell a t=>do loadVar t (← asAddr (tmps.getD a undef))
theorem Hw(hT:Js P T){s:TS F}(hg:Good P own W0 n s.st g a w){r:ResultVar}{d:Dat F}(h:ZK T s r=some d) :
  ∃v,(qk a.tmps r).run P w = .ok v w∧Jr P g w d v:=by
 cases r with
 | tmp t=>exact⟨_,rfl,hg.env t d h⟩
 | cell x ty=>
  simp only[ZK]at h;split at h
  ·cases h
  ·rename_i ti hty;split at h
   ·rename_i id off hx;split at h
    ·rename_i cs Mw;obtain⟨b,c,hi,e⟩:=bo (hg.env x _ hx);obtain⟨v,hrun,hrep⟩:=cF (P:=P) (g:=g) (w:=w) hT hty h (b:=b) (q:=0) (xi hg.mem Mw hi);rw[LY]at hrun;refine⟨v,?_,hrep⟩;simp only[qk,e,asAddr,LC,MI,LV,hrun]
    ·cases h
   ·cases h
theorem uc(hT:Js P T){s:TS F}(hg:Good P own W0 n s.st g a w):∀{rs:List ResultVar}{ds:List (Dat F)} (_:R7 T s rs=some ds),
  ∃vs:List Value,(rs.mapM (qk a.tmps)).run P w = .ok vs w∧Kl P g w ds vs
 | [],ds,h=>by
  simp only[R7,KV]at h;subst h
  exact⟨[],by simp,rfl,by simp⟩
 | r::rs,ds,h=>by
  simp only[R7]at h;split at h
  ·cases h
  ·rename_i d hd;split at h
   ·cases h
   ·rename_i l hl;cases h;obtain⟨v,hv,hr⟩:=Hw hT hg hd;obtain⟨vs,hvs,hrs⟩:=uc hT hg hl
    exact⟨v::vs,by simp only[List.mapM_cons,LC,hv,LV,hvs,MI],aP.2 ⟨hr,hrs⟩⟩
theorem kZ{os os':List (Option Nat)}:Ht ((os++os').map (J7 g))=Ht (os.map (J7 g))++Ht (os'.map (J7 g)):=by rw[SL,av]
theorem rA(hΓ : Kr P Γ)(hm:Je own g w m)(hle:M6 mm m):∀{ks:List Kd}{ds:List (Dat F)} {bx:List Nat} {p:Pk (TL F ks)},bY Γ mm ks ds bx=some p→∀{IV:Nat→Prop},O6 g p.fz IV→∀{vs:List Value}{Jo:List Pl},Kl P g w ds vs→
  bx.map g.ids=Jo.map some→(ks.filter Kd.KO).length=bx.length→
  ∃Ja,bF P w IV ks p.x vs Jo Ja∧(Ht (p.os.map (J7 g))).Perm (Ht Jo++Ht Ja)∧NH mm p.fz∧(∀id,some id∈p.os→∃B,mm id=some B∧B.owned=true):=by
 have one:∀{k:Kd}{d:Dat F}{p:Pk (k.El F)},Nl Γ mm k d=some p→k.KO=false→∀{IV:Nat→Prop},O6 g p.fz IV→∀{v:Value},Jr P g w d v→
   Held P w IV k p.x v (p.os.map (J7 g)) []∧NH mm p.fz∧(∀id,some id∈p.os→∃B,mm id=some B∧B.owned=true):=by
  intro k d p h hb IV hi v hr;obtain⟨Jo,h1,h2,h3,h4,h5⟩:=qv hΓ hm hle h hi hr
  have:Jo = []:=by
   cases k with
   | box=>cases hb
   | v t ow=>exact h1.2
   | rp t=>exact h1.2.1
   | fn ks r=>exact h1.2.1
   | OU t=>exact h1.2.1
   | pk k t=>exact h1.2.1
   | ln t=>exact h1.2.1
   | nb t ow=>obtain⟨_,_,h,_⟩:=h1;exact h
   | cl f n=>exact h1.elim
   | row t arr=>cases hb
  subst this;exact⟨h1,h3,h4⟩
 have box:∀{t:Ty}{ow:List Nat}{b:Nat}{p:Pk (ET F t)},jC mm t ow (.c (.ptr b 0))=some p→∀{IV:Nat→Prop},O6 g p.fz IV→∀{q':Pl},g.ids b=some q'→
   ∃(q:Nat×Nat×Nat)(Ja:List Pl),q'=some (RI q)∧Ph w IV t ow p.x q.1 Ja∧Ht (p.os.map (J7 g))=q.1::Ht Ja∧NH mm p.fz∧(∀id,some id∈p.os→∃B,mm id=some B∧B.owned=true):=by
  intro t ow b p h IV hi q' hq'
  obtain⟨q,hq⟩:∃q,g.ids b=some (some q):=by
   simp only[jC]at h;split at h
   ·rename_i cs Mw;obtain⟨b',c',arr,e,k1,_⟩:=hm.ok b _ (hle _ _ Mw);exact⟨_,k1⟩
   ·cases h
  rw[hq]at hq';cases hq';obtain⟨id,bx,os,h1,h2,h3,h4,h5,h6,h7,h8⟩:=kG hm hle h hi (P:=P) (v:=.pointer (some ⟨q.1,0,none⟩)) (.c (.ptr hq));cases h3;rw[hq]at h4;cases h4;refine⟨bx,os.map (J7 g),rfl,h6,?_,NH.MB h7,h8⟩;rw[h1];simp[J7,hq,Ht,Km]
 intro ks
 induction ks with
 | nil=>
  intro ds bx p h IV hi vs Jo hr hb hc
  cases ds with
  | cons d ds=>cases bx<;>simp[bY]at h
  | nil=>
   cases bx with
   | cons b bx=>simp[bY]at h
   | nil=>
    simp only[bY,KV]at h;subst h;have h1:=eh hr
    have h2:Jo = []:=by simpa using hb.symm
    subst h1 h2
    exact⟨[],⟨rfl,rfl,rfl⟩,by simp[Ht],λid hid=>by simp at hid,by simp⟩
 | cons k ks ih=>
  intro ds bx p h IV hi vs Jo hr hb hc
  cases hkb:k.KO with
  | true=>
   cases k with
   | v=>cases hkb
   | rp=>cases hkb
   | fn=>cases hkb
   | OU=>cases hkb
   | pk=>cases hkb
   | ln=>cases hkb
   | nb=>cases hkb
   | cl=>cases hkb
   | row t arr=>
    cases bx with
    | nil=>simp[WS,Kd.KO]at hc
    | cons b bx=>
     obtain⟨q,Np,rfl,hq,hb'⟩:=gK hb.symm
     have row:∀{p:Pk (List (ET F t))},pO mm t b=some p→LM w IV t p.x q∧p.os = [some b]∧NH mm p.fz∧(∀id,some id∈p.os→∃B,mm id=some B∧B.owned=true):=by
      intro p hp;obtain⟨h1,h2,h3,h4,l,h5⟩:=tF hm hle hp
      have e:J7 g (some b)=q:=by simp[J7,← hq]
      rw[e]at h4
      refine⟨h4.le hi.IV,h1,λid hid=>by rw[h3]at hid;simp at hid,?_⟩
      intro id hid;rw[h1]at hid;simp only[IU,KV]at hid;subst hid;exact⟨_,h5,fw⟩
     have e1:Ht [J7 g (some b)]=Ht [q]:=by simp[J7,← hq]
     cases ks with
     | nil=>
      have hbx:bx = []:=by apply O1;simpa[WS,Kd.KO]using hc.symm
      subst hbx
      have:Np = []:=by simpa using hb'
      subst this
      cases ds with
      | cons d ds=>simp[bY]at h
      | nil=>
       simp only[bY]at h;obtain⟨h1,h2,h3,h4⟩:=row h;have hv:=eh hr;subst hv
       exact⟨[],⟨q,rfl,rfl,h1,rfl⟩,by rw[h2];simp only[KZ,Lx];rw[e1];simp[Ht],h3,h4⟩
     | cons l ks=>
      simp only[bY]at h;split at h
      ·cases h
      ·rename_i p1 hp1;split at h
       ·cases h
       ·rename_i p2 hp2;cases h;obtain⟨h1,h2,h3,h4⟩:=row hp1
        obtain⟨J9,k1,k2,k3,k4⟩:=ih hp2 (hi.sub (λid hid=>by simp[hid])) hr hb'.symm (by simpa[WS,Kd.KO]using hc)
        refine⟨J9,⟨q,Np,rfl,h1,k1⟩,?_,h3.append k3,?_⟩
        ·show(Ht ((p1.os++p2.os).map (J7 g))).Perm _;rw[kZ,h2];simp only[KZ,Lx]
         rw[e1,show(q::Np) = [q]++Np from rfl,av,MF]
         exact QdX _ k2
        ·intro id hid;rcases Mi.1 hid with hid | hid
         ·exact h4 id hid
         ·exact k4 id hid
   | box t ow=>
    cases bx with
    | nil=>simp[WS,Kd.KO]at hc
    | cons b bx=>
     obtain⟨q,Np,rfl,hq,hb'⟩:=gK hb.symm
     cases ks with
     | nil=>
      have hbx:bx = []:=by apply O1;simpa[WS,Kd.KO]using hc.symm
      subst hbx
      have:Np = []:=by simpa using hb'
      subst this
      cases ds with
      | cons d ds=>simp[bY]at h
      | nil=>
       simp only[bY]at h;obtain⟨q,Ja,rfl,h1,h2,h3,h4⟩:=box h hi hq.symm;have hv:=eh hr;subst hv
       exact⟨Ja,⟨q,rfl,rfl,h1⟩,by rw[h2];exact .refl _,h3,h4⟩
     | cons l ks=>
      simp only[bY]at h;split at h
      ·cases h
      ·rename_i p1 hp1;split at h
       ·cases h
       ·rename_i p2 hp2;cases h
        obtain⟨q,Ja,rfl,h1,h2,h3,h4⟩:=box hp1 (hi.sub (λid hid=>by simp[hid])) hq.symm
        obtain⟨J9,k1,k2,k3,k4⟩:=ih hp2 (hi.sub (λid hid=>by simp[hid])) hr hb'.symm (by simpa[WS,Kd.KO]using hc)
        refine⟨Ja++J9,⟨q,Np,Ja,J9,rfl,rfl,h1,k1⟩,?_,h3.append k3,?_⟩
        ·show(Ht ((p1.os++p2.os).map (J7 g))).Perm _;rw[kZ,h2,av];show(q.1::Ht Ja++_).Perm (q.1::Ht Np++_);rw[SE,SE];refine List.Perm.cons _ ?_;refine(QdX _ k2).trans ?_;rw[← MF,← MF];exact QfF _ QcN
        ·intro id hid;rcases Mi.1 hid with hid | hid
         ·exact h4 id hid
         ·exact k4 id hid
  | false=>
   have hc':(ks.filter Kd.KO).length=bx.length:=by rw[List.filter_cons_of_neg (by simp[hkb])]at hc;exact hc
   cases ks with
   | nil=>
    have hbx:bx = []:=by apply O1;simpa using hc'.symm
    subst hbx
    have:Jo = []:=by simpa using hb.symm
    subst this
    match ds,h,hr with
    | [],h,hr=>cases k<;>first | (cases hkb;done) | simp[bY]at h
    | [d],h,hr=>
     have h':Nl Γ mm k d=some p:=by cases k<;>first | (cases hkb;done) | exact h
     obtain⟨v,vs',rfl,h1,h2⟩:=fk hr;have hv:=eh h2;subst hv;obtain⟨k1,k2,k3⟩:=one h' hkb hi h1
     refine⟨p.os.map (J7 g),?_,by simp[Ht],k2,k3⟩
     cases k<;>first | (cases hkb;done) | exact⟨v,rfl,rfl,k1⟩
    | d::e::ds,h,hr=>cases k<;>first | (cases hkb;done) | simp[bY]at h
   | cons l ks=>
    match ds,h,hr with
    | [],h,hr=>cases k<;>first | (cases hkb;done) | simp[bY]at h
    | d::ds,h,hr=>
     have h':(match Nl Γ mm k d with
      | none=>none
      | some p=>match bY Γ mm (l::ks) ds bx with
       | none=>none
       | some q=>some (⟨(p.x,q.x),p.os++q.os,p.fz++q.fz,p.bx++q.bx⟩:Pk (k.El F×TL F (l::ks))))=some p:=by cases k<;>first | (cases hkb;done) | exact h
     obtain⟨v,vs',rfl,h1,h2⟩:=fk hr;split at h'
     ·cases h'
     ·rename_i p1 hp1;split at h'
      ·cases h'
      ·rename_i p2 hp2;cases h'
       obtain⟨k1,k2,k3⟩:=one hp1 hkb (hi.sub (λid hid=>by simp[hid])) h1
       obtain⟨J9,l1,l2,l3,l4⟩:=ih hp2 (hi.sub (λid hid=>by simp[hid])) h2 hb hc'
       refine⟨p1.os.map (J7 g)++J9,?_,?_,k2.append l3,?_⟩
       ·cases k<;>first | (cases hkb;done) | exact⟨v,vs',_,J9,rfl,rfl,k1,l1⟩
       ·show(Ht ((p1.os++p2.os).map (J7 g))).Perm _;rw[kZ,av];refine(QdX _ l2).trans ?_;rw[← MF,← MF];exact QfF _ QcN
       ·intro id hid;rcases Mi.1 hid with hid | hid
        ·exact k3 id hid
        ·exact l4 id hid
theorem pA:∀(l:List (Dat F)) (k x:Nat) (d:Dat F),look (params k l) x=some d→∃j,x=k+j∧l[j]? = some d
 | [],k,x,d,h=>by simp[params,look]at h
 | y::l,k,x,d,h=>by
  simp only[params,ar]at h;split at h
  ·rename_i hb;have:=M5 hb;subst this;cases h;exact⟨0,rfl,rfl⟩
  ·obtain⟨j,h1,h2⟩:=pA l (k+1) x d h
   exact⟨j+1,by omega,by simpa using h2⟩
theorem bN:∀{ks:List Kd}{a:HL F ks}{c:Nat},(aN ks a c).length=(ks.filter Kd.KO).length
 | [],_,_=>rfl
 | .v t ow::ks,a,c=>by simp only[aN];rw[bN];rfl
 | .box t ow::ks,a,c=>by simp only[aN,Ri];rw[bN];rfl
 | .rp t::ks,a,c=>by simp only[aN];rw[bN];rfl
 | .fn k r::ks,a,c=>by simp only[aN];rw[bN];rfl
 | .OU t::ks,a,c=>by simp only[aN];rw[bN];rfl
 | .pk k0 t::ks,a,c=>by simp only[aN];rw[bN];rfl
 | .ln t::ks,a,c=>by simp only[aN];rw[bN];rfl
 | .nb t ow::ks,a,c=>by simp only[aN];rw[bN];rfl
 | .row t arr::ks,a,c=>by simp only[aN,Ri];rw[bN];rfl
 | .cl f n::ks,a,c=>by simp only[aN];rw[bN];rfl
theorem nf{IV:Nat→Prop}:∀{ks:List Kd}{a:HL F ks}{vs:List Value}{Ja:List Pl} {Jo:List Pl},bR P w IV ks a vs Ja Jo→vs.length≤ks.length
 | [],a,vs,Ja,Jo,h=>by rw[h.1];exact Ku _
 | k::ks,a,vs,Ja,Jo,h=>by
  cases hk:k.PE with
  | true=>
   cases k with
   | cl f n=>obtain⟨us,vs',rfl,hl,h2⟩:=h;have:=nf h2;simp only[IT]at this;simp only[Ri];omega
   | _=>cases hk
  | false=>
  obtain⟨v,vs',p1,p2,b1,b2,rfl,_,_,_,h2⟩:=lV hk h;simpa using nf h2
theorem lD{α : Type}{x:Nat}:∀{l:List (Nat×α)} {y:α},look l x=some y→(x,y)∈l
 | [],y,h=>by simp[look]at h
 | (z,b)::l,y,h=>by
  rw[ar]at h;split at h
  ·rename_i hb;have:=M5 hb;subst this;cases h;simp
  ·exact Pw _ (lD h)
theorem tM{fn:Func}{a:Act}{vs:List Value}(h:(fn.results.toList.mapM (qk a.tmps)).run P w = .ok vs w):(results fn a.tmps).run P w = .ok (Px vs) w:=by
 have hmap:(fn.results.mapM (qk a.tmps)).run P w = .ok ⟨vs⟩ w:=by rw[Array.mapM_eq_mapM_toList];simp[h]
 have hres:(results fn a.tmps).run P w = .ok (if h:(⟨vs⟩:Array Value).size=1 then(⟨vs⟩:Array Value)[0]else .tuple ⟨vs⟩) w:=by
  unfold results;rw[LC]
  have e:(λ(r:ResultVar)=>match r with | .tmp t=>(Pure.pure (a.tmps.getD t undef):Sem Value) | .cell x t=>do loadVar t (← asAddr (a.tmps.getD x undef)))=qk a.tmps:=by
   funext r
   cases r<;>rfl
  have e2:(fn.results.mapM (λ(r:ResultVar)=>match r with | .tmp t=>(Pure.pure (a.tmps.getD t undef):Sem Value) | .cell x t=>do loadVar t (← asAddr (a.tmps.getD x undef)))).run P w = .ok ⟨vs⟩ w:=by rw[e];exact hmap
  exact(congrArg (λr=>Result.andThen r _) e2)
 rw[hres]
 match vs with
 | [v]=>rfl
 | []=>rfl
 | v::x::vs=>
  rw[dif_neg]
  ·rfl
  ·simp
theorem n7{IV:Nat→Prop}:∀{ks:List Kd}{a:HL F ks}{vs:List Value}{Ja:List Pl} {Jo:List Pl},ks.all Kd.YT=true→bR P w IV ks a vs Ja Jo→Ja = []
 | [],a,vs,Ja,Jo,_,h=>h.2.1
 | k::ks,a,vs,Ja,Jo,hn,h=>by
  simp only[Tt,KQ]at hn
  have hk:k.PE=false:=by
   cases k with
   | cl f n=>cases hn.1
   | _=>rfl
  obtain⟨v,vs',p1,p2,b1,b2,rfl,rfl,rfl,h1,h2⟩:=lV hk h;rw[n7 hn.2 h2,XC]
  cases k with
  | v t ow=>cases ow with
   | nil=>exact h1.1.Lv
   | cons=>cases hn.1
  | box=>cases hn.1
  | row=>cases hn.1
  | rp=>exact h1.1
  | fn=>exact h1.1
  | OU=>exact h1.1
  | pk=>exact h1.1
  | ln=>exact h1.1
  | nb=>cases hn.1
  | cl=>cases hn.1
theorem sx{IV:Nat→Prop}:∀{ks:List Kd}{a:HL F ks}{vs:List Value}{Ja:List Pl} {Jo:List Pl},bR P w IV ks a vs Ja Jo→∃L:Nat→Prop,(∀b,L b→b<w.heap.size)∧(ks.all (λk=>!k.Us)=true→∀b,¬ L b)∧
  ∀{g:G},(∀b,L b→g.len b)→∀{ds:List (Dat F)},Kl P g w ds vs→Kl P g w (O_ ks a ds) vs
 | [],a,vs,Ja,Jo,h=>⟨λ_=>False,λ_ h=>h.elim,λ_ _ h=>h,λ_ _ h=>h⟩
 | k::ks,a,vs,Ja,Jo,h=>by
  cases hk:k.PE with
  | true=>
   cases k with
   | cl f n=>
    obtain⟨us,vs',rfl,hl,h2⟩:=h;obtain⟨L,l1,l2,l3⟩:=sx h2
    refine⟨L,l1,λhh=>l2 (by simpa[Kd.Us]using hh),λ{g} hg {ds} hr=>?_⟩
    match ds,hr with
    | [],hr=>exact hr
    | d::ds,hr=>exact hr
   | _=>cases hk
  | false=>
  obtain⟨v,vs',p1,p2,b1,b2,rfl,rfl,rfl,h1,h2⟩:=lV hk h;clear h;obtain⟨L,l1,l2,l3⟩:=sx h2
  have plain:k.Us=false→(∀(a:HL F (k::ks)) (d:Dat F) (ds:List (Dat F)),O_ (k::ks) a (d::ds)=d::O_ ks a.2 ds)→∃L:Nat→Prop,(∀b,L b→b<w.heap.size)∧((k::ks).all (λk=>!k.Us)=true→∀b,¬ L b)∧
    ∀{g:G},(∀b,L b→g.len b)→∀{ds:List (Dat F)},Kl P g w ds (v::vs')→Kl P g w (O_ (k::ks) a ds) (v::vs'):=by
   intro hk he
   refine⟨L,l1,λhh=>l2 (by simpa[hk]using hh),λ{g} hg {ds} hr=>?_⟩
   match ds,hr with
   | [],hr=>exact absurd hr.1 (by simp)
   | d::ds,hr=>rw[he];have:=aP.1 hr;exact aP.2 ⟨this.1,l3 hg this.2⟩
  cases k with
  | v=>exact plain rfl λ_ _ _=>rfl
  | box=>exact plain rfl λ_ _ _=>rfl
  | row=>exact plain rfl λ_ _ _=>rfl
  | rp=>exact plain rfl λ_ _ _=>rfl
  | fn=>exact plain rfl λ_ _ _=>rfl
  | OU=>exact plain rfl λ_ _ _=>rfl
  | pk=>exact plain rfl λ_ _ _=>rfl
  | nb=>exact plain rfl λ_ _ _=>rfl
  | cl=>cases hk
  | ln t=>
   obtain⟨_,_,I,i1,i2⟩:=h1
   refine⟨λb=>I b∨L b,λb hb=>hb.elim (i1 b) (l1 b),λhh=>by simp[Kd.Us]at hh,λ{g} hg {ds} hr=>?_⟩
   match ds,hr with
   | [],hr=>exact absurd hr.1 (by simp)
   | d::ds,hr=>
    have hrr:=aP.1 hr;refine aP.2 ⟨?_,l3 (λb hb=>hg b (.inr hb)) hrr.2⟩
    have cel:∀(d:ND F)(x:Value),Jm w I d x→Jz g w (if d.flat then .im d else .ln d) x:=by
     intro d x h;split
     ·rename_i hf;exact .im (h.flat hf)
     ·exact .ln (h.mono (λb hb=>.inr (hg b (.inl hb))) λ_ _=>rfl)
    have hrt:=oj i2;show Jr P g w (VW t a.1) v;unfold VW Sg;generalize Jc F t a.1=cs at hrt
    cases hs:t.K4 with
    | true=>
     rw[hs]at hrt
     cases hrt with
     | agg hl h=>
      rw[if_pos rfl]
      refine .agg (by rw[Ox];exact hl) λk c x a b=>?_
      rw[MN]at a;obtain⟨c0,h0,rfl⟩:=RF.1 a;exact cel c0 x (h k c0 x h0 b)
    | false=>
     rw[hs]at hrt
     cases hrt with
     | one h=>exact .c (cel _ _ h)
theorem GK (hT : Js P T) (hΓ : Kr P Γ) (KX : P.follows .mixedOrders = true) {f : FuncId} {fn : Func} {sp : Spec F} {h : Hint} (hf : P.funcs[f]? = some fn) (hnm : (fn.name == "runtime.NumGoroutine") = false) (hbn : fn.body.isNone = false) (hlen : Nat.ble sp.ks.length fn.ntmps = true)
  (hrs:sp.rs.all (λk=>!k.KO)=true) (hD:∀a r,sp.D a=some r→TA T Γ nv fn h sp.ks sp.rs a=some r):K9 P f sp:=by
 refine⟨?_,?_⟩
 ·exact⟨fn,hf,hnm,hbn⟩
 intro a r hr IV w vs Ja Jo KH hpl Kg;have hd:=hD a r hr;unfold TA at hd;split at hd
 ·cases hd
 ·rename_i body hbody;dsimp only at hd;obtain⟨Sj,hd⟩:=aL hd;obtain⟨L,l1,l2,l3⟩:=sx KH
  let g0:G:=⟨(G.RO 0 Ja IV).ids,IV,L⟩
  have aad:Mx g0 0 Ja:=λj pl hj=>u7 (I:=IV) (Ja:=Ja) (c:=0) j pl hj;obtain⟨h1,h2,h3,h4⟩:=qC (g:=g0) (c:=0) KH aad;have h1:=l3 (g:=g0) (λ_ h=>h) h1
  have TW:∀b,L b→¬ (b∈Ht Ja∨w.heap.size≤b)∧b<w.heap.size:=by
   intro b hb;refine⟨λho=>?_,l1 b hb⟩;rcases Pt _ _▸Sj with hs | hs
   ·exact l2 hs b hb
   ·rw[n7 hs KH]at ho;rcases ho with ho | ho
    ·simp[Ht]at ho
    ·exact absurd (l1 b hb) (Nat.not_lt.2 ho)
  simp only[LY]at h3;refine calls_of_wp hf hbody ?_
  let own:Ow:=⟨λb=>b∈Ht Ja∨w.heap.size≤b,IV,(G.RO 0 Ja IV).ids⟩
  have hvl:=nf KH;have hlen':sp.ks.length≤fn.ntmps:=PX hlen
  have hblk:∀{id:Nat}{B:Jw F}{b:Nat},look (K6 sp.ks a 0).2.1 id=some B→g0.blk id b→∃b0 q,Ja[id]? = some (some (b0,q))∧b∈b0::Km q.2.2:=by rintro id B b _ ⟨b0,q,hq,hbb⟩;simp only[g0,G.RO]at hq;rw[if_pos (U1 _),Qf_]at hq;exact⟨b0,q,hq,hbb⟩
  have hgood:Good P own w fn.ntmps (⟨params 0 (O_ sp.ks a (K6 sp.ks a 0).1),(K6 sp.ks a 0).2.1,(K6 sp.ks a 0).2.2,[],[]⟩:TS F).st g0 { tmps:=(⟨vs⟩:Array Value)++Array.replicate (fn.ntmps - (⟨vs⟩:Array Value).size) undef,defers:=[] } w:=by
   refine⟨rfl,?_,?_,⟨?_,?_,?_,Kg,λb hb=>.inl hb,TW⟩,?_,λ_ h=>h,⟨rfl,rfl,rfl,Ku _,λb hb=>.inr hb,λ_ _ _=>rfl,Ku _⟩,λ_ _ h=>h⟩
   ·simp[hvl];omega
   ·intro x d hx;obtain⟨j,rfl,hj⟩:=pA _ 0 x d hx
    have hlt:j<vs.length:=by rw[h1.1];exact(IS.1 hj).1
    have:((⟨vs⟩:Array Value)++Array.replicate (fn.ntmps - (⟨vs⟩:Array Value).size) undef).getD (0+j) undef=vs[j]:=by
     rw[LY,PZ,ZA (by simpa using hlt)]
     simp[hlt]
    rw[this];exact h1.2 j d _ hj (IR hlt)
   ·intro id B hB;obtain⟨j,_,_,_,q⟩:=h2 _ (lD hB);exact q
   ·intro id id' B B' b hB hB' _ _ hb hb';obtain⟨b0,q,hq,hx⟩:=hblk hB hb;obtain⟨b0',q',hq',hx'⟩:=hblk hB' hb';exact iI hpl.nodup hq hx hq' hx'
   ·intro id B b hB _ hb;obtain⟨b0,q,hq,hx⟩:=hblk hB hb;have:=bO.2 ⟨id,b0,q,hq,hx⟩;exact⟨.inl this,hpl.IV b this⟩
   ·intro id hid;simp only[TS.st,br,decide_eq_false_iff_not,h3]at hid;simp only[g0,G.RO]
    rw[if_pos (U1 _),Qf_,QdF (by omega)]
  refine wp_mono (Gq hT hΓ KX h body _ _ r hd _ _ _ hgood) ?_;rintro e a' w' ⟨k,s',g',rfl,k2,k3,k4⟩
  have key:bodyPost P fn (λe w'=>∃(MU:List Value)(Jg:Nat→Prop)(J9:List Pl),e = .returned (Px MU)∧
   w'.os=w.os∧w'.tape=w.tape∧w'.output=w.output∧w.drawn≤w'.drawn∧w.heap.size≤w'.heap.size∧(∀b,b<w.heap.size→b∉Ht Ja→w'.heap[b]? = w.heap[b]?)∧
   (∀b,IV b→Jg b)∧(∀b,Jg b→IV b∨b∈Ht Ja∨w.heap.size≤b)∧(∀b,Jg b→b<w'.heap.size)∧
   bF P w' Jg (outs sp) r MU Jo J9∧N8 w' Jg (Ht Jo++Ht J9)∧∀b∈Ht Jo++Ht J9,b∈Ht Ja∨w.heap.size≤b) .ret a' w'∧(k=0∨k=1):=by
   have hk:(k=0∨k=1)∧OB T Γ fn sp.ks sp.rs a s'=some r:=by
    match k,k2 with
    | 0,k2=>exact⟨.inl rfl,k2⟩
    | 1,k2=>exact⟨.inr rfl,k2⟩
    | k+2,k2=>cases k2
   refine⟨?_,hk.1⟩;have k2:=hk.2;unfold OB at k2;split at k2
   ·cases k2
   ·rename_i rd hrd;split at k2
    ·cases k2
    ·rename_i p hp;obtain⟨hc,k2⟩:=aL k2;simp only[KQ]at hc;cases k2;obtain⟨MU,q1,q2⟩:=uc hT k4 hrd
     have V_:(aN sp.ks a 0).map g'.ids=Jo.map some:=by rw[← h4];refine QdP λid hid=>?_;obtain⟨q,_,hq⟩:=i_ h4 hid;rw[hq];exact k4.NU id _ hq
     have hcnt:((sp.rs++sp.ks.filter Kd.KO).filter Kd.KO).length=(aN sp.ks a 0).length:=by
      rw[bN,Zx,List.filter_filter]
      have:sp.rs.filter Kd.KO = []:=by rw[QfG];intro k hk;have:=N9.1 hrs k hk;simpa using this
      rw[this];simp
     obtain⟨J9,p1,p2,p3,p4⟩:=rA hΓ k4.mem (λ_ _ h=>h) hp (IV:=(g'.Nj p.fz).IV) ⟨λ_ h=>.inl h,λid hid b hb=>.inr ⟨id,hid,hb⟩⟩ q2 V_ hcnt;have hfr:=freeze k4.mem (λ_ _ h=>h) p3
     have hL:∀b∈Ht Jo++Ht J9,∃id B,some id∈p.os∧look s'.M id=some B∧B.owned=true∧g'.blk id b:=by intro b hb;obtain⟨id,r1,r2⟩:=bC.1 (p2.mem_iff.2 hb);obtain⟨B,r3,r4⟩:=p4 id r1;exact⟨id,B,r1,r3,r4,r2⟩
     refine⟨k4.Po,Px MU,tM q1,MU,(g'.Nj p.fz).IV,J9,rfl,k4.K7.os,k4.K7.tape,k4.K7.output,k4.K7.drawn,k4.K7.size,?_,λb hb=>.inl (k4.OW b hb),?_,hfr.IV,p1,⟨?_,?_,?_⟩,?_⟩
     ·intro b hb hno
      exact k4.K7.block b hb (λho=>ho.elim hno (λh=>by omega))
     ·intro b hb;exact hfr.io b hb
     ·exact p2.nodup_iff.1 (eZ k4.mem (eB hc.1) p4)
     ·intro b hb;obtain⟨id,B,r1,r2,r3,r4⟩:=hL b hb;have hno:id∉p.fz:=jK hc.2 id (dh.2 r1)
      exact(hfr.own id B b (by rw[fV,if_neg hno];exact r2) r3 r4).2
     ·intro b hb;obtain⟨id,B,r1,r2,r3,r4⟩:=hL b hb;exact(k4.mem.ok id B r2).place k4.mem.IV (Jw.MQ r3) r4
     ·intro b hb;obtain⟨id,B,r1,r2,r3,r4⟩:=hL b hb;exact(k4.mem.own id B b r2 r3 r4).1
  obtain⟨key,hk⟩:=key;rcases hk with rfl | rfl
  ·exact key
  ·exact key
end
set_option linter.unusedVariables false
set_option linter.unusedSimpArgs false
section
variable{F:Fam}
def ZB:ND F→Value→Bool
 | .i k n,.int k' m=>k == k'&&n == m
 | .b x,.bool y=>x == y
 | .s [],.string ⟨⟨[]⟩⟩=>true
 | .nl,.slice none 0 0=>true
 | .v (.pointer none),.pointer none=>true
 | .v (.map none),.map none=>true
 | _,_=>false
def zok:List (ND F)→List Value→Bool
 | [],[]=>true
 | d::l,x::r=>ZB d x&&zok l r
 | _,_=>false
theorem Gr{d:ND F}{x:Value}(h:ZB d x=true)(w:World)(IV:Nat→Prop):Jm w IV d x:=by
 unfold ZB at h;split at h
 ·simp only[KQ,beq_iff_eq]at h;obtain⟨rfl,rfl⟩:=h;exact .i _ _
 ·simp only[beq_iff_eq]at h;subst h;exact .b _
 ·exact .s []
 ·exact .nl _
 ·exact .v _ rfl
 ·exact .v _ rfl
 ·cases h
theorem CD:∀{l:List (ND F)} {r:List Value},zok l r=true→l.length=r.length∧∀(w:World)(IV:Nat→Prop)(k:Nat)(d:ND F) (x:Value),l[k]? = some d→r[k]? = some x→Jm w IV d x
 | [],[],_=>by simp
 | d::l,x::r,h=>by
  simp only[zok,KQ]at h;obtain⟨h1,h2⟩:=CD h.2
  refine⟨by simp[h1],?_⟩
  intro w IV k d' x' a b
  cases k with
  | zero=>simp only[M4,KV]at a b;subst a b;exact Gr h.1 w IV
  | succ k=>exact h2 w IV k d' x' (by simpa using a) (by simpa using b)
 | [],_::_,h=>by cases h
 | _::_,[],h=>by cases h
def ZE(i:TI F):Bool:=match i.ty with | some tt=>Nat.beq (Jf F tt) i.size | none=>true
def Wj(P:Program)(t:TypeId)(i:TI F):Bool:=if i.eq then !(P.stoodInHeld t)&&!(P.eqGuardType P.depth t)else true
structure Jy(P:Program)(t:TypeId)(i:TI F):Prop where
 und:P.underlying t=some i.desc
 info:∃j z,P.info? t=some j∧j.zero=some z∧(Nat.beq j.size i.size&&Nat.beq j.bytes i.bytes&&Nat.beq z.cells.size i.size&&zok i.zero z.cells.toList&&(aat z == dj i.desc))=true
 ty:ZE i=true
 eq:Wj P t i=true
theorem acG{P:Program}{tbl:List (Nat×TI F)}(h:∀p∈tbl,Jy P p.1 p.2):Js P (look tbl):=by
 have mem:∀{t:Nat}{i:TI F},look tbl t=some i→Jy P t i:=λht=>h _ (lD ht);refine⟨λt i ht=>(mem ht).und,?_,?_,?_,?_⟩
 ·intro t i ht;obtain⟨j,z,h1,h2,h3⟩:=(mem ht).info;simp only[KQ]at h3;obtain⟨⟨⟨⟨k1,k2⟩,k3⟩,k4⟩,_⟩:=h3;have k1:=M5 k1;have k2:=M5 k2;have k3:=M5 k3;obtain⟨l1,l2⟩:=CD k4
  refine⟨j,h1,k1,k2,z,h2,k3,by rw[l1];simpa using k3,?_⟩
  intro w IV k d x a b
  exact l2 w IV k d x a (by simpa using b)
 ·intro t i ht he;have:=(mem ht).eq;simp only[Wj,he,if_true,KQ,Rj]at this;exact⟨this.1,this.2⟩
 ·intro t i tt ht he;have:=(mem ht).ty;simp only[ZE,he]at this;exact M5 this
 ·intro t i j z ht hj hz;obtain⟨j',z',h1,h2,h3⟩:=(mem ht).info;rw[hj]at h1;cases h1;rw[hz]at h2;cases h2;simp only[KQ,beq_iff_eq]at h3;exact h3.2
theorem all_nil{P:Program}:∀p∈([]:List (Nat×TI F)),Jy P p.1 p.2:=by simp
theorem all_cons{P:Program}{t:Nat}{i:TI F}{l:List (Nat×TI F)}(h:Jy P t i)(k:∀p∈l,Jy P p.1 p.2):∀p∈((t,i)::l),Jy P p.1 p.2:=by
 intro p hp;rcases Li.1 hp with rfl | hp
 ·exact h
 ·exact k p hp
theorem ag{P:Program}:Kr (F:=F) P []:=λ_ _ h=>by simp[look]at h
theorem aa{P:Program}{f:FuncId}{sp:Spec F}{Γ : Ctx F}(h:K9 P f sp)(k:Kr P Γ):Kr P ((f,sp)::Γ):=by
 intro g s hg;rw[ar]at hg;split at hg
 ·rename_i hb;have:=M5 hb;subst this;cases hg;exact h
 ·exact k g s hg
theorem MZ {P : Program} {T : TypeId → Option (TI F)} {Γ : Ctx F} {nv : Nat} (hT : Js P T) (KX : P.follows .mixedOrders = true) (hΓ : Kr P Γ) {f : FuncId} {fn : Func} {sp : Spec F} {h : Hint} (hf : P.funcs[f]? = some fn) (hnm : (fn.name == "runtime.NumGoroutine") = false) (hbn : fn.body.isNone = false) (hlen : Nat.ble sp.ks.length fn.ntmps = true)
  (hrs:sp.rs.all (λk=>!k.KO)=true) (hD:(λa=>TA T Γ nv fn h sp.ks sp.rs a)=sp.D):K9 P f sp:=
 GK hT hΓ KX hf hnm hbn hlen hrs (λa r hr=>by rw[← hD]at hr;exact hr)
end
end Go.Fx
namespace Go.Fx
open Go Go.ChangeShapes Go.RowKit
set_option linter.unusedVariables false
set_option linter.unusedSimpArgs false
section
variable{F:Fam}
def vJ(F:Fam):Ty→List Ty
 | .st n=>F.fs n
 | t=>[t]
mutual
inductive Ul(F:Fam):(t:Ty)→ET F t→Prop where
 | int {k:IntKind} {n:Int} (h:(Lit.int k n).wf=true):Ul F (.int k) n
 | bool (b:Bool):Ul F .bool b
 | str {l:List UInt8} (h:l.length≤maxLen):Ul F .str l
 | slice {t:Ty} {l:List (ET F t)} (hl:l.length≤maxLen) (h:∀x∈l,Ul F t x):Ul F (.slice t) l
 | st {n:Nat} {x:F.S n} (h:Zp F (F.fs n) (F.un n x)):Ul F (.st n) x
inductive Zp(F:Fam):(ts:List Ty)→Jk F ts→Prop where
 | nil (a:Jk F []):Zp F [] a
 | cons {t:Ty} {r:List Ty} {a:Jk F (t::r)} (h:Ul F t a.1) (k:Zp F r a.2):Zp F (t::r) a
end
def RL(W:World):Nat→Prop:=λb=>b<W.heap.size
def RP(F:Fam)(W:World)(tys:List Ty)(cs:List Value):Prop:=
 ∃a:Jk F tys,cs.length=tys.length∧(∀(k:Nat)(d:ND F)(v:Value),(LJ F tys a)[k]? = some d→cs[k]? = some v→Jm W (RL W) d v)∧Zp F tys a
theorem RP.nil{W:World}:RP F W [] []:=⟨(),rfl,by simp[LJ],.nil _⟩
theorem RP.cons{W:World}{t:Ty}{v:Value}{x:ET F t}{tys:List Ty}{cs:List Value}(hr:Jm W (RL W) (enc1 F t x) v)(hw:Ul F t x)(h:RP F W tys cs):RP F W (t::tys) (v::cs):=by
 obtain⟨a,h1,h2,h3⟩:=h
 refine⟨(x,a),by simp[h1],?_,.cons hw h3⟩
 intro k d u hd hu
 cases k with
 | zero=>simp only[LJ,M4,KV]at hd hu;subst hd hu;exact hr
 | succ k=>exact h2 k d u (by simpa[LJ]using hd) (by simpa using hu)
theorem RP.one{W:World}{t:Ty}{v:Value}{x:ET F t}(hr:Jm W (RL W) (enc1 F t x) v)(hw:Ul F t x):RP F W [t] [v]:=.cons hr hw .nil
theorem RP.append{W:World}:∀{s t:List Ty}{cs ds:List Value},RP F W s cs→RP F W t ds→RP F W (s++t) (cs++ds)
 | [],t,cs,ds,h,k=>by obtain⟨a,h1,_,_⟩:=h;have:cs = []:=O1 h1;subst this;exact k
 | x::s,t,cs,ds,h,k=>by
  obtain⟨a,h1,h2,h3⟩:=h
  match cs,h1 with
  | c::cs,h1=>
   cases h3 with
   | cons h3 h4=>
    exact .cons (h2 0 _ c rfl rfl) h3 (RP.append ⟨a.2,by simpa using h1,λk d v hd hv=>h2 (k+1) d v (by simpa[LJ]using hd) (by simpa using hv),h4⟩ k)
def RdT(F:Fam)(W:World)(t:Ty)(cs:List Value)(x:ET F t):Prop:=
 cs.length=Jf F t∧(∀(k:Nat)(d:ND F)(v:Value),(Jc F t x)[k]? = some d→cs[k]? = some v→Jm W (RL W) d v)∧Ul F t x
theorem RP.toT{W:World}{t:Ty}{cs:List Value}(h:RP F W (vJ F t) cs):∃x:ET F t,RdT F W t cs x:=by
 obtain⟨a,h1,h2,h3⟩:=h
 have st:∀{n:Nat}(a:Jk F (F.fs n)),cs.length=(F.fs n).length→(∀(k:Nat)(d:ND F)(v:Value),(LJ F (F.fs n) a)[k]? = some d→cs[k]? = some v→Jm W (RL W) d v)→Zp F (F.fs n) a→∃x:ET F (.st n),RdT F W (.st n) cs x:=by
  intro n a k1 k2 k3
  exact⟨F.up n a,k1,by simpa only[Jc,F.um]using k2,.st (by rw[F.um];exact k3)⟩
 have one:∀{t:Ty}(a:Jk F [t]),Zp F [t] a→Ul F t a.1:=by
  intro t a h
  cases h with
  | cons h _=>exact h
 cases t with
 | st n=>exact st a h1 h2 h3
 | int k=>exact⟨a.1,h1,h2,one a h3⟩
 | bool=>exact⟨a.1,h1,h2,one a h3⟩
 | str=>exact⟨a.1,h1,h2,one a h3⟩
 | slice t=>exact⟨a.1,h1,h2,one a h3⟩
def U7(rd:TypeId→List Ty→Bool)(sz:TypeId→Nat):List Field→Nat→List Ty→Bool
 | [],_,tys=>tys.isEmpty
 | f::fs,off,tys=>Nat.beq f.offset off&&Nat.ble (sz f.type) tys.length&&rd f.type (tys.take (sz f.type))&&U7 rd sz fs (off+sz f.type) (tys.drop (sz f.type))
def U8(rd:List Ty→Bool)(sz:Nat):Nat→List Ty→Bool
 | 0,tys=>tys.isEmpty
 | n+1,tys=>Nat.ble sz tys.length&&rd (tys.take sz)&&U8 rd sz n (tys.drop sz)
def WG(F:Fam)(P:Program):Nat→TypeId→List Ty→Bool
 | 0,_,_=>false
 | f+1,t,tys=>match P.underlying t with
  | some (.int k)=>match tys with | [.int k']=>decide (k=k') | _=>false
  | some .bool=>match tys with | [.bool]=>true | _=>false
  | some .string=>match tys with | [.str]=>true | _=>false
  | some (.slice e)=>match tys with | [.slice tt]=>WG F P f e (vJ F tt)&&Nat.beq (P.cellsOf e) (Jf F tt)&&Nat.blt 0 (Jf F tt) | _=>false
  | some (.struct fs)=>Nat.beq (P.cellsOf t) tys.length&&U7 (WG F P f) P.cellsOf fs.toList 0 tys
  | some (.array n e)=>Nat.beq (P.cellsOf t) tys.length&&U8 (WG F P f e) (P.cellsOf e) n tys
  | _=>false
variable{H:Type}{enc:TypeId×Value→H}{P:Program}{W:World}
theorem vm{a:Addr}{n:Nat}{cs:List Value}(h:W.cells? 0 a n=some cs):cs.length=n∧∀i,i<n→W.cell? (a.add i)=cs[i]?:=by
 unfold World.cells? at h;rw[if_pos (U1 _)]at h
 exact⟨by simpa using mapM_some_length h,λi hi=>mapM_some_get h i i (by simp[hi])⟩
theorem AL{α : Type}{Q:Nat→α→Prop}:∀(n:Nat),(∀i,i<n→∃x,Q i x)→∃l:List α,l.length=n∧∀i x,l[i]? = some x→Q i x
 | 0,_=>⟨[],rfl,by simp⟩
 | n+1,h=>by
  obtain⟨l,h1,h2⟩:=AL n (λi hi=>h i (by omega))
  obtain⟨x,hx⟩:=h n (by omega)
  refine⟨l++[x],by simp[h1],λi y hy=>?_⟩
  by_cases hi:i<n
  ·rw[Mv (by omega)]at hy;exact h2 i y hy
  ·rw[Nc (by omega)]at hy
   have:i=n:=by have:=(IS.1 hy).1;simp at this;omega
   subst this;rw[h1]at hy;simp at hy;subst hy;exact hx
theorem vK{α : Type}{sz:Nat}(h0:0<sz):∀{es:List (List α)} (_:∀e∈es,e.length=sz) {k:Nat} {d:α} (_:es.flatten[k]? = some d),∃e,es[k / sz]? = some e∧e[k % sz]? = some d
 | [],_,k,d,h=>by simp at h
 | e::es,hs,k,d,h=>by
  have he:=hs e (by simp)
  rw[U2]at h;by_cases hk:k<sz
  ·rw[Mv (by omega)]at h
   exact⟨e,by rw[Nat.div_eq_of_lt hk];rfl,by rw[Nat.mod_eq_of_lt hk];exact h⟩
  ·rw[Nc (by omega),he]at h
   obtain⟨e',h1,h2⟩:=vK h0 (λe he=>hs e (by simp[he])) h
   refine⟨e',?_,?_⟩
   ·rw[Nat.div_eq_sub_div h0 (by omega)];simpa using h1
   ·rw[Nat.mod_eq_sub_mod (by omega)];exact h2
theorem xz:∀(f:Nat){fuel:Nat}{t:TypeId}{tys:List Ty} {cs:List Value} {x:DataW H×List MemPlace},WG F P f t tys=true→DataW.trod enc P W 0 (λ_=>true) true fuel t cs=some x→RP F W tys cs
 | 0,fuel,t,tys,cs,x,hb,h=>by simp[WG]at hb
 | f+1,fuel,t,tys,cs,x,hb,h=>by
  unfold WG at hb;split at hb
  ·rename_i k ht;split at hb
   ·rename_i k'
    have hk:k=k':=by simpa using hb
    subst hk;obtain⟨n,rfl,_,hw⟩:=DataW.trod_int ht h;exact .one (t:=.int k) (.i k n) (.int hw)
   ·cases hb
  ·rename_i ht;split at hb
   ·obtain⟨b,rfl,_⟩:=DataW.trod_bool ht h;exact .one (t:=.bool) (.b b) (.bool b)
   ·cases hb
  ·rename_i ht;split at hb
   ·obtain⟨s,rfl,_,hl⟩:=DataW.trod_string ht h;refine .one (t:=.str) (x:=s.data.toList) (v:=.string s) ?_ (.str ?_)
    ·have:=Jm.s (F:=F) (w:=W) (IV:=RL W) s.data.toList;exact this
    ·exact hl
   ·cases hb
  ·rename_i e ht;split at hb
   ·rename_i tt;simp only[KQ]at hb;obtain⟨⟨hb1,hb2⟩,hb3⟩:=hb;have hsz:=M5 hb2;have hpos:0<Jf F tt:=MV.mp hb3;rcases DataW.trod_slice ht h with⟨rfl,_⟩ | ⟨a,len,cap,elems,rest,n,_,rfl,_,_,hlc,hcm,hel,h1,h2,_⟩
    ·exact .one (t:=.slice tt) (x:=[]) (.sl0 tt none) (.slice (by simp) (by simp))
    ·
     have hall:∀i,i<len→∃x:ET F tt,∃cs,W.cells? 0 (a.add (i*Jf F tt)) (Jf F tt)=some cs∧RdT F W tt cs x:=by
      intro i hi;have hbind:=h1 i hi
      have hlt:i<elems.length:=by omega
      rw[IR hlt,hsz,UL]at hbind;obtain⟨cs,hcs,htr⟩:=hbind;obtain⟨x,hx⟩:=(xz f hb1 htr).toT;exact⟨x,cs,hcs,hx⟩
     by_cases hcap:cap=0
     ·subst hcap
      have:len=0:=by omega
      subst this
      exact .one (t:=.slice tt) (x:=[]) (.sl0 tt (some a)) (.slice (by simp) (by simp))
     ·
      have aax:∃cs,W.cells? 0 a (Jf F tt)=some cs:=by
       have e0:a.add (0*Jf F tt)=a:=by simp[Addr.add]
       by_cases hl0:0<len
       ·obtain⟨_,cs,hcs,_⟩:=hall 0 hl0;rw[e0]at hcs;exact⟨cs,hcs⟩
       ·have hl0:len=0:=by omega
        subst hl0;obtain⟨hr1,hr2⟩:=h2 rfl
        have hbind:=hr2 0 (by omega)
        have hlt:0<rest.length:=by omega
        rw[IR hlt,hsz,UL]at hbind;obtain⟨cs,hcs,_⟩:=hbind;simp only[LY]at hcs;rw[e0]at hcs;exact⟨cs,hcs⟩
      obtain⟨cs0,an8⟩:=aax;obtain⟨TW,ai_⟩:=vm an8;have hc0:=ai_ 0 hpos
      have e1:a.add 0=a:=by simp[Addr.add]
      rw[e1,IR (by omega)]at hc0
      have hblk:a.block<W.heap.size∧a.spot=none:=by
       unfold World.cell? at hc0;split at hc0
       ·rename_i hh;refine⟨(PY.1 hh).1,?_⟩
        cases hs:a.spot with
        | none=>rfl
        | some s=>rw[hs]at hc0;simp at hc0
       ·cases hc0
      obtain⟨b,o,sp⟩:=a;obtain⟨hb0,hs0⟩:=hblk;simp only at hb0 hs0;subst hs0
      have hadd:∀o i,(⟨b,o,none⟩:Addr).add i=⟨b,o+i,none⟩:=by
       intro o i;unfold Addr.add;split
       ·rename_i h0;rw[h0];rfl
       ·rfl
      obtain⟨l,hl,hq⟩:=AL len hall
      have hcell:∀k d,(cells F tt l)[k]? = some d→∃v,W.cell? ⟨b,o+k,none⟩=some v∧Jm W (RL W) d v:=by
       intro k d hk
       obtain⟨e',q1,q2⟩:=vK hpos (sz:=Jf F tt) (es:=l.map (Jc F tt)) (by intro e he;obtain⟨x,_,rfl⟩:=Ot.1 he;exact aS F tt x) hk
       rw[MN,RF]at q1;obtain⟨x,q3,rfl⟩:=q1;obtain⟨cs,q4,q5,q6,_⟩:=hq _ x q3;obtain⟨q7,q8⟩:=vm q4;have hmod:=Nat.mod_lt k hpos;have hc:=q8 (k % Jf F tt) hmod
       rw[hadd,hadd,IR (by omega),Pq,Nat.mul_comm,Nat.div_add_mod]at hc
       exact⟨_,hc,q6 _ d _ q2 (IR (by omega))⟩
      refine .one (t:=.slice tt) (x:=l) ?_ (.slice (by rw[hl];omega) ?_)
      ·have:=Jm.sl (F:=F) (w:=W) (IV:=RL W) tt l b o cap (λk=>(W.cell? ⟨b,o+k,none⟩).getD undef) hb0 (by rw[hl];exact hlc) hcm
        (λk d hk=>by obtain⟨v,k1,k2⟩:=hcell k d hk;rw[k1];rfl) (λk d hk=>by obtain⟨v,k1,k2⟩:=hcell k d hk;rw[k1];exact k2)
       rw[hl]at this;exact this
      ·intro x hx;obtain⟨i,hi,rfl⟩:=QeS.1 hx;obtain⟨_,_,_,_,hw⟩:=hq i _ (IR hi);exact hw
   ·cases hb
  ·rename_i fs ht;simp only[KQ]at hb;have hlen:=M5 hb.1;obtain⟨xs,n,_,_,hcl,hxl,hget⟩:=DataW.trod_struct ht h
   have key:∀(l:List Field)(i off:Nat)(tys:List Ty)(cs':List Value),cs'=cs.drop off→cs'.length=tys.length→U7 (WG F P f) P.cellsOf l off tys=true→(∀j f,l[j]? = some f→fs[i+j]? = some f)→RP F W tys cs':=by
    intro l
    induction l with
    | nil=>
     intro i off tys cs' hcs hl hr _
     have:tys = []:=by simpa[U7]using hr
     subst this;have:cs' = []:=O1 hl;subst this;exact .nil
    | cons fl l ih=>
     intro i off tys cs' hcs hl hr hfs;simp only[U7,KQ]at hr;obtain⟨⟨⟨r1,r2⟩,r3⟩,r4⟩:=hr;have r1:=M5 r1;have r2:=PX r2
     have hf:=hget i fl (by simpa using hfs 0 fl rfl)
     have hlt:i<xs.length:=by
      rw[hxl]
      exact(PY.1 (by simpa using hfs 0 fl rfl)).1
     rw[IR hlt,r1,← hcs]at hf;have h1:=xz f r3 hf
     have h2:=ih (i+1) (off+P.cellsOf fl.type) (tys.drop (P.cellsOf fl.type)) (cs'.drop (P.cellsOf fl.type)) (by rw[hcs,Zr]) (by simp[hl]) r4 (λj f' hj=>by have:=hfs (j+1) f' (by simpa using hj);rwa [show i+1+j=i+(j+1)by omega])
     have:=h1.append h2
     rwa [Uo,Uo]at this
   exact key fs.toList 0 0 tys cs (by simp) (by rw[hcl,hlen]) hb.2 (λj f hj=>by simpa using hj)
  ·rename_i n e ht;simp only[KQ]at hb;have hlen:=M5 hb.1;obtain⟨xs,n',_,_,hcl,hxl,hget⟩:=DataW.trod_array ht h
   have key:∀(m i:Nat)(tys:List Ty)(cs':List Value),cs'=cs.drop (i*P.cellsOf e)→cs'.length=tys.length→i+m=n→U8 (WG F P f e) (P.cellsOf e) m tys=true→RP F W tys cs':=by
    intro m
    induction m with
    | zero=>
     intro i tys cs' hcs hl hn hr
     have:tys = []:=by simpa[U8]using hr
     subst this;have:cs' = []:=O1 hl;subst this;exact .nil
    | succ m ih=>
     intro i tys cs' hcs hl hn hr;simp only[U8,KQ]at hr;obtain⟨⟨r1,r2⟩,r3⟩:=hr
     have hf:=hget i (by omega)
     have hlt:i<xs.length:=by omega
     rw[IR hlt,← hcs]at hf;have h1:=xz f r2 hf
     have h2:=ih (i+1) (tys.drop (P.cellsOf e)) (cs'.drop (P.cellsOf e)) (by rw[hcs,Zr,Rh]) (by simp[hl]) (by omega) r3
     have:=h1.append h2
     rwa [Uo,Uo]at this
   exact key n 0 tys cs (by simp) (by rw[hcl,hlen]) (by omega) hb.2
  ·cases hb
end
end Go.Fx
namespace Go.Fx
open Go Go.ChangeShapes Go.RowKit
set_option linter.unusedVariables false
set_option linter.unusedSimpArgs false
section
variable{F:Fam}{H:Type}{enc:TypeId×Value→H}{P:Program}{W:World}
def acw(F:Fam)(P:Program)(t:TypeId)(tt:Ty):Bool:=
 WG F P 64 t (vJ F tt)&&(match P.underlying t with
  | some (.struct _) | some (.array _ _)=>tt.K4
  | some (.int _) | some .bool | some .string | some (.slice _)=>!tt.K4
  | _=>false)
theorem aiR{r:Reach}{b0:Nat}{t:TypeId}{tt:Ty}{v:Value}{d:DataW H}{ps:List MemPlace}(hb:acw F P t tt=true)(hval:Value.okWide P W r b0 t v)(hd:DataW.Trod enc P W 0 (λ_=>true) true t v d ps) :
  ∃x:ET F tt,Ul F tt x∧Ky W (RL W) tt [] x v []:=by
 simp only[acw,KQ]at hb;obtain⟨hb,hk⟩:=hb;obtain⟨fuel,hf⟩:=hd;obtain⟨x,h1,h2,h3⟩:=(xz 64 hb hf).toT;refine⟨x,h3,xM ?_⟩
 have agg:(∃cs,v = .agg cs)→tt.K4=true→L8 W (RL W) (Jc F tt x,tt.K4) v:=by rintro⟨⟨cs⟩,rfl⟩ hs;rw[hs];refine .agg ?_ (λk c y a b=>h2 k c y a b);rw[aS];exact h1
 have one:v.cells = #[v]→tt.K4=false→L8 W (RL W) (Jc F tt x,tt.K4) v:=by
  intro hv hs;rw[hs]
  have hl:∃d,Jc F tt x = [d]:=by cases tt<;>first | exact⟨_,rfl⟩ | cases hs
  obtain⟨d,hd⟩:=hl;rw[hd]
  exact .one (h2 0 d v (by rw[hd];rfl) (by rw[hv];rfl))
 unfold Value.okWide at hval;split at hk
 ·rename_i fs ht;rw[ht]at hval;obtain⟨cs,rfl,_⟩:=hval;exact agg ⟨cs,rfl⟩ hk
 ·rename_i n e ht;rw[ht]at hval;obtain⟨cs,rfl,_⟩:=hval;exact agg ⟨cs,rfl⟩ hk
 ·rename_i k ht;simp only[ht,Cell.okWide,Cell.ok]at hval
  refine one ?_ (by simpa using hk)
  cases v<;>first | rfl | exact hval.elim
 ·rename_i ht;simp only[ht,Cell.okWide,Cell.ok]at hval
  refine one ?_ (by simpa using hk)
  cases v<;>first | rfl | exact hval.elim
 ·rename_i ht;simp only[ht,Cell.okWide,Cell.ok]at hval
  refine one ?_ (by simpa using hk)
  cases v<;>first | rfl | exact hval.elim
 ·rename_i e ht;simp only[ht,Cell.okWide,Cell.ok]at hval
  refine one ?_ (by simpa using hk)
  cases v<;>first | rfl | exact hval.elim
 ·cases hk
theorem qU(hl:laidOutB P=true){W':World}{sp:Nat→Bool}(hb:Below W.heap.size W W'):∀{ts:List TypeId}{vs:List Value}{ds:List (DataW H)} {ps:List MemPlace},
  DataW.TrodAll enc P W 0 (λ_=>true) true ts vs ds ps→(ts.all λt=>P.readableRec t&&Nat.blt t P.types.size)=true→(∀x∈ps,x.block<W.heap.size)→(∀x∈ps,sp x.block=true)→
  DataW.TrodAll enc P W' 0 sp true ts vs ds ps
 | [],vs,ds,ps,h,_,_,_=>by obtain⟨rfl,rfl,rfl⟩:=trodAll_nil h;rfl
 | t::ts,vs,ds,ps,h,hr,hlt,hsp=>by
  obtain⟨v,vs1,d,ds1,a,b,rfl,rfl,rfl,h1,h2⟩:=trodAll_cons h;simp only[Tt,KQ]at hr
  refine trodAll_cons_mk (WideElems.Trod_stays hl hr.1.1 (by simpa using hr.1.2) h1 (λx hx=>hb.same (hlt x (by simp[hx]))) (λx hx=>hsp x (by simp[hx]))) (qU hl hb h2 hr.2 (λx hx=>hlt x (by simp[hx])) (λx hx=>hsp x (by simp[hx])))
theorem Ev{fid:FuncId}{f:Func}{s:ChangeSpec}{tb:TypeId}{args:Array Value}{ds gs:List (DataW H)}{before:List MemPlace}
  (hl:laidOutB P=true) (hr:(f.params.toList.all λt=>P.readableRec t&&Nat.blt t P.types.size)=true) (hv:s.vars = []) (ht:f.resultTypes = #[tb]) (htb:P.underlying tb=some .bool)
  (hW:DataW.Whole enc P f.params.toList s.vars false W args.toList ds gs before) (hfn:s.fn H (ds++gs) = { results:=[.lit (.bool true)],args:=ds })
  (h:Calls P fid args W λe w'=>e = .returned (.bool true)∧Below W.heap.size W w') :
  Calls P fid args W λe W'=>∃v,e = .returned v∧s.post enc P f false true false false W args v W':=by
 have hW':=hW;obtain⟨p,q,hA,hV,rfl,hfz,hnd⟩:=hW;rw[hv]at hV;obtain⟨rfl,rfl⟩:=trodVars_none hV;refine h.mono λe W' ⟨he,hg⟩=>?_;subst he
 have hlt:∀x∈p,x.block<W.heap.size:=λx hx=>by simpa using hW'.lt x (by simp[hx])
 have args:∀sp:Nat→Bool,(∀x∈p,sp x.block=true)→DataW.TrodAll enc P W' 0 sp true f.params.toList args.toList (s.fn H (ds++[])).args p:=by intro sp hsp;rw[hfn];exact qU hl hg hA hr hlt hsp
 have vars:∀sp:Nat→Bool,DataW.TrodVars enc P W' sp s.vars (s.fn H (ds++[])).vars []:=by intro sp;rw[hfn,hv];rfl
 have res:∀(b:Nat)(sp:Nat→Bool)(hd:Bool),DataW.TrodAll enc P W' b sp hd f.resultTypes.toList ((Value.bool true).resultList f.resultTypes.size) (s.fn H (ds++[])).results []:=by intro b sp hd;rw[hfn,ht];exact trodAll_cons_mk (shut_bool htb true) trodAll_mk0
 refine⟨_,rfl,ds,[],p++[],[],p,[],hW',res _ _ _,args _ (λx hx=>by simpa using hlt x hx),vars _,hg.frame _,λ_=>?_⟩
 refine⟨ok_one ht rfl (okWide_bool_mk htb _),_,_,([]++p)++[],⟨[]++p,[],trodAll_append (args _ (λ_ _=>rfl)) (res _ _ _),vars _,rfl,?_,λh=>by cases h⟩,?_⟩
 ·intro b off hp
  rw[hg.frozen (hlt _ (by simpa using hp))]
  exact hfz b off (by simpa using hp)
 ·intro x hx _;simpa using hx
theorem Fk:bR (F:=F) P W (RL W) [] () [] [] []:=⟨rfl,rfl,rfl⟩
theorem DJ{t:Ty}{x:ET F t}{v:Value}{ks:List Kd}{a:HL F ks}{vs:List Value}(h:Ky W (RL W) t [] x v [])(k:bR P W (RL W) ks a vs [] []):bR P W (RL W) (.v t []::ks) (x,a) (v::vs) [] []:=
 ⟨v,vs,[],[],[],[],rfl,rfl,rfl,⟨h,rfl⟩,k⟩
theorem BK{fid:FuncId}{sp:Spec F}(hf:K9 P fid sp){D:HL F sp.ks→Option Bool}(hD:cN sp .bool=some D){a:HL F sp.ks}(hd:D a=some true){vs:List Value}(hh:bR P W (RL W) sp.ks a vs [] []) :
  Calls P fid ⟨vs⟩ W λe w'=>e = .returned (.bool true)∧Below W.heap.size W w':=by
 obtain⟨r',hr',hout⟩:=wy (P:=P) hD hd
 refine(hf.2 a r' hr' (RL W) W vs [] [] hh ⟨by simp[Ht],by simp[Ht],by simp[Ht]⟩ (λ_ h=>h)).mono ?_
 rintro e w' ⟨MU,Jg,J9,rfl,h1,h2,h3,hdr,h4,h5,h6,h7,h8,h9,h10,h11⟩;obtain⟨v,rfl,_,hv⟩:=hout w' Jg MU [] J9 h9;have hn:=hv.Lv;subst hn;have hrep:=oj hv
 have:v = .bool true:=by
  generalize hc:(Jc F Ty.bool true,Ty.bool.K4)=p at hrep
  cases hrep with
  | one h=>cases hc;cases h;rfl
  | agg=>cases hc
 exact⟨by rw[this];rfl,⟨h1,h2,h3,h4,λb hb=>h5 b hb (by simp[Ht])⟩⟩
end
set_option linter.unusedVariables false
set_option linter.unusedSimpArgs false
section
variable{F:Fam}{P:Program}
theorem D2{w:World}{IV:Nat→Prop}{t:Ty}{v:Value}(h:Jm (F:=F) w IV (.sl t []) v):∃p cap,v = .slice p 0 cap:=by
 cases h with
 | sl0 p=>exact⟨_,_,rfl⟩
 | sl l b o cap f=>exact⟨_,_,rfl⟩
theorem lK{t e:TypeId}(h:P.underlying t=some (.slice e))(w:World)(a:Option Addr)(n c n2 c2:Nat):(binOp .eql t (.slice a n c) (.slice none n2 c2)).run P w = .ok (.bool a.isNone) w:=Lib.run_eql_slice_nil w _ _ a n c n2 c2 h
theorem fH{f:FuncId}{t:Ty}{b:Nat}
  (h:K9 (F:=F) P f ⟨[.v (.slice t) []],[.v (.slice t) [0]],λa=>cond a.1.isEmpty none ((app b [] a.1).bind λl=>some l)⟩)
  (hn:∀(p:Option Addr)(cap:Nat)(w:World),Calls P f ⟨[.slice p 0 cap]⟩ w λe w'=>∃p',e = .returned (.slice p' 0 0)∧RowKit.Below w.heap.size w w'∧w.drawn≤w'.drawn) (hmp:t.KS=false:=by rfl) :
  K9 (F:=F) P f ⟨[.v (.slice t) []],[.v (.slice t) [0]],λa=>app b [] a.1⟩:=by
 refine⟨h.1,?_⟩;intro a r hr IV w vs Ja Jo KH hpl Kg;obtain⟨l,u⟩:=a
 cases l with
 | cons x l=>refine h.2 (x::l,u) r ?_ IV w vs Ja Jo KH hpl Kg;dsimp only at hr ⊢;rw[hr];rfl
 | nil=>
  have hr':r=([]:List (ET F t)):=by
   dsimp only[app]at hr;split at hr
   ·exact(Option.some.inj hr).symm
   ·cases hr
  subst hr';obtain⟨v,vs',p1,p2,b1,b2,rfl,rfl,rfl,⟨h1,rfl⟩,rfl,rfl,rfl⟩:=KH;unfold Ky at h1;simp only[Ty.K4,Nb,if_false,Jc,J8,Jp]at h1;obtain⟨h1,rfl⟩:=h1;obtain⟨p,cap,rfl⟩:=D2 h1;refine(hn p cap w).mono ?_;rintro e w' ⟨p',rfl,hb,hdr⟩
  refine⟨[.slice p' 0 0],IV,[none],rfl,hb.os,hb.tape,hb.output,hdr,hb.size,λk hk _=>hb.block k hk,λ_ h=>h,λ_ h=>.inl h,λk hk=>OZ (Kg k hk) hb.size,?_,⟨by simp[Ht],by simp[Ht],by simp[Ht]⟩,by simp[Ht]⟩
  refine⟨.slice p' 0 0,rfl,rfl,?_,rfl⟩;unfold Ky;simp only[Ty.K4,Nb,if_false,Jc,J8,Jp,Nat.beq,if_true]
  exact⟨none,[],rfl,by rw[dB hmp];rfl,by rw[gf hmp];exact⟨p',rfl⟩,rfl⟩
end
end Go.Fx
