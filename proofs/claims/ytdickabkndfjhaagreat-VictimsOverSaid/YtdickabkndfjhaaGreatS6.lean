/-
  The reference manager: what holds of its state after every script. Conditions: none.
-/
import Derived.Test.YtdickabkndfjhaaGreatS5
namespace Go.Fx.D
open Go Go.Fx
set_option linter.unusedVariables false
set_option linter.unusedSimpArgs false
def VB(n:Int)(v:Vec):Prop:=(0≤v.Mem∧v.Mem≤n)∧0≤v.Lu∧v.Lu≤n
def Oh(l:List Vec):Vec:=⟨(l.map (·.Mem)).sum,(l.map (·.Lu)).sum⟩
def MB(a b:Vec):Vec:=⟨a.Mem+b.Mem,a.Lu+b.Lu⟩
theorem y7:Oh []=⟨0,0⟩:=rfl
theorem Gw(l m:List Vec):Oh (l++m)=MB (Oh l) (Oh m):=by simp[Oh,MB]
theorem GR(v:Vec):Oh [v]=v:=by simp[Oh]
theorem mo(v:Vec)(l:List Vec):Oh (v::l)=MB v (Oh l):=by simp[Oh,MB]
theorem oS{n:Int}(hn:0≤n){l:List Vec}(h:∀v∈l,VB n v):VB (l.length*n) (Oh l):=by
 induction l with
 | nil=>simp[Oh,VB]
 | cons v l ih=>
  have h1:=ih (λv hv=>h v (by simp[hv]))
  have h2:=h v (by simp)
  rw[mo];unfold VB MB at *;simp only[PN,Int.natCast_add,Int.add_mul];omega
theorem lU{a b:Vec}{n:Int}(ha:VB n a)(hb:VB n b)(hn:n≤4000000000000000000):aD a b=some (MB a b):=by
 unfold VB at *;unfold aD MB
 rw[am (by omega) (by omega),am (by omega) (by omega)]
theorem VB.mono{n m:Int}{v:Vec}(h:VB n v)(hm:n≤m):VB m v:=by unfold VB at *;omega
theorem ve{n m:Int}{a b:Vec}(ha:VB n a)(hb:VB m b):VB (n+m) (MB a b):=by unfold VB MB at *;dsimp only;omega
theorem iU{α τ : Type}(mk:Vec→Int→τ)(l:List α)(p:α→Bool)(v:α→Vec){step:τ→Option (τ ⊕ Vec)}(hn:l.length≤100000)(hb:∀x∈l,p x=true→VB 1099511627776 (v x))
  (h1:∀k (hk:k<l.length) s,VB (1099511627776*k) s→step (mk s (k:Int))=some (.inl (mk (if p l[k]=true then MB s (v l[k])else s) (Lx ((k:Int)+1)))))
  (h2:∀s,step (mk s (l.length:Int))=some (.inr s)):loop step (mk ⟨0,0⟩ 0)=some (Oh ((l.filter p).map v)):=by
 have h:=(cW mk l (λs x=>if p x=true then MB s (v x)else s) (λk s=>VB (1099511627776*k) s) (λs=>s) (by omega) (step:=step) ?_ (λs _=>h2 s) (s:=(⟨0,0⟩:Vec)) (by simp[VB])).1
 ·rw[h]
  congr 1
  have key:∀(l:List α)(z:Vec),l.foldl (λs x=>if p x=true then MB s (v x)else s) z=MB z (Oh ((l.filter p).map v)):=by
   intro l
   induction l with
   | nil=>intro z;simp[Oh,MB]
   | cons x l ih=>
    intro z;rw[TG,ih,UE];split
    ·rw[M9,mo];simp only[MB];congr 1<;>omega
    ·rfl
  rw[key];simp[MB]
 ·intro k hk s hs;refine⟨h1 k hk s hs,?_⟩
  show VB _ (if p l[k]=true then MB s (v l[k])else s)
  by_cases hp:p l[k]=true
  ·have:=hb _ (NQ hk) hp;rw[if_pos hp];unfold VB MB at *;dsimp only;omega
  ·rw[if_neg hp];unfold VB at *;omega
structure SB(s:JF):Prop where
 z:M_ s
 cf:O9 s.Lf
 nc:∀n∈s.Ls,VB 1073741824 n.Cap
 cs:∀c∈s.Lc,VB 1073741824 c.LV
 pn:∀p∈s.LU,VB 1073741824 p.Need
 aq:∀a∈s.Lr,a.Lm.length≤1000000
 al:∀a∈s.Lr,a.Mr.length≤100
 ak:∀a∈s.Lr,∀x∈a.Mr,VB 1073741824 x.LV∧0≤x.Mw∧x.Mw≤50
def ba(leaf p:Str):Bool:=(Ob leaf).contains p
theorem Ar{leaf:Str}(h:leaf.length≤1000000)(p:Str):eZ leaf p=some (ba leaf p):=by
 unfold eZ;have hl:=uh leaf;rw[Dx h,K8]
 have e:=eJ (λi=>i) (Ob leaf) (λq=>q == p) (λq=>(.inl true:Bool ⊕ Unit)) (.inr ()) (step:=df p (Ob leaf)) (by omega) ?_ ?_ ?_
 ·rw[e];unfold ba
  cases hf:(Ob leaf).find? λq=>q == p with
  | none=>
   have:(Ob leaf).contains p=false:=by rw[Bool.eq_false_iff];intro hc;rw[Yp]at hc;have:=ZR.1 hf p hc;simp at this
   rw[this];rfl
  | some q=>
   have h1:=QdS hf;have h2:=QfS hf
   have:q=p:=by simpa using h2
   subst this;have:(Ob leaf).contains q=true:=Yp.2 h1;rw[this];rfl
 ·intro k hk hp;unfold df;rw[ah hk,aC hk];simp only[cond_true,K8,K9 hk,hp,cond_false]
 ·intro k hk hp;unfold df;rw[ah hk,aC hk];simp only[cond_true,K8,K9 hk,hp]
 ·unfold df;rw[ar];rfl
def OC(s:JF)(Ld:Str)(label:Int)(all:Bool)(user:Int)(c:Lv):Bool:=
 (MV s c.LD).elim false λa=>c.Ll == label&&ba a.Lm Ld&&(all||a.User == user)
def Ms(s:JF)(Ld:Str)(label:Int)(all:Bool)(user:Int):Vec:=Oh ((s.Lc.filter (OC s Ld label all user)).map (·.LV))
theorem CY{s:JF}(h:SB s)(Ld:Str)(label:Int)(all:Bool)(user:Int):fQ s Ld label all user=some (Ms s Ld label all user):=by
 unfold fQ
 rw[iU (λv i=>(v,i)) s.Lc (OC s Ld label all user) (·.LV) (step:=gI s Ld label all user) h.z.c (λc hc _=>(h.cs c hc).mono (by omega)) ?_ ?_]
 ·rfl
 ·intro k hk v hv;unfold gI;rw[ah hk,ai hk];simp only[cond_true,K8];rw[co h.z]
  have hp:aD v s.Lc[k].LV=some (MB v s.Lc[k].LV):=by
   have:=h.z.c
   exact lU (hv.mono (m:=200000000000000000) (by omega)) ((h.cs _ (NQ hk)).mono (by omega)) (by omega)
  rw[hp];unfold OC
  cases ha:MV s s.Lc[k].LD with
  | none=>simp
  | some a=>
   have hq:=h.aq a (nr (id:=λx:LD=>x.Id) ha).1;simp only[Option.elim_some,K8,cond_true];rw[Ar hq];simp only[K8]
   rcases QfK (ba a.Lm Ld)with hb | hb<;>simp only[hb]<;>cases s.Lc[k].Ll == label<;>cases all<;>cases a.User == user<;>rfl
 ·intro v;unfold gI;rw[ar];rfl
theorem jH{s:JF}(h:SB s)(Ld:Str)(label:Int):aP s Ld label=some (Ms s Ld label true 0):=by unfold aP;rw[CY h];rfl
theorem Bo{s:JF}(h:SB s)(Ld:Str)(label user:Int):fA s Ld label user=some (Ms s Ld label false user):=by unfold fA;rw[CY h];rfl
theorem xb{s:JF}(h:SB s)(Ld:Str)(label:Int)(all:Bool)(user:Int):VB (s.Lc.length*1073741824) (Ms s Ld label all user):=by
 have:=oS (n:=1073741824) (by omega) (l:=(s.Lc.filter (OC s Ld label all user)).map (·.LV)) (λv hv=>by obtain⟨c,hc,rfl⟩:=Ra.1 hv;exact h.cs c (PL.1 hc).1)
 refine this.mono ?_;rw[Py];have:=Um (OC s Ld label all user) s.Lc;omega
def b7(s:JF)(label:Int):Vec:=Oh ((s.Ls.filter λn=>n.Up&&n.Ll == label).map (·.Cap))
theorem o0{s:JF}(h:SB s)(label:Int):bV s label=some (b7 s label):=by
 unfold bV
 rw[iU (λv i=>(v,i)) s.Ls (λn=>n.Up&&n.Ll == label) (·.Cap) (step:=gG s label) h.z.n (λc hc _=>(h.nc c hc).mono (by omega)) ?_ ?_]
 ·rfl
 ·intro k hk v hv;unfold gG;rw[ah hk,ai hk]
  have hp:aD v s.Ls[k].Cap=some (MB v s.Ls[k].Cap):=by
   have:=h.z.n
   exact lU (hv.mono (m:=200000000000000000) (by omega)) ((h.nc _ (NQ hk)).mono (by omega)) (by omega)
  simp only[cond_true,K8,hp]
  cases s.Ls[k].Up<;>cases s.Ls[k].Ll == label<;>rfl
 ·intro v;unfold gG;rw[ar];rfl
theorem nq{s:JF}(h:SB s)(label:Int):VB (s.Ls.length*1073741824) (b7 s label):=by
 have:=oS (n:=1073741824) (by omega) (l:=(s.Ls.filter λn=>n.Up&&n.Ll == label).map (·.Cap)) (λv hv=>by obtain⟨c,hc,rfl⟩:=Ra.1 hv;exact h.nc c (PL.1 hc).1)
 refine this.mono ?_;rw[Py];have:=Um (λn:LB=>n.Up&&n.Ll == label) s.Ls;omega
def W_(s:JF)(label:Int):Vec:=Oh ((s.LU.filter λp=>p.Ll == label&&decide (p.From≤s.Now)&&decide (s.Now<p.Until)).map (·.Need))
theorem I7{s:JF}(h:SB s)(label:Int):kw s label=some (W_ s label):=by
 unfold kw
 rw[iU (λv i=>(v,i)) s.LU (λp=>p.Ll == label&&decide (p.From≤s.Now)&&decide (s.Now<p.Until)) (·.Need) (step:=ig s label) h.z.p (λc hc _=>(h.pn c hc).mono (by omega)) ?_ ?_]
 ·rfl
 ·intro k hk v hv;unfold ig;rw[ah hk,ai hk]
  have hp:aD v s.LU[k].Need=some (MB v s.LU[k].Need):=by
   have:=h.z.p
   exact lU (hv.mono (m:=200000000000000000) (by omega)) ((h.pn _ (NQ hk)).mono (by omega)) (by omega)
  simp only[cond_true,K8,hp]
  cases s.LU[k].Ll == label<;>cases decide (s.LU[k].From≤s.Now)<;>cases decide (s.Now<s.LU[k].Until)<;>rfl
 ·intro v;unfold ig;rw[ar];rfl
theorem I0{s:JF}(h:SB s)(label:Int):VB (s.LU.length*1073741824) (W_ s label):=by
 have:=oS (n:=1073741824) (by omega) (l:=(s.LU.filter λp=>p.Ll == label&&decide (p.From≤s.Now)&&decide (s.Now<p.Until)).map (·.Need)) (λv hv=>by obtain⟨c,hc,rfl⟩:=Ra.1 hv;exact h.pn c (PL.1 hc).1)
 refine this.mono ?_;rw[Py];have:=Um (λp:MW=>p.Ll == label&&decide (p.From≤s.Now)&&decide (s.Now<p.Until)) s.LU;omega
def jd(s:JF)(i:Int):Vec:=Oh ((s.Lc.filter λc=>c.LB == i).map (·.LV))
theorem Gs{s:JF}(h:SB s)(i:Int):kF s i=some (jd s i):=by
 unfold kF
 rw[iU (λv i=>(v,i)) s.Lc (λc=>c.LB == i) (·.LV) (step:=iG s i) h.z.c (λc hc _=>(h.cs c hc).mono (by omega)) ?_ ?_]
 ·rfl
 ·intro k hk v hv;unfold iG;rw[ah hk,ai hk]
  have hp:aD v s.Lc[k].LV=some (MB v s.Lc[k].LV):=by
   have:=h.z.c
   exact lU (hv.mono (m:=200000000000000000) (by omega)) ((h.cs _ (NQ hk)).mono (by omega)) (by omega)
  simp only[cond_true,K8,hp]
  cases s.Lc[k].LB == i<;>rfl
 ·intro v;unfold iG;rw[ar];rfl
theorem HA{s:JF}(h:SB s)(i:Int):VB (s.Lc.length*1073741824) (jd s i):=by
 have:=oS (n:=1073741824) (by omega) (l:=(s.Lc.filter λc=>c.LB == i).map (·.LV)) (λv hv=>by obtain⟨c,hc,rfl⟩:=Ra.1 hv;exact h.cs c (PL.1 hc).1)
 refine this.mono ?_;rw[Py];have:=Um (λc:Lv=>c.LB == i) s.Lc;omega
def UJ(a b:Vec):Vec:=⟨imax (a.Mem - b.Mem) 0,imax (a.Lu - b.Lu) 0⟩
theorem Cw{a b:Vec}(ha:VB 4000000000000000000 a)(hb:VB 4000000000000000000 b):hG a b=some (UJ a b):=by
 unfold VB at *;unfold hG UJ
 rw[am (by omega) (by omega),am (by omega) (by omega)]
def RL(a b:Vec):Bool:=decide (a.Mem≤b.Mem)&&decide (a.Lu≤b.Lu)
theorem lW(a b:Vec):aW a b=some (RL a b):=by
 unfold aW RL
 cases decide (a.Mem≤b.Mem)<;>rfl
def VP(s:JF)(i:Int):Vec:=match mR s i with
 | some n=>if n.Up=true then UJ n.Cap (jd s i)else⟨0,0⟩
 | none=>⟨0,0⟩
theorem BR{s:JF}(h:SB s)(i:Int):h_ s i=some (VP s i):=by
 unfold h_ VP;rw[lX h.z]
 cases hn:mR s i with
 | none=>rfl
 | some n=>
  have hc:=h.nc n (nr (id:=λx:LB=>x.Id) hn).1;have:=h.z.c;simp only[Option.elim_some,K8,PZ,cond_false]
  cases hu:n.Up with
  | false=>rfl
  | true=>
   simp only[PZ,cond_false,if_true]
   rw[Gs h,K8,Cw (hc.mono (by omega)) ((HA h i).mono (by omega))]
   rfl
end Go.Fx.D
