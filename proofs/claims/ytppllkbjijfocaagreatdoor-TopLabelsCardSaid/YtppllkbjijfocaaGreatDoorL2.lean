/-
  The manager: what holds of its state behind every step, second part;the law over plain data: true at all inputs. Conditions: none.
-/
import Derived.Test.YtppllkbjijfocaaGreatDoorL1
namespace Go.Fx.D
open Go Go.Fx
set_option linter.unusedVariables false
set_option linter.unusedSimpArgs false
theorem wZ(a:Int){l:List Int}(hl:l.length≤100):di a l=some (l.foldl Od a):=by
 unfold di
 rw[(CV (λs i=>(s,i)) l Od (λ_ _=>True) (λs=>s) (step:=gT l) (by omega) (λk hk s _=>⟨by unfold gT;dsimp only;rw[ay hk,cond_true,aA hk];rfl,trivial⟩) (λs _=>by unfold gT;dsimp only;rw[az];rfl) (s:=a) trivial).1]
 rfl
theorem nB(n:Int):T (fp n):=aF (af (λ_=>ai _) λ_=>ai _) λ_=>af (λ_=>ai _) λ_=>ai _
theorem Cf(a:Int):Od a a=a:=by unfold Od;split<;>rfl
theorem Eb(total:Int){a b c:List Int}{n:Nat}(hn:n≤16)(ha:a.length=n)(hb:b.length=n)(hc:c.length=n):Gv (lS total a b c) λr=>r.length=n:=by
 have g:∀{l:List Int}{k:Nat},l.length=n→k<n→T (idx l (k:Int)):=λh hk=>t_eq (aA (h▸hk));have le:∀(x:Int)(l:List Int),l.length≤100→T (di x l):=λx l h=>t_eq (wZ x h);unfold lS
 rw[wZ _ (by simp),ha,hb,hc]
 simp only[List.foldl_cons,List.foldl_nil,Cf,IP]
 rw[kb (by omega) (by omega),IP]
 refine ab (nB total) λleft _=>ab (aT (λ(p:List Int×Int) i=>(p.1,p.2,i)) n (λp=>p.1.length=n) (step:=iC a b c n) (Q:=λr=>r.1.length=n) (by omega) (λk hk p hp=>?_) (λp hp=>?_) (s:=(_,left)) (by simp)) λq hq=>ab (aT (λ(p:List Int×Int) i=>(p.1,p.2,i)) n (λp=>p.1.length=n) (step:=iA b c n) (Q:=λr=>r.length=n) (by omega) (λk hk p hp=>?_) (λp hp=>?_) (s:=(q.1,q.2)) hq) λr hr=>ae hr
 ·unfold iC;dsimp only;rw[ay hk,cond_true]
  refine ab (g ha hk) λ_ _=>ab (nB _) λx1 _=>ab (g hb hk) λ_ _=>ab (nB _) λx3 _=>ab (g hc hk) λ_ _=>ab (nB _) λx5 _=>ab (le _ _ (by simp)) λx6 _=>?_
  rw[aH (by omega),IP,IR (by omega),IP,aH (by simp;omega),IP,IR (by simp;omega),IP]
  exact ae (.inl ⟨(_,_),rfl,by simpa using hp⟩)
 ·exact aw (a:=.inr (p.1,p.2)) (by unfold iC;dsimp only;rw[az];rfl) ⟨_,rfl,hp⟩
 ·unfold iA;dsimp only;rw[ay hk,cond_true]
  refine ab (g hb hk) λ_ _=>ab (nB _) λx1 _=>ab (g hc hk) λ_ _=>ab (nB _) λx3 _=>ab (le _ _ (by simp)) λx6 _=>?_
  rw[aH (by omega),IP,IR (by omega),IP]
  refine ab (le _ _ (by simp)) λx7 _=>?_
  simp only[IP,IR (show k<p.1.length by omega)]
  exact ae (.inl ⟨(_,_),rfl,by simpa using hp⟩)
 ·exact aw (a:=.inr p.1) (by unfold iA;dsimp only;rw[az];rfl) ⟨_,rfl,hp⟩
theorem jR{l:List Int}{k n:Nat}(hk:k<l.length)(hn:0<n)(v:Int):(LD l k n [v]).length=l.length:=by
 have:([v].take n).length=1:=by simp;omega
 unfold LD;rw[IT,IT,this,Ld,Na];simp;omega
section
variable{N:Nat}{s:GN}(h:J N s)
include h
theorem wR(label:Int):∀(k n:Nat)(p:Str)(mem:Int),k≤4→p.length≤2000→Gv (eY (n+k+1) s p label mem (5 - k)) λl=>l.length≤16 ^ k∧∀x∈l,x.J_.length≤2000
 | k,n,p,mem,hk,hp=>by
  show Gv (mB (eY (n+k)) s p label mem (5 - k)) _;unfold mB
  have h1:1≤16 ^ k:=Nat.pow_pos (by omega)
  refine ab (sX h.c p) λks hks=>ab (P:=λq=>q=false→1≤k) (af (λ_=>ae (by simp)) λ_=>ae λe=>by have:=of_decide_eq_false e;omega) λq hq=>af (λ_=>ae ⟨by simpa using h1,by simpa using hp⟩) λe=>?_
  have⟨k1,_,k3⟩:=xF h.c hks
  obtain⟨k,rfl⟩:∃m,k=m+1:=⟨k - 1,by have:=hq e;omega⟩
  have hp3:16 ^ k≤16 ^ 3:=Qe_ (by omega) (by omega)
  rw[kb (by omega) (by omega),IP,IP,IP]
  refine ab (aT (λ(r:KY) i=>(r,i)) ks.length (λr=>r.r0.length=ks.length∧r.r1.length=ks.length∧r.r2.length=ks.length) (step:=gu s label ks) (Q:=λr=>r.r0.length=ks.length∧r.r1.length=ks.length∧r.r2.length=ks.length) (by omega) (λj hj r ⟨g0,g1,g2⟩=>?_) (λr hr=>?_) (s:=⟨_,_,_⟩) ⟨by simp,by simp,by simp⟩) λr ⟨g0,g1,g2⟩=>ab (Eb mem k1 g0 g1 g2) λx5 h5=>ab (aJ (λ(l:List LZ) i=>(l,i)) ks.length (λj l=>l.length≤j*16 ^ k∧∀x∈l,x.J_.length≤2000) (step:=gm s label (5 - ((k+1:Nat):Int)) (eY (n+(k+1))) ks x5) (Q:=λl=>l.length≤16 ^ (k+1)∧∀x∈l,x.J_.length≤2000) (by omega) (λj hj l ⟨f1,f2⟩=>?_) (λl ⟨f1,f2⟩=>?_) ⟨by simp,by simp⟩) λl hl=>ae hl
  ·have hq:=(k3 _ (K_ hj)).1;unfold gu;dsimp only;rw[ay hj,cond_true,aH hj,IP,IR hj,IP]
   refine ab (n9 h hq label) λx1 _=>ab (jF h hq label) λx2 _=>ab (wW h hq label) λx3 _=>ab (Ar h hq label) λx4 _=>ab (gZ (by omega) (by omega) (by omega)) λp0 e0=>ab (aw (P:=λp=>p=(0,1)) rfl rfl) λp1 e1=>ab (gZ (by omega) (by omega) (by omega)) λp2 e2=>ab (aw (P:=λp=>p=(1,1)) rfl rfl) λp3 e3=>ab (gZ (by omega) (by omega) (by omega)) λp4 e4=>ab (aw (P:=λp=>p=(2,1)) rfl rfl) λp5 e5=>?_
   subst e0 e1 e2 e3 e4 e5
   exact ae (.inl ⟨_,rfl,(jR (by simp;omega) (by simp;omega) _).trans g0,(jR (by simp;omega) (by simp;omega) _).trans g1,(jR (by simp;omega) (by simp;omega) _).trans g2⟩)
  ·exact aw (a:=.inr r) (by unfold gu;dsimp only;rw[az];rfl) ⟨r,rfl,hr⟩
  ·have hj2:j*16 ^ k≤16*16 ^ 3:=WQ (by omega) hp3
   unfold gm;dsimp only
   rw[h5,ay hj,cond_true,aH hj,IP,IR (by omega),IP,IP,IR hj,IP,aG (by omega) (by omega),show(5 - ((k+1:Nat):Int))+1=5 - (k:Int)by omega]
   refine ab (wR label k n ks[j] _ (by omega) (k3 _ (K_ hj)).1) λm ⟨m1,m2⟩=>?_
   rw[bi (by simp;omega) (by omega)]
   exact ae (.inl ⟨_,rfl,by rw[IT,Nat.add_one_mul];omega,λx hx=>(Mi.1 hx).elim (f2 x) (m2 x)⟩)
  ·refine aw (a:=.inr l) (by unfold gm;dsimp only;rw[h5,az];rfl) ⟨l,rfl,?_,f2⟩
   have:=MW (16 ^ k) k1;rw[Nat.pow_succ,Nat.mul_comm];omega
theorem qu(label:Int):Gv (hZ s label) λl=>l.length≤65536∧∀x∈l,x.J_.length≤2000:=ab (nW h label) λx _=>ab (wR h label 4 59 _ x.Mem (by omega) (by decide)) λl hl=>ae hl
end
end Go.Fx.D
namespace Go.Fx
open Go
set_option linter.unusedVariables false
set_option linter.unusedSimpArgs false
section
variable{α κ : Type}[DecidableEq κ][BEq κ][LawfulBEq κ]{key:α→κ}
theorem wY{q q':κ}:∀{l:List α}{y z:α},key y=q'→Lp (λx=>q == key x) (Ll (λx=>q' == key x) l y) z=if q=q' then y else Lp (λx=>q == key x) l z
 | [],y,z,hy=>by
  unfold Lp Ll;subst hy;by_cases h:q=key y
  ·rw[if_pos h];simp[h]
  ·rw[if_neg h]
   have:(q == key y)=false:=by rw[beq_eq_false_iff_ne];exact h
   simp[List.find?,this]
 | x::l,y,z,hy=>by
  have ih:=wY (q:=q) (l:=l) (y:=y) (z:=z) hy;subst hy;unfold Ll
  cases hx:key y == key x with
  | true=>
   rw[cond_true]
   have hxy:key y=key x:=by simpa using hx
   unfold Lp;by_cases h:q=key y
   ·rw[if_pos h];simp[h]
   ·rw[if_neg h]
    have h1:(q == key y)=false:=by rw[beq_eq_false_iff_ne];exact h
    have h2:(q == key x)=false:=by rw[beq_eq_false_iff_ne,← hxy];exact h
    simp[List.find?,h1,h2]
  | false=>
   rw[cond_false];unfold Lp at ih ⊢
   cases hq:q == key x with
   | true=>
    have hqx:q=key x:=by simpa using hq
    have hne:q≠key y:=λe=>by rw[beq_eq_false_iff_ne]at hx;exact hx (e▸hqx)
    rw[if_neg hne];simp[List.find?,hq]
   | false=>simp only[List.find?,hq];exact ih
end
section
variable{α κ : Type}[BEq κ][LawfulBEq κ]{key:α→κ}
end
section
variable{α : Type}
theorem uC{p:α→Bool}:∀{l:List α}{y x:α},x∈Ll p l y→x=y∨x∈l
 | [],y,x,h=>by simpa[Ll]using h
 | a::l,y,x,h=>by
  unfold Ll at h
  cases hp:p a with
  | true=>
   rw[hp,cond_true]at h;rcases Li.1 h with h | h
   ·exact .inl h
   ·exact .inr (Pw _ h)
  | false=>
   rw[hp,cond_false]at h;rcases Li.1 h with h | h
   ·exact .inr (by simp[h])
   ·rcases uC h with h | h
    ·exact .inl h
    ·exact .inr (Pw _ h)
theorem yU{p:α→Bool}{l:List α}(h:Oc p l=true)(z:α):Lp p l z∈l∧p (Lp p l z)=true:=by
 unfold Oc at h;rw[List.any_eq_true]at h;obtain⟨x,hx,hp⟩:=h;unfold Lp
 cases hf:l.find? p with
 | none=>exact absurd hp (by simpa using QdT.1 hf x hx)
 | some y=>exact⟨QdI hf,QeN hf⟩
end
theorem qE:∀{l1 l2:List Nat},l1.Nodup→(∀x∈l1,x∈l2)→l1.length≤l2.length
 | [],_,_,_=>U1 _
 | a::l,l2,hn,hs=>by
  have hn':=Pv.1 hn
  have h:=qE (l2:=l2.erase a) hn'.2 (λx hx=>by
   have hxa:x≠a:=λe=>hn'.1 (e▸hx)
   exact(List.mem_erase_of_ne hxa).2 (hs x (by simp[hx])))
  have ha:=hs a (by simp)
  rw[List.length_erase_of_mem ha]at h;have:=List.length_pos_of_mem ha;simp only[Ri];omega
theorem Fc{n m:Nat}{seen:List Nat}(hn:seen.Nodup)(hl:∀x∈seen,x<n)(h:m+1+seen.length=n):∃k,k<n∧k∉seen:=by
 refine Classical.byContradiction λhc=>?_
 have hall:∀k∈List.range n,k∈seen:=by intro k hk;refine Classical.byContradiction λhk'=>hc ⟨k,WO.1 hk,hk'⟩
 have:=qE QfI hall;simp at this;omega
theorem zm{τ α ω : Type}(ob:ω){step:ω→τ→α→Option τ}{l:List α}:∀{m:Nat}{seen:List Nat}{t r r':τ},seen.Nodup→(∀x∈seen,x<l.length)→m+seen.length=l.length→NR step l m seen t r→NR step l m seen t r'→r'=r
 | 0,seen,t,r,r',_,_,_,h,h'=>by have h1:t=r:=h;have h2:t=r':=h';rw[← h1,← h2]
 | m+1,seen,t,r,r',hn,hl,hc,h,h'=>by
  obtain⟨k,hk,hks⟩:=Fc hn hl hc;obtain⟨t1,a1,b1⟩:=h k l[k] hks (IR hk);obtain⟨t2,a2,b2⟩:=h' k l[k] hks (IR hk)
  have:t1=t2:=by have:=a1 ob;rw[a2 ob]at this;exact(Option.some.inj this).symm
  subst this;refine zm ob ?_ ?_ ?_ b1 b2
  ·rw[Wz]
   exact⟨hn,by simp,λx hx y hy=>by rw[IU]at hy;subst hy;exactλe=>hks (e▸hx)⟩
  ·intro x hx;rcases Mi.1 hx with hx | hx
   ·exact hl x hx
   ·rw[IU]at hx;subst hx;exact hk
  ·simp;omega
theorem DO{τ α ω : Type}(ob:ω){t0:ω→Option τ}{step:ω→τ→α→Option τ}{l:List α}(I:List Nat→τ→Prop){t r:τ}(h0:∀ob,t0 ob=some t)(hI:I [] t)
  (hstep:∀seen t k (hk:k<l.length),I seen t→k∉seen→∃t',(∀ob,step ob t l[k]=some t')∧I (seen++[k]) t') (hend:∀seen t,I seen t→(∀k,k<l.length→k∈seen)→t=r):rng t0 step l=some r:=by
 have key:∀(m:Nat)(seen:List Nat)(t:τ),seen.Nodup→(∀x∈seen,x<l.length)→m+seen.length=l.length→I seen t→NR step l m seen t r:=by
  intro m
  induction m with
  | zero=>
   intro seen t hn hl hc hi;refine hend seen t hi λk hk=>?_;refine Classical.byContradiction λhks=>?_;have h1:(k::seen).Nodup:=Pv.2 ⟨hks,hn⟩
   have h2:=qE (l2:=List.range l.length) h1 (λx hx=>by
    rw[WO];rcases Li.1 hx with rfl | hx
    ·exact hk
    ·exact hl x hx)
   simp at h2;omega
  | succ m ih=>
   intro seen t hn hl hc hi k x hks hx;have hk:k<l.length:=(IS.1 hx).1;have hxe:l[k]=x:=(IS.1 hx).2;obtain⟨t',a,b⟩:=hstep seen t k hk hi hks;rw[hxe]at a;refine⟨t',a,ih _ _ ?_ ?_ ?_ b⟩
   ·rw[Wz]
    exact⟨hn,by simp,λa ha b hb=>by rw[IU]at hb;subst hb;exactλe=>hks (e▸ha)⟩
   ·intro x hx;rcases Mi.1 hx with hx | hx
    ·exact hl x hx
    ·rw[IU]at hx;subst hx;exact hk
   ·simp;omega
 have h:=key l.length [] t Zt (by simp) (by simp) hI
 have hx:∃r t,(∀ob,t0 ob=some t)∧NR step l l.length [] t r:=⟨r,t,h0,h⟩;unfold rng;rw[dif_pos hx];obtain⟨t',h1,h2⟩:=hx.choose_spec
 have:t'=t:=by have:=h1 ob;rw[h0 ob]at this;exact(Option.some.inj this).symm
 subst this
 rw[zm ob Zt (by simp) (by simp) h h2]
end Go.Fx
namespace Go.Fx.D
open Go Go.Fx
set_option linter.unusedVariables false
set_option linter.unusedSimpArgs false
def oval(k:Jv)(p:Str):Int:=(Lp (λx:I9=>p == x.k) k.over ⟨p,0⟩).v
def nval(k:Jv)(i:Int):Int:=(Lp (λx:Kk=>i == x.k) k.Lh ⟨i,0⟩).v
def Ta(k:Jv)(i:Int):Bool:=Oc (λx:Kt=>i == x.k) k.leaf
def lval(k:Jv)(i:Int):Str:=(Lp (λx:Kt=>i == x.k) k.leaf ⟨i,[]⟩).v
theorem Do(k:Jv)(c:Cont):ca k c=some ⟨k.s,k.label,Ll (λx:I9=>lval k c.Id == x.k) k.over ⟨lval k c.Id,I8 (oval k (lval k c.Id) - c.Kj.Mem)⟩,k.leaf,Ll (λx:Kk=>c.Id == x.k) k.Lh ⟨c.Id,I8 (nval k c.Id+1)⟩,I8 (k.gone+c.Kj.Mem)⟩:=rfl
def UZ(k:Jv)(a b:Str):Prop:=oval k b<oval k a∨(oval k b=oval k a∧Op.bytesLess a b=true)
theorem CE{k:Jv}{a b c:Str}(h:UZ k a b)(h':UZ k b c):UZ k a c:=by
 rcases h with h | ⟨h,l⟩<;>rcases h' with h' | ⟨h',l'⟩
 ·exact .inl (by omega)
 ·exact .inl (by omega)
 ·exact .inl (by omega)
 ·exact .inr ⟨by omega,qt l l'⟩
theorem H4{k:Jv}{a b:Str}(h:¬ UZ k a b)(h':¬ UZ k b a):a=b:=by
 unfold UZ at h h';refine Classical.byContradiction λhne=>?_;rw[not_or]at h h'
 have he:oval k a=oval k b:=by omega
 have h1:Op.bytesLess a b≠true:=λe=>h.2 ⟨he.symm,e⟩;have h2:Op.bytesLess b a≠true:=λe=>h'.2 ⟨he,e⟩
 exact h2 (vg (by simpa using h1) hne)
theorem zy(k:Jv)(ob:Obj)(t:Str)(e:Jl)(ht:t≠[]):∃b:Bool,(b=true↔UZ k e.k t)∧bg k ob t e=some (bif b then e.k else t):=by
 have h0:(t == ([]:List UInt8))=false:=by rw[beq_eq_false_iff_ne];exact ht
 refine⟨decide ((if(if oval k t<oval k e.k then(-1:Int)else if oval k e.k<oval k t then 1 else 0)≠0 then(if oval k t<oval k e.k then(-1:Int)else if oval k e.k<oval k t then 1 else 0)else(if Op.bytesLess e.k t=true then(-1:Int)else if e.k=t then 0 else 1))<0),?_,?_⟩
 ·rw[decide_eq_true_eq];unfold UZ;by_cases h1:oval k t<oval k e.k
  ·simp[h1]
  ·by_cases h2:oval k e.k<oval k t
   ·simp[h1,h2];omega
   ·have he:oval k t=oval k e.k:=by omega
    simp only[h1,h2,if_false,ne_eq,not_true_eq_false,he,false_or,true_and]
    cases hb:Op.bytesLess e.k t with
    | true=>simp
    | false=>
     simp only[Nb,if_false,iff_false]
     by_cases hq:e.k=t<;>simp[hq]
 ·unfold bg;rw[h0,cond_false];dsimp only;have e1:(Lp (λx6:I9=>t == x6.k) k.over (⟨t,0⟩:I9)).v=oval k t:=rfl;have e2:(Lp (λx7:I9=>e.k == x7.k) k.over (⟨e.k,0⟩:I9)).v=oval k e.k:=rfl;rw[e1,e2,ue,IP,uo,IP,B4,IP,IP];generalize decide (_<(0:Int))=q
  cases q<;>rfl
theorem Da(k:Jv)(ob:Obj)(e:Jl):bg k ob [] e=some e.k:=rfl
def Bst(k:Jv)(b:List Jl)(seen:List Nat)(t:Str):Prop:=
 (seen = []∧t = [])∨(t≠[]∧(∃j,j∈seen∧∃hj:j<b.length,b[j].k=t)∧∀j,j∈seen→∀hj:j<b.length,¬ UZ k b[j].k t)
theorem yY{k:Jv}{b:List Jl}(hb:∀e∈b,e.k≠[])(seen:List Nat)(t:Str)(j:Nat)(hj:j<b.length)(h:Bst k b seen t):∃t',(∀ob,bg k ob t b[j]=some t')∧Bst k b (seen++[j]) t':=by
 have Xv:∀p,¬ UZ k p p:=by
  intro p hp;rcases hp with hp | ⟨_,hp⟩
  ·omega
  ·rw[pj]at hp;cases hp
 rcases h with⟨rfl,rfl⟩ | ⟨h1,h2,h3⟩
 ·refine⟨b[j].k,λob=>Da k ob _,.inr ⟨hb _ (K_ hj),⟨j,by simp,hj,rfl⟩,?_⟩⟩
  intro i hi hi';simp only[OY,IU]at hi;subst hi;exact Xv _
 ·obtain⟨q,hq,_⟩:=zy k (.deferred none) t b[j] h1
  have hstep:∀ob,bg k ob t b[j]=some (bif q then b[j].k else t):=by
   intro ob;obtain⟨q',hq',e⟩:=zy k ob t b[j] h1
   have:q'=q:=by
    cases q<;>cases q'<;>simp_all
   rw[e,this]
  refine⟨_,hstep,?_⟩
  cases hqq:q with
  | true=>
   have aoa:=hq.1 hqq
   refine .inr ⟨hb _ (K_ hj),⟨j,by simp,hj,rfl⟩,?_⟩
   intro i hi hi' hbi;rcases Mi.1 hi with hi | hi
   ·exact h3 i hi hi' (CE hbi aoa)
   ·rw[IU]at hi;subst hi;exact Xv _ hbi
  | false=>
   have hnb:¬ UZ k b[j].k t:=λhx=>by rw[hq.2 hx]at hqq;cases hqq
   obtain⟨i,hi,hi',e⟩:=h2
   refine .inr ⟨h1,⟨i,by simp[hi],hi',e⟩,?_⟩
   intro i hi hi';rcases Mi.1 hi with hi | hi
   ·exact h3 i hi hi'
   ·rw[IU]at hi;subst hi;exact hnb
theorem EG{k:Jv}{b:List Jl}(hb:∀e∈b,e.k≠[]):Gv (rng (ω:=Obj) (λ_=>some ([]:List UInt8)) (bg k) b) λr=>Bst k b (List.range b.length) r:=by
 have pre:∀n,n≤b.length→∃t,Bst k b (List.range n) t:=by
  intro n
  induction n with
  | zero=>intro _;exact⟨[],.inl ⟨rfl,rfl⟩⟩
  | succ n ih=>
   intro hn
   obtain⟨t,ht⟩:=ih (by omega)
   obtain⟨t',_,ht'⟩:=yY hb _ t n (by omega) ht
   exact⟨t',by rw[List.range_succ];exact ht'⟩
 obtain⟨r,hr⟩:=pre b.length (Ku _);refine⟨r,DO (.deferred none) (Bst k b) (t:=[]) (λ_=>rfl) (.inl ⟨rfl,rfl⟩) (λseen t j hj hi _=>yY hb seen t j hj hi) ?_,hr⟩;intro seen t hi hall;rcases hi with⟨rfl,rfl⟩ | ⟨h1,⟨j,hj,hj',rfl⟩,h3⟩
 ·have:b.length=0:=by
   refine Classical.byContradiction λhne=>?_
   have:=hall 0 (by omega)
   simp at this
  rcases hr with⟨_,hr⟩ | ⟨_,⟨j,_,hj,_⟩,_⟩
  ·exact hr.symm
  ·omega
 ·rcases hr with⟨hr,_⟩ | ⟨_,⟨i,hi,hi',rfl⟩,k3⟩
  ·have:=congrArg List.length hr;rw[List.length_range,QeK]at this;omega
  ·exact H4 (k3 j (WO.2 hj') hj') (h3 i (hall i hi') hi')
def BOK(k:Jv)(b:List Jl):Prop:=∀e∈b,e.v∈k.s.IW∧Ta k e.v.Id=true∧lval k e.v.Id=e.k∧nval k e.v.Id≤0∧0<oval k e.k
theorem HD{k:Jv}(hc:k.s.IW.length≤200)(hne:∀i,Ta k i=true→lval k i≠[]) :
  Gv (eE k) λr=>r.2.2=k∧(r.2.1=true→r.1∈k.s.IW∧Ta k r.1.Id=true∧nval k r.1.Id≤0∧0<oval k (lval k r.1.Id)):=by
 unfold eE
 refine ab (aJ (Q:=BOK k) (λ(b:List Jl) i=>(b,i)) k.s.IW.length (λ_ b=>BOK k b) (step:=cX k) (by omega) ?_ ?_ (s:=[]) (λe he=>by cases he)) ?_
 ·intro i hi b hb;unfold cX;dsimp only;rw[ay hi,cond_true,aA hi,IP];refine ab (P:=BOK k) ?_ (λb' hb'=>ae (.inl ⟨b',rfl,hb'⟩));have hm:k.s.IW[i]∈k.s.IW:=K_ hi;generalize k.s.IW[i]=c at hm
  show Gv ((bif !(Ta k c.Id)then some true else bif decide (nval k c.Id>0)then some true else some (decide (oval k (lval k c.Id)≤0))).bind λq=>bif q then some b else _) (BOK k)
  have ai3:(bif !(Ta k c.Id)then some true else bif decide (nval k c.Id>0)then some true else some (decide (oval k (lval k c.Id)≤0)))=some (!(Ta k c.Id)||(decide (nval k c.Id>0)||decide (oval k (lval k c.Id)≤0))):=by
   cases Ta k c.Id<;>cases decide (nval k c.Id>0)<;>rfl
  rw[ai3,IP];refine af (λ_=>ae hb) (λhq=>?_);simp only[UJ,Bool.not_eq_false',decide_eq_false_iff_not]at hq;obtain⟨q1,q2,q3⟩:=hq;refine aF ?_ (λq=>?_)
  ·repeat (first | exact ae trivial | (refine af (λ_=>?_) (λ_=>?_)))
  ·refine af (λ_=>ae ?_) (λ_=>ae hb);intro e he;rcases uC he with rfl | he
   ·have z1:nval k c.Id≤0:=by omega
    have z2:0<oval k (lval k c.Id):=by omega
    exact⟨hm,q1,rfl,z1,z2⟩
   ·exact hb e he
 ·intro b hb;unfold cX;dsimp only;rw[az,cond_false];exact ae ⟨b,rfl,hb⟩
 ·intro b hb;refine ab (EG (λe he=>?_)) ?_
  ·obtain⟨_,h2,h3,_⟩:=hb e he;rw[← h3];exact hne _ h2
  ·intro f _;refine ae ⟨rfl,λhis=>?_⟩;obtain⟨h1,h2⟩:=yU (α:=Jl) (p:=λM_=>f == M_.k) his (⟨f,⟨0,0,0,⟨0,0⟩,0,0,false,0⟩⟩:Jl);obtain⟨k1,k2,k3,k4,k5⟩:=hb _ h1
   exact⟨k1,k2,k4,by rw[k3];exact k5⟩
structure LK(s:GN)(label M:Int)(k:Jv):Prop where
 s:k.s=s
 l:k.label=label
 f:∀e∈k.leaf,e.v≠[]
 v:∀i,0≤nval k i∧nval k i≤M
theorem LK.notice{s:GN}{label M:Int}{k:Jv}(h:LK s label M k)(hM:M≤1000)(c:Cont):Gv (ca k c) λr=>LK s label (M+1) r∧∀i,nval r i=if i=c.Id then nval k c.Id+1 else nval k i:=by
 have hv:=h.v c.Id;rw[Do]
 have e:∀i,nval (⟨k.s,k.label,Ll (λx:I9=>lval k c.Id == x.k) k.over ⟨lval k c.Id,I8 (oval k (lval k c.Id) - c.Kj.Mem)⟩,k.leaf,Ll (λx:Kk=>c.Id == x.k) k.Lh ⟨c.Id,I8 (nval k c.Id+1)⟩,I8 (k.gone+c.Kj.Mem)⟩:Jv) i=if i=c.Id then nval k c.Id+1 else nval k i:=λi=>by
  refine(congrArg Kk.v (wY (key:=λx:Kk=>x.k) (q:=i) (q':=c.Id) (l:=k.Lh) (y:=⟨c.Id,I8 (nval k c.Id+1)⟩) (z:=⟨i,0⟩) rfl)).trans ?_;split
  ·exact aG (x:=nval k c.Id+1) (by omega) (by omega)
  ·rfl
 refine ae ⟨⟨h.s,h.l,h.f,λi=>?_⟩,e⟩;rw[e i];have:=h.v i
 split<;>omega
theorem w9{α : Type}{p q:α→Bool}:∀{l:List α},(∀x∈l,q x=true→p x=true)→(∃x∈l,p x=true∧q x=false)→(l.filter q).length<(l.filter p).length
 | [],_,h=>by simp at h
 | x::l,h1,h2=>by
  have h3:(l.filter q).length≤(l.filter p).length:=by rw[← List.countP_eq_length_filter,← List.countP_eq_length_filter];exact List.countP_mono_left λy hy e=>h1 y (Pw _ hy) e
  have ih:=λh=>w9 (l:=l) (λy hy=>h1 y (Pw _ hy)) h;have hx:=h1 x WT;obtain⟨y,hy,e1,e2⟩:=h2;rcases Li.1 hy with rfl | hy
  ·simp[WS,e1,e2];omega
  ·have:=ih ⟨y,hy,e1,e2⟩
   cases e3:q x<;>cases e4:p x<;>simp_all [WS]<;>omega
section
variable{N:Nat}{s:GN}(h:J N s)(label:Int)
include h
theorem GE:Gv (kw s label) (LK s label 200):=by
 have hk:=h.k;unfold kw
 refine ab (qu h label) λls ⟨l1,l2⟩=>ab (aT (λ(k:Jv) i=>(k,i)) ls.length (λk=>k.s=s∧k.label=label∧k.leaf = []∧k.Lh = []) (step:=gU s label ls) (Q:=LK s label 0) (by omega) (λj hj k ⟨k1,k2,k3,k4⟩=>?_) (λk ⟨k1,k2,k3,k4⟩=>?_) ⟨rfl,rfl,rfl,rfl⟩) λk hk0=>ab (aJ (λ(k:Jv) i=>(k,i)) s.IW.length (λj k=>LK s label j k) (step:=gR s label) (Q:=LK s label 200) (by omega) (λj hj k hk=>?_) (λk hk=>?_) (s:=k) hk0) λk hk=>ae hk
 ·unfold gU;dsimp only;rw[ay hj,cond_true,aH hj,IP,IR hj,IP];exact ab (jF h (l2 _ (K_ hj)) label) λ_ _=>ae (.inl ⟨_,rfl,k1,k2,k3,k4⟩)
 ·refine aw (a:=.inr k) (by unfold gU;dsimp only;rw[az];rfl) ⟨k,rfl,k1,k2,by rw[k3];simp,λi=>?_⟩
  unfold nval;rw[k4];simp[Lp]
 ·unfold gR;dsimp only;rw[ay hj,cond_true,aA hj,IP]
  have up:∀k,LK s label j k→LK s label ((j+1:Nat):Int) k:=λk h=>⟨h.s,h.l,h.f,λi=>by have:=h.v i;omega⟩
  refine ab (P:=LK s label ((j+1:Nat):Int)) (af (λ_=>ae (up _ hk)) λ_=>?_) λk hk=>ae (.inl ⟨k,rfl,hk⟩);obtain⟨_,a,ha,e,_⟩:=h.kk _ (K_ hj);refine ab (P:=λr=>r.1.I4≠[]) ?_ λr hr=>?_
  ·rw[AA h]
   cases e2:fnd s s.IW[j].App with
   | none=>have:=QdT.1 e2 a ha;simp[e]at this
   | some b=>exact ae (h.ak b (QdI e2)).q.1
  ·have h2:LK s label j ⟨k.s,k.label,k.over,Ll (λx6=>s.IW[j].Id == x6.k) k.leaf (⟨s.IW[j].Id,r.1.I4⟩:Kt),k.Lh,k.gone⟩:=⟨hk.s,hk.l,λe he=>(uC he).elim (λe=>by rw[e];exact hr) (hk.f e),hk.v⟩
   exact af (λ_=>ab (h2.notice (by omega) _) λr hr=>ae hr.1) λ_=>ae (up _ h2)
 ·exact aw (a:=.inr k) (by unfold gR;dsimp only;rw[az];rfl) ⟨k,rfl,hk.s,hk.l,hk.f,λi=>by have:=hk.v i;omega⟩
theorem DM{k:Jv}(hk:k.s=s){p:Str}(hp:p.length≤2000):Gv (dN k p) λr=>r.2=k:=by
 have ha:=h.a;unfold dN;rw[hk]
 refine ab (jF h hp _) λx _=>ab (n9 h hp _) λx1 _=>ab (P:=λ_=>True) (aT (σ:=Unit) (λ_ i=>i) s.IY.length (λ_=>True) (by omega) (λj hj _ _=>?_) (λ_ _=>?_) (s:=()) trivial) ?_
 ·have hal:=(h.ak _ (K_ hj)).al;unfold eQ;rw[hk,ay hj,cond_true,aA hj,IP,iB,IP]
  refine ab (P:=λ_=>True) (aF (af (λ_=>ai _) λ_=>ai _) λ_=>af (λ_=>ai _) λ_=>ab (P:=λ_=>True) (aT (σ:=Unit) (λ_ i=>i) s.IY[j].Ju.length (λ_=>True) (by omega) (λi hi _ _=>?_) (λ_ _=>?_) (s:=()) trivial) ?_) ?_
  ·unfold eO;rw[ay hi,cond_true,aA hi,IP,hk];exact aF (af (λ_=>ai _) λ_=>ai _) λ_=>af (λ_=>ab (wW h hp _) λ_ _=>ae (.inr ⟨_,rfl,trivial⟩)) λ_=>ae (.inl ⟨(),rfl,trivial⟩)
  ·exact aw (a:=.inr (.inr ())) (by unfold eO;rw[az];rfl) ⟨_,rfl,trivial⟩
  ·rintro(q | q) _<;>exact ai _
  ·rintro(q | q) _
   ·exact ae (.inl ⟨(),rfl,trivial⟩)
   ·exact ae (.inr ⟨_,rfl,trivial⟩)
 ·exact aw (a:=.inr (.inr ())) (by unfold eQ;rw[hk,az];rfl) ⟨_,rfl,trivial⟩
 ·rintro(q | q) _<;>exact ae rfl
theorem F8{k:Jv}(hk:k.s=s):Gv (eC k) λr=>r.2=k:=by
 unfold eC;rw[hk]
 refine ab (qu h _) λls ⟨l1,l2⟩=>ab (aT (λ(p:Jv×Int) i=>(p.1,p.2,i)) ls.length (λp=>p.1=k) (step:=cT ls) (Q:=λr=>r.1=k) (by omega) (λj hj p hp=>?_) (λp hp=>?_) (s:=(k,0)) rfl) ?_
 ·unfold cT;dsimp only;rw[ay hj,cond_true,aH hj,IP,IR hj,IP,hp];exact ab (DM h hk (l2 _ (K_ hj))) λr hr=>ae (.inl ⟨(_,_),rfl,hr⟩)
 ·exact aw (a:=.inr (p.1,p.2)) (by unfold cT;dsimp only;rw[az];rfl) ⟨_,rfl,hp⟩
 ·rintro⟨k,m⟩ rfl;rw[hk]
  exact ab (nW h _) λ_ _=>ab (jF h (by decide) _) λ_ _=>ae rfl
theorem HO:Gv (j6 s label) λl=>l.length≤200∧∀i∈l,∃c∈s.IW,c.Id=i:=by
 have hcl:=h.k;unfold j6;refine ab (GE h label) λk hk=>ab (F8 h hk.s) ?_;rintro⟨need,k⟩ rfl
 refine ab (gL (λt:Jv×List Int=>LK s label 200 t.1∧t.2.length+(s.IW.filter λc=>decide (nval t.1 c.Id≤0)).length≤200∧∀i∈t.2,∃c∈s.IW,c.Id=i) (λt=>(s.IW.filter λc=>decide (nval t.1 c.Id≤0)).length) (Q:=λl=>l.length≤200∧∀i∈l,∃c∈s.IW,c.Id=i) ?_ ⟨hk,?_,by simp⟩) λl hl=>ae hl
 ·rintro⟨k,l⟩ ⟨hk,hl,hi⟩;dsimp only at hk hl hi;unfold pn
  refine af (λ_=>ab (HD (by rw[hk.s];omega) (λi hi=>?_)) ?_) λ_=>ae (.inr ⟨_,rfl,by dsimp only;omega,hi⟩)
  ·exact hk.f _ (yU hi _).1
  ·rintro⟨c,is,k2⟩ ⟨e,hc⟩;dsimp only at e hc;subst e
   refine af (λ_=>ae (.inr ⟨_,rfl,by dsimp only;omega,hi⟩)) λe=>?_
   obtain⟨c1,_,c2,_⟩:=hc (by simpa using e)
   rw[hk.s]at c1;have hv:=hk.v c.Id
   refine ab (hk.notice (by omega) c) λk3 ⟨n1,n2⟩=>?_
   dsimp only
   rw[bi (by simp;omega) (by omega),IP]
   have hlt:(s.IW.filter λd=>decide (nval k3 d.Id≤0)).length<(s.IW.filter λd=>decide (nval k2 d.Id≤0)).length:=w9 (λd hd=>by
    rw[n2];split
    ·simp;omega
    ·exact id) ⟨c,c1,by simpa using c2,by rw[n2,if_pos rfl];simp;omega⟩
   refine ae (.inl ⟨_,rfl,⟨⟨n1.s,n1.l,n1.f,λi=>?_⟩,by simp;omega,λi hi2=>?_⟩,hlt⟩)
   ·have:=n1.v i;have:=hk.v i;rw[n2]at *
    split at * <;> omega
   ·exact(Mi.1 hi2).elim (hi i) λe=>⟨c,c1,(IU.1 e).symm⟩
 ·have:=UK (λc:Cont=>decide (nval k c.Id≤0)) s.IW;simp only[QeK];omega
theorem Gx(c:Cont):T (jq s c):=by
 have hk:=h.k;unfold jq
 refine ab (pJ h _) λr ⟨⟨_,hq⟩,_⟩=>ab (jF h hq _) λx1 _=>ab (nE (n:=s.IW.length) (I:=λ_=>True) (by omega) (λ_ _=>rfl) (λj hj v _=>?_) trivial) λu _=>ab (qu h _) λls ⟨l1,_⟩=>?_
 ·dsimp only;rw[aA hj,IP];exact aF (af (λ_=>af (λ_=>af (λ_=>ai _) λ_=>ai _) λ_=>ai _) λ_=>ai _) λ_=>af (λ_=>ai _) λ_=>ai _
 ·have e:nM ls (λa'=>gV a'.1 r.1)=some (fx (λx:LZ=>x.J_ == r.1.I4) ls):=Uj (by omega) λt=>by simp[pw,gV]
  rw[e,IP];refine af (λh0=>?_) λ_=>ai _;obtain⟨k,hk,e,_⟩:=be (of_decide_eq_true h0);rw[e,aH hk,IP,IR hk];exact ai _
end
set_option linter.unusedVariables false
set_option linter.unusedSimpArgs false
def NS(s t:GN):Prop:=∃(i:Nat)(hi:i<s.IW.length)(v:Int),t = { s with IW:=s.IW.set i { s.IW[i]with L_:=v } }
section
variable{N:Nat}{s:GN}(h:J N s)
include h
theorem NS.j{t:GN}(g:NS s t):J N t:=by
 obtain⟨i,hi,v,rfl⟩:=g
 exact⟨h.c,h.n,h.a,h.ad,h.ak,by simpa using h.k,λc hc=>(SG hc).elim (h.kk c) λe=>by subst e;exact h.kk s.IW[i] (K_ hi),h.l,h.p,h.e,h.b,h.nk⟩
end
section
variable{I:GN→Prop}(hL:∀{M:Nat}{s t:GN},J M s→I s→LS s t→I t)(hV:∀{M:Nat}{s t:GN},J M s→I s→NS s t→I t)
include hL hV
theorem GF{N:Nat}(hN:N<990000){s:GN}(h:J N s)(hi:I s)(label:Int):Gv (jX s label) λt=>J (N+200) t∧I t:=by
 have hk:=h.k
 have key:∀l:List Cont,l.length≤200→Gv (WE (kD label) l s) λt=>J (N+l.length) t∧I t:=by
  intro l
  induction l with
  | nil=>exactλ_=>ae ⟨h,hi⟩
  | cons c l ih=>
   intro hl;have hl:l.length+1≤200:=hl
   refine ab (ih (by omega)) λt ⟨h,hi⟩=>?_
   have hk:=h.k
   have up:J (N+(c::l).length) t∧I t:=⟨h.mono (by simp) (by simp;omega),hi⟩
   unfold kD
   rw[cIx t.IW (by omega) (λx=>x.Id == c.Id) λx=>rfl,IP]
   refine ab (P:=λq=>q=false→0≤fx (λx:Cont=>x.Id == c.Id) t.IW) (af (λ_=>ae (by simp)) λh0=>?_) λq hq=>af (λ_=>ae up) λe=>ab (Gx h c) λ_ _=>af (λ_=>ab (sQ h I hL hi (ids:=[c.Id]) (by simp;omega)) λt ht=>ae ht) λ_=>?_
   ·have h0:=Int.not_lt.1 (of_decide_eq_false h0);obtain⟨k,hk,e,_⟩:=be h0;rw[e,aH hk,IP,IR hk,IP]
    exact ab (P:=λ_=>True) (af (λ_=>af (λ_=>ai _) λ_=>ai _) λ_=>ai _) λ_ _=>ae λ_=>by omega
   ·obtain⟨k,hk,e,_⟩:=be (hq e);rw[e,aH hk,IP,IR hk,IP]
    have g:NS t { t with IW:=t.IW.set k { t.IW[k]with L_:=0 } }:=⟨k,hk,0,rfl⟩
    exact ae ⟨g.j up.1,hV h hi g⟩
 unfold jX d7
 rw[bh (by omega) (by omega),IP]
 exact ab (key _ hk) λt ⟨h1,h2⟩=>ae ⟨h1.mono (by omega) (by omega),h2⟩
theorem Ez{N:Nat}(hN:N<980000){s:GN}(h:J N s)(hi:I s):Gv (jh s) λr=>J (N+600) r.1∧I r.1:=by
 have hl:=h.c.l;have hk:=h.k;unfold jh;rw[hF h,IP]
 refine ab (aJ (λ(s:GN) i=>(s,i)) s.I6.I7.length (λj t=>J (N+j*200) t∧I t) (step:=gn s) (Q:=λt=>J (N+600) t∧I t) (by omega) (λj hj t ⟨h,hi⟩=>?_) (λt ⟨h,hi⟩=>?_) ⟨by simpa using h,hi⟩) λt ht=>?_
 ·unfold gn;dsimp only;rw[ay hj,cond_true]
  refine ab (GF hL hV (by omega) h hi _) λu ⟨h,hi⟩=>ab (HO h _) λids ⟨l1,l2⟩=>ab (aT (λ(s:GN) i=>(s,i)) ids.length (λt=>J (N+j*200+200) t∧I t∧t.IW.map (·.Id)=u.IW.map (·.Id)) (step:=gv ids) (Q:=λt=>J (N+j*200+200) t∧I t) (by omega) (λm hm t ⟨h,hi,e⟩=>?_) (λt ⟨h,hi,e⟩=>?_) ⟨h,hi,rfl⟩) λt ⟨h,hi⟩=>ae (.inl ⟨t,rfl,by rw[Nat.add_one_mul,← Pq];exact h,hi⟩)
  ·have hk:=h.k;unfold gv;dsimp only
   rw[ay hm,cond_true,aH hm,IP,IR hm,IP,cIx t.IW (by omega) (λx=>x.Id == ids[m]) λx=>rfl,IP]
   have h0:0≤fx (λx:Cont=>x.Id == ids[m]) t.IW:=by
    by_cases h1:0≤fx (λx:Cont=>x.Id == ids[m]) t.IW
    ·exact h1
    ·obtain⟨c,hc,ec⟩:=l2 _ (K_ hm);have:c.Id∈t.IW.map (·.Id):=e▸Zy hc;obtain⟨d,hd,ed⟩:=Ot.1 this;have:=(cH (SC.1 h1)).2.2 d hd;simp[ed,ec]at this
   obtain⟨k,hk,e1,_⟩:=be h0;rw[e1,aH hk,IP,IR hk,IP]
   have g:NS t { t with IW:=t.IW.set k { t.IW[k]with L_:=imax t.Now 1 } }:=⟨k,hk,_,rfl⟩
   have e2:(t.IW.set k { t.IW[k]with L_:=imax t.Now 1 }).map (·.Id)=t.IW.map (·.Id):=Vh hk rfl
   exact ae (.inl ⟨_,rfl,g.j h,hV h hi g,e2.trans e⟩)
  ·exact aw (a:=.inr t) (by unfold gv;dsimp only;rw[az];rfl) ⟨t,rfl,h,hi⟩
 ·exact aw (a:=.inr t) (by unfold gn;dsimp only;rw[az];rfl) ⟨t,rfl,h.mono (by omega) (by omega),hi⟩
 ·have hk2:=ht.1.k
  refine ab (aJ (λ(l:List Int) i=>(l,i)) s.IW.length (λk l=>l.length≤k) (step:=gp s t) (Q:=λl=>l.length≤200) (by omega) (λk hk l h1=>?_) (λl h1=>?_) (by simp)) λl hl=>?_
  ·unfold gp j7;dsimp only
   rw[ay hk,cond_true,aA hk,IP,cIx t.IW (by omega) (λx=>x.Id == s.IW[k].Id) λx=>rfl,IP,IP]
   refine ab (P:=λm=>m.length≤k+1) (af (λ_=>?_) λ_=>ae (by omega)) λm hm=>ae (.inl ⟨m,rfl,hm⟩)
   rw[bi (by simp;omega) (by omega)]
   exact ae (by simp;omega)
  ·exact aw (a:=.inr l) (by unfold gp;dsimp only;rw[az];rfl) ⟨l,rfl,by omega⟩
  ·refine ab (P:=λ_=>True) ?_ λ_ _=>ae ht;unfold bv P6 P5
   cases l with
   | nil=>exact ai _
   | cons x l=>rw[List.isEmpty_cons,cond_false,if_pos ⟨by simp,by omega⟩];exact ai _
end
set_option linter.unusedVariables false
set_option linter.unusedSimpArgs false
theorem aar{α : Type}{l ys:List α}{a n:Nat}(h:a+min n ys.length≤l.length):(LD l a n ys).length=l.length:=by unfold LD;simp only[IT,Ld,Na];omega
theorem Ia{l:List Int}(h:l.length≤1000000):Gv (bv l) λr=>r.length=l.length:=by
 unfold bv P6 P5
 cases l with
 | nil=>exact ae rfl
 | cons x l=>rw[List.isEmpty_cons,cond_false,if_pos ⟨by simp,by omega⟩];exact ae (List.length_mergeSort _)
theorem wG(a b:Int):T (d_ a b):=af (λ_=>ai _) λ_=>ai _
section
variable{l:List Jd}(hl:l.length≤12)
include hl
theorem aoL(label t:Int):T (sH l label t):=by
 unfold sH
 refine ab (nE (n:=l.length) (I:=λ_=>True) (by omega) (λ_ _=>rfl) (λj hj v _=>?_) trivial) λu _=>ai _
 dsimp only;rw[aA hj,IP];exact aF (af (λ_=>af (λ_=>ai _) λ_=>ai _) λ_=>ai _) λ_=>af (λ_=>ab (mu _ _) λ_ _=>ai _) λ_=>ai _
theorem HW(total:Vec)(p:Jd)(t long:Int):T (pa l total p t long):=by
 unfold pa
 refine ab (aJ (λ(m:List Int) i=>(m,i)) l.length (λk m=>m.length≤k+1) (step:=kg l t long) (Q:=λm=>m.length≤13) (by omega) (λk hk m h1=>?_) (λm h1=>?_) (by simp)) λm hm=>?_
 ·unfold kg;dsimp only;rw[ay hk,cond_true,aA hk,IP]
  refine ab (P:=λm=>m.length≤k+1+1) (aF (af (λ_=>ai _) λ_=>ai _) λb=>af (λ_=>?_) λ_=>ae (by omega)) λm hm=>ae (.inl ⟨m,rfl,hm⟩)
  rw[bi (by simp;omega) (by omega)]
  exact ae (by simp;omega)
 ·exact aw (a:=.inr m) (by unfold kg;dsimp only;rw[az];rfl) ⟨m,rfl,by omega⟩
 ·have hf:∀x,T (jb x l p total):=λx=>ab (aoL hl _ _) λ_ _=>ab (mu _ _) λ_ _=>af (λ_=>ai _) λ_=>ab (k_ _ _) λ_ _=>ai _;unfold bf
  rw[iIx m (by omega) (λx=>(jb x l p total).getD false) λx=>by obtain⟨b,e,_⟩:=hf x;show jb x l p total=_;rw[e];rfl]
  exact ai _
theorem G0(total:Vec)(p:Jd)(long:Int):T (mZ l total p long):=by
 unfold mZ;refine aF ?_ λ_=>af (λ_=>ai _) λ_=>?_
 ·repeat' (first | exact ai _ | refine ab (wG _ _) λ_ _=>?_ | refine af (λ_=>?_) λ_=>?_)
 ·unfold PV
  rw[aG (by omega) (by omega),if_pos ⟨by omega,by omega,by unfold maxLen;omega,by omega⟩]
  refine ab (aw (P:=λm:List Int=>m.length=1) rfl (by simp)) λm h1=>ab (da (by omega) (by omega)) λi hi=>ab (c_ (by omega)) λx _=>ab (aJ (λ(m:List Int) i=>(m,i)) l.length (λk m=>m.length≤k+1) (step:=jl l p) (Q:=λm=>m.length≤13) (by omega) (λk hk m h1=>?_) (λm h1=>?_) (by simp;omega)) λm hm=>ab (Ia (by omega)) λr hr=>ab (P:=λ_=>True) (aT (σ:=Unit) (λ_ i=>i) r.length (λ_=>True) (by omega) (λi hi _ _=>?_) (λ_ _=>?_) (s:=()) trivial) ?_
  ·unfold jl;dsimp only;rw[ay hk,cond_true,aA hk,IP]
   refine ab (P:=λm=>m.length≤k+1+1) (af (λ_=>?_) λ_=>ae (by omega)) λm hm=>ae (.inl ⟨m,rfl,hm⟩)
   rw[bi (by simp;omega) (by omega)]
   exact ae (by simp;omega)
  ·exact aw (a:=.inr m) (by unfold jl;dsimp only;rw[az];rfl) ⟨m,rfl,by omega⟩
  ·unfold mD;rw[ay hi,cond_true,aH hi,IP,IR hi,IP];exact aF (af (λ_=>ab (HW hl _ _ _ _) λ_ _=>ai _) λ_=>ai _) λ_=>af (λ_=>ae (.inr ⟨_,rfl,trivial⟩)) λ_=>ae (.inl ⟨(),rfl,trivial⟩)
  ·exact aw (a:=.inr (.inr ())) (by unfold mD;rw[az];rfl) ⟨_,rfl,trivial⟩
  ·rintro(q | q) _<;>exact ai _
end
theorem lIx{f:Jk fam [.st 9]→Option Bool}(s:List Jd)(hn:s.length≤1000000)(p:Jd→Bool)(hf:∀x,f (x,())=some (p x)):gG s f=some (fx p s):=Uj hn λt=>by simp[nH,hf]
theorem ams{f:Jk fam [.st 9]→Option Bool}(s:List Jd)(hn:s.length≤1000000)(p:Jd→Bool)(hf:∀x,f (x,())=some (p x)):jm s f=some (s.filter λx=>!p x):=by
 unfold jm;rw[lIx s hn p hf]
 exact dlf _ hn λt=>by simp[nR,hf]
section
variable{N:Nat}{s:GN}(h:J N s)
include h
theorem J.plans{l:List Jd}(hl:l.length≤12):J N { s with Ji:=l }:=⟨h.c,h.n,h.a,h.ad,h.ak,h.k,h.kk,h.l,hl,h.e,h.b,h.nk⟩
theorem GC(i:Int):Gv (ph s i) λr=>J N r.1∧r.1.IW=s.IW:=by
 have hp:=h.p;unfold ph
 rw[hF h,IP,lIx s.Ji (by omega) (λx=>x.Id == i) λx=>rfl,IP]
 refine af (λ_=>ae ⟨h,rfl⟩) λh0=>?_;obtain⟨k,hk,e,_⟩:=be (Int.not_lt.1 (of_decide_eq_false h0));unfold mG del
 rw[e,Rb (by omega),if_pos (by omega),IP]
 exact ae ⟨h.plans (by simp;omega),rfl⟩
theorem GW(p:Jd)(long:Int):Gv (qp s p long) λr=>J N r.1∧r.1.IW=s.IW:=by
 have hp:=h.p;unfold qp;rw[hF h,IP]
 obtain⟨k,hk,e1⟩:=Zh (l:=s.Ji) (p:=λx=>decide (x.Id<p.Id)) (step:=tz p s) (by omega) λk=>rfl
 have same:∀a b,Gv (some (s,a,b)) λr:GN×Int×Int=>J N r.1∧r.1.IW=s.IW:=λ_ _=>ae ⟨h,rfl⟩;rw[e1,IP];unfold mH
 rw[lIx s.Ji (by omega) (λx=>x.Id == p.Id) λx=>rfl]
 refine aF ?_ λ_=>af (λ_=>same _ _) λ_=>af (λ_=>same _ _) λ_=>af (λ_=>same _ _) λh12=>af (λ_=>same _ _) λ_=>ab (nW h _) λx5 _=>ab (G0 hp x5 p long) λx6 _=>af (λ_=>same _ _) λ_=>?_
 ·repeat' (first | exact ai _ | refine ab (wG _ _) λ_ _=>?_ | refine af (λ_=>?_) λ_=>?_)
 ·have h12:=of_decide_eq_false h12
  rw[Rb (by omega),kb (by omega) (by omega),IP]
  refine ab (gZ (by omega) (by omega) (by omega)) λp1 e1=>?_
  subst e1
  have e2:(LD (List.replicate (s.Ji.length+1) (⟨0,0,0,0,⟨0,0⟩⟩:Jd)) 0 (List.replicate (s.Ji.length+1) (⟨0,0,0,0,⟨0,0⟩⟩:Jd)).length (sub s.Ji (0:Int).toNat ((k:Int).toNat - (0:Int).toNat))).length=s.Ji.length+1:=by
   rw[aar (by simp[sub];omega)];simp
  refine ab (da (by omega) (by dsimp only;omega)) λi ei=>ab (c_ (by dsimp only;omega)) λx7 _=>?_
  rw[Rb (by omega)]
  refine ab (gZ (by omega) (by rw[RB];dsimp only;omega) (by omega)) λp2 e3=>ab (gZ (by omega) (by omega) (by omega)) λp3 e4=>ae ⟨h.plans ?_,rfl⟩
  subst e3 e4;dsimp only at e2 ⊢
  rw[aar (by simp only[RB,sub,Ld,Na]at *;omega),RB]
  omega
end
set_option linter.unusedVariables false
set_option linter.unusedSimpArgs false
theorem Sub.trans{s t u:GN}(h:Sub s t)(k:Sub t u):Sub s u:=λc hc=>by obtain⟨d,hd,e⟩:=k c hc;obtain⟨f,hf,e2⟩:=h d hd;exact⟨f,hf,e2.trans e⟩
theorem LS.sub{s t:GN}(h:LS s t):Sub s t:=by
 rcases h with rfl | ⟨i,hi,j,hj,_,⟨_,rfl⟩ | ⟨_,g,q,_,_,rfl⟩⟩
 ·exact Sub.of rfl
 ·exactλc hc=>⟨c,(WR.1 hc).1,rfl⟩
 ·exactλc hc=>⟨c,(Mi.1 hc).elim U3 XD,rfl⟩
theorem NS.sub{s t:GN}(h:NS s t):Sub s t:=by
 obtain⟨i,hi,v,rfl⟩:=h
 exactλc hc=>(SG hc).elim (λh=>⟨c,h,rfl⟩) λe=>by subst e;exact⟨s.IW[i],K_ hi,rfl⟩
theorem Ha{α : Type}{l:List α}{k:Nat}(hk:k<l.length){a:α}(h:a∈l)(hne:a≠l[k]):a∈l.take k++l.drop (k+1):=by
 rw[← Uo k l,QdH hk]at h;rcases Mi.1 h with h | h
 ·exact Mi.2 (.inl h)
 ·exact Mi.2 (.inr ((Li.1 h).resolve_left hne))
theorem s_{α : Type}(l:List α)(k:Nat):(l.take k++l.drop (k+1)).Sublist l:=by
 conv=>rhs;rw[← Uo k l]
 exact(List.Sublist.refl _).append (by rw[← Zr];exact List.drop_sublist _ _)
theorem Gn{l:List App}(hl:l.length≤16):pb l=some ((l.filter live).length:Int):=by
 have key:Gv (loop (ig l) (0,0)) λn=>n=((l.filter live).length:Int):=by
  refine aJ (λ(n:Int) i=>(n,i)) l.length (λk n=>n=(((l.take k).filter live).length:Int)) (step:=ig l) (by omega) (λk hk n hn=>?_) (λn hn=>?_) (s:=0) (by simp)
  ·have h2:=UK live (l.take k);rw[Ld]at h2;unfold ig;dsimp only;rw[ay hk,cond_true,aA hk,IP,iB,IP];refine ab (P:=λn=>n=(((l.take (k+1)).filter live).length:Int)) ?_ λn hn=>ae (.inl ⟨n,rfl,hn⟩);rw[U4 hk,Zx];refine af (λe=>ae ?_) λe=>ae ?_
   ·rw[aG (x:=n+1) (by omega) (by omega),hn];simp[e]
   ·rw[hn];simp[e]
  ·refine aw (a:=.inr n) (by unfold ig;dsimp only;rw[az];rfl) ⟨n,rfl,?_⟩
   rwa [Um]at hn
 obtain⟨n,e,hn⟩:=key;unfold pb;rw[e,hn];rfl
section
variable{N:Nat}{s:GN}(h:J N s)
include h
theorem J.af9{j:Nat}(hj:j<s.IY.length){y:App}(hid:y.Id=s.IY[j].Id)(hy:JA N y):J N (Ob { s with IY:=s.IY.set j y } s.IY[j].Id):=by
 refine⟨h.c,h.n,by simpa[Ob]using h.a,TT hj hid h.ad,λx hx=>(SG hx).elim (h.ak x) λe=>e▸hy,MJ (UK _ _) h.k,λc hc=>?_,MJ (UK _ _) h.l,h.p,h.e,h.b,h.nk⟩
 have⟨hc1,hc2⟩:=WR.1 hc;obtain⟨h1,a,ha,h2,h3⟩:=h.kk c hc1;refine⟨h1,?_⟩;rcases mem_set hj ha with rfl | ha
 ·simp[← h2]at hc2
 ·exact⟨a,ha,h2,h3⟩
theorem Il(i st:Int):Gv (qI s i st) λr=>J N r.1∧Sub s r.1:=by
 have ha:=h.a;unfold qI
 rw[qB h,IP,sI (by omega),IP]
 refine ab (P:=λq=>q=false→0≤ax s i) (af (λ_=>ae (by simp)) λh0=>?_) λq hq=>af (λ_=>ae ⟨h,Sub.of rfl⟩) λe=>?_
 ·have h0:=Int.not_lt.1 (of_decide_eq_false h0);obtain⟨k,hk,e,_⟩:=be h0
  rw[show ax s i=k from e,aH hk,IP,IR hk,IP,iB]
  exact ae λ_=>by omega
 ·obtain⟨k,hk,e,hp,_⟩:=be (hq e)
  have hid:s.IY[k].Id=i:=by simpa using hp
  rw[show ax s i=k from e,aH hk,IP,IR hk,IP,IP,IR hk,IP,Bv]
  obtain⟨g,e⟩:=yA (N:=N) (s:={ s with IY:=s.IY.set k ⟨s.IY[k].Id,st,s.IY[k].I4,s.IY[k].User,s.IY[k].Jt,s.IY[k].I5,[],s.IY[k].Kz,s.IY[k].J6,[],[],[],[]⟩ }) ⟨h.k,MJ h.l h.b⟩ i
  refine ab (aw (P:=λr=>r.1=Ob { s with IY:=s.IY.set k ⟨s.IY[k].Id,st,s.IY[k].I4,s.IY[k].User,s.IY[k].Jt,s.IY[k].I5,[],s.IY[k].Kz,s.IY[k].J6,[],[],[],[]⟩ } i) e rfl) λr hr=>ae ?_
  dsimp only;rw[hr,← hid]
  exact⟨h.af9 hk rfl ⟨by simp,by simp,by simp,by simp,by simp,by simp,(h.ak _ (K_ hk)).q⟩,λc hc=>⟨c,(WR.1 hc).1,rfl⟩⟩
theorem anu{i:Nat}{y:App}(hl:s.IY.length≤15)(hn:∀a∈s.IY,a.Id≠y.Id)(hy:JA N y):J N { s with IY:=s.IY.take i++[y]++s.IY.drop i }:=by
 have hp:(s.IY.take i++[y]++s.IY.drop i).Perm (y::s.IY):=by rw[MF];exact List.perm_middle.trans (.of_eq (congrArg (y::·) (Uo i s.IY)))
 refine⟨h.c,h.n,by show(_:List App).length≤16;rw[hp.length_eq];simp;omega,?_,λx hx=>(nD hx).elim (h.ak x) λe=>e▸hy,h.k,λc hc=>?_,h.l,h.p,h.e,h.b,h.nk⟩
 ·refine(hp.map (·.Id)).nodup_iff.2 (Pv.2 ⟨λhm=>?_,h.ad⟩);obtain⟨a,ha,e⟩:=Ot.1 hm;exact hn a ha e
 ·obtain⟨h1,a,ha,h2,h3⟩:=h.kk c hc;exact⟨h1,a,hp.mem_iff.2 (Pw _ ha),h2,h3⟩
theorem Dk(a:App):Gv (lW s a) λr=>J N r.1∧r.1.IW=s.IW:=by
 have ha:=h.a;have same:∀e,Gv (some (s,e)) λr:GN×Int=>J N r.1∧r.1.IW=s.IW:=λ_=>ae ⟨h,rfl⟩;unfold lW;rw[qB h];simp only[Bf,IP]
 rw[sI (by omega),IP,Gn ha,IP]
 refine aF ?_ λ_=>af (λ_=>same _) λ_=>af (λ_=>same _) λh0=>af (λ_=>same _) λh16=>ab (Ax h.c _) λb hb=>af (λ_=>same _) λeb=>?_
 ·repeat' (first | exact ai _ | refine af (λ_=>?_) λ_=>?_)
 obtain⟨q,hq,eq⟩:=hb (by simpa using eb)
 have hq:=(h.c.k q hq).2.1;rw[eq]at hq;have hno:=(cH (SC.1 (of_decide_eq_false h0))).2.2;have h16:=of_decide_eq_false h16
 have over:∀x:App,oS x=some (!live x):=λx=>by unfold oS;rw[iB];rfl
 rw[pIx s.IY (by omega) (λx=>!live x) over,IP]
 refine ab (P:=λu=>J N u∧u.IY.length≤15∧(∀x∈u.IY,x∈s.IY)∧u.IW=s.IW) ?_ λu ⟨hu,anB,hsub,hc⟩=>?_
 ·refine ab (P:=λq=>(q=true→0≤fx (λx=>!live x) s.IY)∧(q=false→s.IY.length≤15)) (af (λe=>ae ⟨λe=>of_decide_eq_true e,λe2=>?_⟩) λe=>ae ⟨by simp,λ_=>by have:=of_decide_eq_false e;omega⟩) λq ⟨q1,q2⟩=>af (λe=>?_) λe=>ae ⟨h,q2 e,λ_ h=>h,rfl⟩
  ·have:=(cH (SC.1 (of_decide_eq_false e2))).2.2
   rw[QeX.2 (λx hx=>by have:=this x hx;simpa using this)]at h16
   omega
  ·obtain⟨k,hk,e1,hp,_⟩:=be (q1 e);unfold nU del
   rw[e1,Rb (by omega),if_pos (by omega),IP]
   have hs:=s_ s.IY k;refine ae ⟨⟨h.c,h.n,MJ hs.length_le h.a,(hs.map _).nodup h.ad,λx hx=>h.ak x (hs.mem hx),h.k,λc hc=>?_,h.l,h.p,h.e,h.b,h.nk⟩,?_,λx hx=>hs.mem hx,rfl⟩
   ·obtain⟨k1,b,hb,k2,k3⟩:=h.kk c hc
    exact⟨k1,b,Ha hk hb (λe=>by rw[← e,k3]at hp;cases hp),k2,k3⟩
   ·show(s.IY.take k++s.IY.drop (k+1)).length≤15;simp;omega
 ·have hu2:∀x∈u.IY,x.Id≠a.Id:=λx hx e=>by have:=hno x (hsub x hx);simp[e]at this
  rw[yr,IP];unfold nK
  have hax:ax u a.Id<0:=SC.1 λh1=>by
   obtain⟨k,hk,_,hp,_⟩:=be h1
   exact hu2 _ (K_ hk) (by simpa using hp)
  rw[sI (by omega),IP,decide_eq_false (show¬ (ax u a.Id≥0)by omega),cond_false]
  obtain⟨k,hk,e⟩:=Zh (l:=u.IY) (p:=λx=>decide (x.Id<a.Id)) (step:=tx u ⟨a.Id,1,a.I4,a.User,a.Jt,a.I5,[fst ⟨a.Id,1,a.I4,a.User,a.Jt,a.I5,[],u.Now,0,[],[],[],[]⟩],u.Now,0,[],[],[],[]⟩) (by omega) λk=>rfl
  refine ab (ab (aw (P:=λk1=>k1=(k:Int)) e rfl) ?_) λx hx=>ae hx;rintro _ rfl;unfold oy ins
  rw[if_pos ⟨by omega,by omega,rfl,by omega⟩,IP]
  exact ae ⟨anu hu anB hu2 ⟨by simp,by simp[fst],by simp,by simp,by simp,by simp,hq.2,hq.1⟩,hc⟩
end
set_option linter.unusedVariables false
set_option linter.unusedSimpArgs false
theorem uU{α : Type}{n:Nat}{body:List α→Int→Option (List α)}{step:List α×Int→Option ((List α×Int) ⊕ List α)}(hn:n≤1000)(hs:∀s i,step (s,i)=bif decide (i<(n:Int))then(body s i).bind λo=>some (.inl (o,I8 (i+1)))else some (.inr s))
  (hb:∀k,k<n→∀s:List α,s.length≤1000→Gv (body s (k:Int)) λm=>m.length≤s.length+1):Gv (loop step ([],0)) λl=>l.length≤n:=by
 refine aJ (λ(s:List α) i=>(s,i)) n (λk l=>l.length≤k) (by omega) (λk hk s h=>?_) (λs h=>?_) (s:=[]) (by simp)
 ·rw[hs,ay hk]
  exact ab (hb k hk s (by omega)) λo ho=>ae (.inl ⟨o,rfl,by omega⟩)
 ·rw[hs,az];exact ae ⟨s,rfl,h⟩
theorem one{b:Bool}{l:List Int}{x:Int}(hl:l.length≤1000):Gv (bif b then(app 8 l [x]).bind λl=>some l else some l) λm=>m.length≤l.length+1:=by
 refine af (λ_=>?_) λ_=>ae (by omega)
 rw[bi (by simp;omega) (by omega)]
 exact ae (by simp)
section
variable{N:Nat}{t:Step}(h:J N t.s)
include h
theorem xA(n:Int):Gv (dq t n) λl=>l.length≤200:=by
 have hk:=h.k
 exact ab (uU (by omega) (λ_ _=>rfl) λk hk l hl=>by dsimp only;rw[aA hk];exact one hl) λl hl=>ae (by omega)
theorem xc(n:Int):T (dO t n):=by
 have hk:=h.k
 exact ab (uU (by omega) (λ_ _=>rfl) λk hk l hl=>by dsimp only;rw[aA hk,IP];exact ab (P:=λ_=>True) (af (λ_=>ai _) λ_=>ai _) λ_ _=>one hl) λl hl=>ai _
theorem Bu(n:Int):Gv (gi t n) λl=>l.length≤200:=by
 have hk:=h.k
 exact ab (uU (by omega) (λ_ _=>rfl) λk hk l hl=>by dsimp only;rw[aA hk,IP];exact ab (P:=λ_=>True) (af (λ_=>ai _) λ_=>ai _) λ_ _=>one hl) λl hl=>ae (by omega)
theorem vM{ids:List Int}(hl:ids.length≤400000):T (ce t ids):=by
 have hk:=h.k;unfold ce
 refine ab (aJ (λ(l:List Cont) i=>(l,i)) ids.length (λk l=>l.length≤k*200) (step:=dn t ids) (Q:=λ_=>True) (by omega) (λk hk2 l h1=>?_) (λl h1=>?_) (by simp)) λl _=>ai _
 ·unfold dn;dsimp only;rw[ay hk2,cond_true,aA hk2,IP]
  refine ab (aJ (λ(l:List Cont) i=>(l,i)) t.s.IW.length (λj m=>m.length≤k*200+j) (step:=dt t ids[k]) (Q:=λm=>m.length≤(k+1)*200) (by omega) (λj hj m h2=>?_) (λm h2=>?_) (s:=l) h1) λm hm=>ae (.inl ⟨m,rfl,hm⟩)
  ·unfold dt;dsimp only;rw[ay hj,cond_true,aA hj,IP]
   refine ab (P:=λm=>m.length≤k*200+(j+1)) (af (λ_=>?_) λ_=>ae (by omega)) λm hm=>ae (.inl ⟨m,rfl,hm⟩)
   rw[DS (by simp;omega) (by omega)]
   exact ae (by simp;omega)
  ·exact aw (a:=.inr m) (by unfold dt;dsimp only;rw[az];rfl) ⟨m,rfl,by omega⟩
 ·exact aw (a:=.inr l) (by unfold dn;dsimp only;rw[az];rfl) ⟨l,rfl,trivial⟩
end
theorem J.era{N:Nat}{s:GN}(h:J N s)(k:Nat):J N { s with IW:=s.IW.take k++s.IW.drop (k+1) }:=by have hs:=s_ s.IW k;exact⟨h.c,h.n,h.a,h.ad,h.ak,MJ hs.length_le h.k,λc hc=>h.kk c (hs.mem hc),h.l,h.p,h.e,h.b,h.nk⟩
abbrev OS(R:GN→Prop)(r:Output×Step):Prop:=r.1.Err≠0∨R r.2.s
theorem eT{R:GN→Prop}{e:Int}(he:e≠0)(t:Step):Gv ((aO e).bind λx=>some (x,t)) (OS R):=ae (.inl he)
theorem C8{N:Nat}{t:Step}(h:J N t.s)(hN:N≤400000)(Lm:t.x.Ids.length≤1000000)(hask:t.x.Ju.length≤1000000):Gv (eH t) (OS λs=>J N s∧Sub t.s s):=by
 unfold eH
 refine ab (pJ h _) λr ⟨_,hr⟩=>af (λ_=>eT (by omega) t) λe1=>af (λ_=>eT (by omega) t) λe2=>af (λ_=>eT (by omega) t) λ_=>af (λ_=>eT (by omega) t) λ_=>?_
 obtain⟨j,hj,e3,_⟩:=hr (by simpa using e1)
 have hja:=h.ak _ (K_ hj)
 have h2:r.1.GN=2:=by simpa using e2
 rw[e3]at h2 ⊢;generalize ha0:t.s.IY[j]=a0 at *;have⟨a1,a2,a3,a4,a5,a6,a7⟩:=hja
 refine af (λ_=>ab (vM h (by omega)) λ_ _=>ab (xc h _) λ_ _=>ae (.inr ⟨h,Sub.of rfl⟩)) λ_=>ab (P:=λr=>match r with | .inl o=>o.Err≠0 | .inr q=>∃l,CO l∧q.2 = { a0 with Ju:=l }) (aT (λ(p:Output×App) i=>(p.1,p.2,i)) t.x.Ju.length (λp=>∃l,CO l∧p.2 = { a0 with Ju:=l }) (step:=cV t) (by omega) ?_ ?_ (s:=(_,a0)) ⟨a0.Ju,⟨a1,a2⟩,rfl⟩) ?_
 ·rintro k hk ⟨o,a⟩ ⟨l,hl,e⟩;dsimp only at e;subst e;unfold cV;dsimp only;rw[ay hk,cond_true,aA hk,IP]
  refine ab (FC _ _) λe he=>ab (P:=λq=>∃l,CO l∧q.1 = { a0 with Ju:=l }) (af (λe0=>ab (H0 hl (he (by simpa using e0))) λr hr=>ae ⟨_,hr,rfl⟩) λ_=>ae ⟨l,hl,rfl⟩) λq hq=>af (λe=>ae (.inr ⟨_,rfl,by simpa using e⟩)) λ_=>ae (.inl ⟨(_,_),rfl,hq⟩)
 ·rintro⟨o,a⟩ h
  exact aw (a:=.inr (.inr (o,a))) (by unfold cV;dsimp only;rw[az];rfl) ⟨_,rfl,h⟩
 ·rintro(o | ⟨o,a⟩) hq
  ·exact ae (.inl hq)
  ·obtain⟨l,hl,e⟩:=hq;dsimp only at e ⊢;subst e;unfold iT
   refine ab (P:=λr=>(J N r.2.s∧Sub t.s r.2.s∧r.2.s.IY=t.s.IY)∧∃g:List Int,g.length≤N∧r.1 = { a0 with Ju:=l,Ke:=g }) (ab (aT (λ(p:Step×App) i=>(p.1,p.2,i)) t.x.Ids.length (λp=>(J N p.1.s∧Sub t.s p.1.s∧p.1.s.IY=t.s.IY)∧∃g:List Int,g.length≤N∧p.2 = { a0 with Ju:=l,Ke:=g }) (step:=dS t.x.Ids) (Q:=λp=>(J N p.1.s∧Sub t.s p.1.s∧p.1.s.IY=t.s.IY)∧∃g:List Int,g.length≤N∧p.2 = { a0 with Ju:=l,Ke:=g }) (by omega) ?_ ?_ (s:=(t,_)) ⟨⟨h,Sub.of rfl,rfl⟩,a0.Ke,a3,rfl⟩) λq hq=>ae hq) ?_
   ·rintro k hk ⟨u,b⟩ ⟨⟨h,hs,ea⟩,g,hg,e⟩;dsimp only at h hs ea e;subst e;have hkc:=h.k;unfold dS;dsimp only
    rw[ay hk,cond_true,aA hk,IP,cIx u.s.IW (by omega) (λc=>c.Id == t.x.Ids[k]&&(c.App == a0.Id&&!c.I5)) (λc=>by unfold gP;cases c.Id == t.x.Ids[k]<;>cases c.App == a0.Id<;>simp[*]),IP]
    refine ab (P:=λp=>(J N p.1.s∧Sub t.s p.1.s∧p.1.s.IY=t.s.IY)∧∃g:List Int,g.length≤N∧p.2 = { a0 with Ju:=l,Ke:=g }) (af (λh0=>?_) λ_=>ae ⟨⟨h,hs,ea⟩,g,hg,rfl⟩) λq hq=>ae (.inl ⟨(_,_),rfl,hq⟩)
    obtain⟨i,hi,e,_⟩:=be (of_decide_eq_true h0);unfold gY del
    rw[e,Rb (by omega),if_pos (by omega),IP,ab3 g (by omega) (λx=>x == t.x.Ids[k]) λx=>rfl,IP]
    exact ae ⟨⟨h.era i,hs.trans λc hc=>⟨c,(s_ _ i).mem hc,rfl⟩,ea⟩,_,MJ (UK _ _) hg,rfl⟩
   ·rintro⟨u,b⟩ h
    exact aw (a:=.inr (u,b)) (by unfold dS;dsimp only;rw[az];rfl) ⟨_,rfl,h⟩
   ·rintro⟨b,u⟩ ⟨⟨h,hs,ea⟩,g,hg,e⟩;dsimp only at h hs ea e ⊢;subst e
    have hj2:j<u.s.IY.length:=by rw[ea];exact hj
    have e5:u.s.IY[j]=a0:=by rw[← ha0];simp only[ea]
    refine ab (vM h (by dsimp only;omega)) λ_ _=>ab (xc h _) λ_ _=>?_
    unfold bS
    rw[bh (by dsimp only;omega) (by omega),IP]
    have hy:JA N (⟨a0.Id,a0.GN,a0.I4,a0.User,a0.Jt,a0.I5,l,u.s.Now,I8 (a0.J6+1),[],[],g,a0.KE⟩:App):=⟨hl.1,hl.2,by simp,by simp,hg,a4,a7⟩
    refine ab (aw (P:=λs=>s = { u.s with IY:=u.s.IY.set j ⟨a0.Id,a0.GN,a0.I4,a0.User,a0.Jt,a0.I5,l,u.s.Now,I8 (a0.J6+1),[],[],g,a0.KE⟩ }) (yq h h.b hj2 (by rw[e5]) hy) rfl) ?_
    rintro _ rfl
    exact ae (.inr ⟨h.W9 (Ku _) h.b hj2 (by rw[e5]) hy (.inl (by unfold live;simp[h2])),hs.trans (Sub.of rfl)⟩)
theorem A0{N:Nat}{t:Step}(h:J N t.s)(st:Int):Gv (ep t st) (OS λs=>J N s∧Sub t.s s):=by
 unfold ep
 refine ab (pJ h _) λr _=>af (λ_=>eT (by omega) t) λ_=>?_
 rw[iB,IP]
 exact af (λ_=>eT (by omega) t) λ_=>ab (Il h _ _) λr hr=>ae (.inr hr)
theorem Gw{I:GN→Prop}(hL:∀{M:Nat}{s t:GN},J M s→I s→LS s t→I t)(hNd:∀{s:GN}{l m},I s→I { s with Jb:=l,Jj:=m }){N:Nat}(hN:N<990000){t:Step}(h:J N t.s)(hi:I t.s)(id:Int):Gv (fQ t id) λu=>J (N+200) u.s∧I u.s:=by
 have hn:=h.n;unfold fQ
 refine ab (xA h _) λids hl=>ab (aT (λ(l:List Node) i=>(l,i)) t.s.Jb.length (λl=>l.length=t.s.Jb.length∧∀n∈l,VB 1073741824 n.Cap) (step:=dK t id) (Q:=λl=>l.length≤12∧∀n∈l,VB 1073741824 n.Cap) (by omega) (λk hk l ⟨h1,h2⟩=>?_) (λl ⟨h1,h2⟩=>?_) ⟨rfl,h.nk⟩) λl ⟨l1,l2⟩=>?_
 ·unfold dK;dsimp only
  rw[ay hk,cond_true,aH (by omega),IP,IR (by omega),IP]
  refine ab (P:=λm=>m.length=t.s.Jb.length∧∀n∈m,VB 1073741824 n.Cap) (af (λ_=>?_) λ_=>ae ⟨h1,h2⟩) λm hm=>ae (.inl ⟨m,rfl,hm⟩)
  rw[IP,IR (by omega),IP]
  refine ae ⟨by simpa using h1,λn hn=>(SG hn).elim (h2 n) λe=>?_⟩
  subst e
  exact h2 l[k] (K_ (by omega))
 ·exact aw (a:=.inr l) (by unfold dK;dsimp only;rw[az];rfl) ⟨l,rfl,by omega,h2⟩
 ·rw[abN t.s.Jj (MJ h.l h.b) (λx=>x.Node == id) λx=>rfl,IP]
  have h2:J N { t.s with Jb:=l,Jj:=t.s.Jj.filter λx=>!(x.Node == id) }:=⟨h.c,l1,h.a,h.ad,h.ak,h.k,h.kk,MJ (UK _ _) h.l,h.p,h.e,h.b,l2⟩
  exact ab (sQ h2 I hL (hNd hi) (ids:=ids) (by omega)) λu ⟨u1,u2⟩=>ae ⟨u1.mono (by omega) (by omega),u2⟩
theorem EI{N:Nat}{s:GN}(h:J N s):Gv (om s) λl=>l.length≤12:=by
 have hn:=h.n
 exact ab (uU (by omega) (λ_ _=>rfl) λk hk l hl=>by dsimp only;rw[aA hk,IP];exact ab (P:=λ_=>True) (af (λ_=>ai _) λ_=>ai _) λ_ _=>one hl) λl hl=>ae (by omega)
theorem Ch{N:Nat}{s:GN}(h:J N s):Gv (lX s) λl=>l.length≤16:=by
 have ha:=h.a;unfold lX
 refine ab (aJ (λ(p:List Kk×List Int) i=>(p.1,p.2,i)) s.IY.length (λk p=>p.2.length≤k) (step:=iz s) (Q:=λl=>l.length≤16) (by omega) (λk hk p hp=>?_) (λp hp=>?_) (s:=([],[])) (by simp)) λl hl=>ae hl
 ·unfold iz;dsimp only;rw[ay hk,cond_true,aA hk,IP]
  refine ab (P:=λq=>q.2.length≤k+1) (aF (af (λ_=>af (λ_=>ai _) λ_=>ai _) λ_=>ai _) λb=>af (λ_=>?_) λ_=>ae (by dsimp only;omega)) λq hq=>ae (.inl ⟨(_,_),rfl,hq⟩)
  rw[bi (by simp;omega) (by omega)]
  exact ae (by simp;omega)
 ·exact aw (a:=.inr p.2) (by unfold iz;dsimp only;rw[az];rfl) ⟨_,rfl,by omega⟩
theorem HI{N:Nat}{t:Step}(h:J N t.s)(hN:N≤400000):Gv (fI t) (OS λs=>J (N+6200) s∧Sub t.s s):=by
 have hk:=h.k;have hL:∀{M:Nat}{s u:GN},J M s→Sub t.s s→LS s u→Sub t.s u:=λ_ h g=>h.trans g.sub;have hV:∀{M:Nat}{s u:GN},J M s→Sub t.s s→NS s u→Sub t.s u:=λ_ h g=>h.trans g.sub;unfold fI
 refine aF (af (λ_=>ai _) λ_=>ai _) λ_=>af (λ_=>eT (by omega) t) λ_=>af (λ_=>eT (by omega) t) λ_=>?_
 unfold d7
 rw[bh (by omega) (by omega),IP]
 have h1:J N { t.s with Now:=I8 (t.s.Now+t.x.N) }:=⟨h.c,h.n,h.a,h.ad,h.ak,h.k,h.kk,h.l,h.p,h.e,h.b,h.nk⟩
 refine ab (EI h1) λns hns=>ab (aJ (λ(u:Step) i=>(u,i)) ns.length (λk u=>J (N+k*200) u.s∧Sub t.s u.s) (step:=dZ ns) (Q:=λu=>J (N+2400) u.s∧Sub t.s u.s) (by omega) (λk hk u ⟨hu,hs⟩=>?_) (λu ⟨hu,hs⟩=>?_) ⟨by simpa using h1,Sub.of rfl⟩) λt2 ⟨h2,s2⟩=>ab (Ch h2) λbs has=>ab (aJ (λ(u:Step) i=>(u,i)) bs.length (λk u=>J (N+2400+k*200) u.s∧Sub t.s u.s) (step:=dY bs) (Q:=λu=>J (N+5600) u.s∧Sub t.s u.s) (by omega) (λk hk u ⟨hu,hs⟩=>?_) (λu ⟨hu,hs⟩=>?_) (s:=t2) ⟨by simpa using h2,s2⟩) λt4 ⟨h4,s4⟩=>?_
 ·unfold dZ;dsimp only;rw[ay hk,cond_true,aH hk,IP,IR hk,IP]
  exact ab (Gw hL (λh=>h.trans (Sub.of rfl)) (by omega) hu hs _) λv ⟨v1,v2⟩=>ae (.inl ⟨v,rfl,by rw[Nat.add_one_mul,← Pq];exact v1,v2⟩)
 ·exact aw (a:=.inr u) (by unfold dZ;dsimp only;rw[az];rfl) ⟨u,rfl,hu.mono (by omega) (by omega),hs⟩
 ·unfold dY;dsimp only;rw[ay hk,cond_true,aH hk,IP,IR hk,IP]
  exact ab (Bu hu _) λids hl=>ab (sQ hu (Sub t.s) hL hs (ids:=ids) (by omega)) λv ⟨v1,v2⟩=>ae (.inl ⟨_,rfl,v1.mono (by omega) (by omega),v2⟩)
 ·exact aw (a:=.inr u) (by unfold dY;dsimp only;rw[az];rfl) ⟨u,rfl,hu.mono (by omega) (by omega),hs⟩
 ·have hp:=h4.p
  rw[ams t4.s.Ji (by omega) (λp=>decide (p.Until≤t4.s.Now)) λx=>rfl,IP]
  refine ab (Ez hL hV (by omega) (h4.plans (MJ (UK _ _) hp)) (s4.trans (Sub.of rfl))) λx ⟨x1,x2⟩=>ab (aJ (λ(o:Output) i=>(o,i)) t.s.IW.length (λk o=>o.Gone.length≤k) (step:=dW t.s.IW t4 x) (Q:=λ_=>True) (by omega) (λk hk o ho=>?_) (λo ho=>?_) (by simp)) λo _=>ae (.inr ⟨x1,x2⟩)
  ·unfold dW;dsimp only;rw[ay hk,cond_true,aH hk,IP,IR hk,IP]
   refine ab (P:=λo=>o.Gone.length≤k+1) (ab (vM (t:=⟨x.1,t4.x⟩) x1 (ids:=[t.s.IW[k].Id]) (by simp)) λ_ _=>af (λ_=>?_) λ_=>ae (by omega)) λo ho=>ae (.inl ⟨o,rfl,ho⟩)
   rw[bi (by simp;omega) (by omega)]
   exact ae (by simp;omega)
  ·exact aw (a:=.inr o) (by unfold dW;dsimp only;rw[az];rfl) ⟨o,rfl,trivial⟩
set_option linter.unusedVariables false
set_option linter.unusedSimpArgs false
theorem ab0(c:UInt8):∀l:List UInt8,Lib.indexByte l c<l.length
 | []=>by simp[Lib.indexByte]
 | b::l=>by
  have:=ab0 c l;unfold Lib.indexByte;simp only[Ri];split
  ·omega
  ·split<;>omega
theorem ye{s:Str}{c:UInt8}(hs:s.length≤1000000):Gv (gI s [c]) λm=>-1≤m∧m<s.length:=by
 unfold gI fK
 refine ab (ab (P:=λq=>q=true→s = [c]) (af (λh=>by simp at h) λ_=>ae λe=>by simpa using Eq.symm (by simpa using e:[c]=s)) λq hq=>af (λe=>ae ?_) λ_=>?_) λm hm=>ae hm
 ·rw[hq e];simp
 ·show Gv ((dz s (c.toNat:Int)).bind λx=>some x) _;unfold dz ixb;exact ae ⟨Lib.indexByte_ge _ _,ab0 _ _⟩
def PW(s:Str)(x:Str):Prop:=x.length≤s.length∧∀b∈x,b∈s
theorem Db{s x:Str}(hx:PW s x){a b:Int}(h0:0≤a)(h1:a≤b)(h2:b≤x.length):Gv (slc x a b) λm=>PW s m∧(m.length:Int)=b - a:=by refine pZ (p8 h0 h1 h2) λm ⟨m1,m2⟩=>⟨⟨?_,λb hb=>hx.2 b (m2 b hb)⟩,m1⟩;have:=hx.1;omega
theorem uu{s:Str}(hs:s.length≤100000)(c:UInt8):Gv (eV s [c]) λl=>1≤l.length∧l.length≤s.length+1∧∀x∈l,PW s x:=by
 have hc:List.count c s≤s.length:=List.count_le_length;unfold eV jw;refine ab ?_ λl hl=>ae hl
 refine af (λh=>by simp at h) λ_=>af (λh=>by simp at h) λ_=>ab (P:=λn=>n=((List.count c s+1:Nat):Int)) ?_ ?_
 ·refine af (λ_=>?_) λh=>by simp at h
  unfold mC cnt1 Lib.countByte
  rw[IP,Rb (by omega)]
  exact ae rfl
 ·rintro _ rfl;dsimp only
  rw[Rb (by omega),show Od ((List.count c s+1:Nat):Int) ((s.length+1:Nat):Int)=((List.count c s+1:Nat):Int)by unfold Od;rw[if_neg (by omega)],kb (by omega) (by omega),IP]
  refine ab (gL (λt:Str×List Str×Int=>PW s t.1∧t.2.1.length=List.count c s+1∧(∀x∈t.2.1,PW s x)∧0≤t.2.2∧t.2.2≤(List.count c s:Int)) (λt=>(List.count c s+1 - t.2.2).toNat) (Q:=λt:Str×List Str×Int=>PW s t.1∧t.2.1.length=List.count c s+1∧(∀x∈t.2.1,PW s x)∧0≤t.2.2∧t.2.2≤(List.count c s:Int)) (λt ⟨h1,h2,h3,h4,h5⟩=>?_) ⟨⟨Ku _,λ_ h=>h⟩,by simp,λx hx=>?_,by simp,by simp⟩) λt ⟨h1,h2,h3,h4,h5⟩=>ab (da h4 (by omega)) λi hi=>ab (c_ (by omega)) λx _=>?_
  ·unfold kN;refine af (λe=>?_) λ_=>ae (.inr ⟨_,rfl,h1,h2,h3,h4,h5⟩);have e:=of_decide_eq_true e
   rw[aG (by omega) (by omega)]at e
   have hl:=h1.1
   refine ab (ye (by omega)) λm ⟨m1,m2⟩=>af (λ_=>ae (.inr ⟨_,rfl,h1,h2,h3,h4,h5⟩)) λe2=>?_
   have e2:=of_decide_eq_false e2
   rw[aG (x:=m+0) (by omega) (by omega),aG (x:=m+([c].length:Int)) (by simp;omega) (by simp;omega),aG (x:=t.2.2+1) (by omega) (by omega)]
   refine ab (Db h1 (by omega) (by omega) (by omega)) λs1 ⟨p1,_⟩=>ab (da h4 (by omega)) λi hi=>ab (c_ (by omega)) λx2 _=>ab (Db h1 (by simp;omega) (by simp;omega) (by omega)) λs2 ⟨p2,_⟩=>ae (.inl ⟨_,rfl,⟨p2,by simpa using h2,λx hx=>(SG hx).elim (h3 x) λe=>e▸p1,by dsimp only;omega,by dsimp only;omega⟩,by dsimp only;omega⟩)
  ·rw[(QeZ.1 hx).2]
   exact⟨by simp,by simp⟩
  ·rw[aG (x:=t.2.2+1) (by omega) (by omega)]
   refine ab (gZ (by omega) (by omega) (by rw[RB];omega)) λp hp=>?_
   subst hp;refine ae ⟨?_,?_,λx hx=>(SG (U3 hx)).elim (h3 x) λe=>e▸h1⟩
   ·simp;omega
   ·simp;omega
section
variable{f:Jk fam [.str]→Option Bool}
theorem wIx(s:List Str)(hn:s.length≤1000000)(p:Str→Bool)(hf:∀x,f (x,())=some (p x)):aZ s f=some (fx p s):=Uj hn λt=>by simp[bH,hf]
theorem akZ(s:List Str)(hn:s.length≤1000000)(p:Str→Bool)(hf:∀x,f (x,())=some (p x)):bk s f=some (s.filter λx=>!p x):=by
 unfold bk;rw[wIx s hn p hf]
 exact dlf _ hn λt=>by simp[cR,hf]
end
theorem EB{s:Str}(hs:s.length≤100000):Gv (nj s) λl=>l.length≤s.length+1∧∀x∈l,PW s x:=by
 unfold nj;refine ab (uu hs 32) λl ⟨_,h1,h2⟩=>?_
 rw[akZ l (by omega) (λw=>w == []) λx=>rfl]
 exact ae ⟨MJ (UK _ _) h1,λx hx=>h2 x (WR.1 hx).1⟩
set_option linter.unusedVariables false
set_option linter.unusedSimpArgs false
def As(s:Str):Prop:=∀b∈s,b.toNat<128
theorem DG{s:Str}(h:As s):T (jN s):=by
 unfold jN Sd
 rw[N9.2 λb hb=>by simpa using h b hb,cond_true]
 exact ai _
theorem akY{f:Jk fam [.str]→Option Bool}(s:List Str)(hn:s.length≤1000000)(p:Str→Bool)(hf:∀x∈s,f (x,())=some (p x)):aZ s f=some (fx p s):=Uj hn λt=>by
 unfold bH
 cases e:idx s t with
 | none=>rfl
 | some x=>
  have:x∈s:=by
   unfold idx at e;split at e
   ·exact Rk e
   ·cases e
  simp[hf x this]
theorem CX{s:Str}(h:As s)(hl:s.length≤2000):Gv (lJ s) λb=>b=true→s≠[]:=by
 unfold lJ
 refine ab (uu (by omega) 46) λl ⟨h1,h2,h3⟩=>ab (da (by omega) (by omega)) λi hi=>ab (c_ (by omega)) λx ⟨hx,_⟩=>af (λe=>af (λ_=>?_) λ_=>ae (by simp)) λ_=>ae (by simp)
 have hs:s≠[]:=by
  rintro rfl;have:=(h3 x hx).1
  have e:x = [114,111,111,116]:=by simpa using e
  rw[e]at this;simp at this
 unfold bJ
 rw[akY l (by omega) (λx=>(gz x).getD false) λx hx=>by obtain⟨b,e,_⟩:=DG (s:=x) λb hb=>h b ((h3 x hx).2 b hb);show gz x=_;unfold gz;rw[e];rfl]
 exact ae λ_=>hs
theorem Eg{l:List Str}(hl:l.length≤3)(h:∀x∈l,As x):T (lZ l):=by
 unfold lZ
 refine ab (P:=λ_=>True) (aT (λ(m:List I9) i=>(m,i)) l.length (λ_=>True) (by omega) (λk hk m _=>?_) (λm _=>?_) trivial) ?_
 ·have hn:=DG (h _ (K_ hk));unfold lm;dsimp only;rw[ay hk,cond_true,aA hk,IP];exact aF (af (λ_=>af (λ_=>ai _) λ_=>af (λ_=>ab hn λ_ _=>ai _) λ_=>ai _) λ_=>af (λ_=>ab hn λ_ _=>ai _) λ_=>ai _) λ_=>af (λ_=>ae (.inr ⟨_,rfl,trivial⟩)) λ_=>ae (.inl ⟨_,rfl,trivial⟩)
 ·exact aw (a:=.inr (.inr m)) (by unfold lm;dsimp only;rw[az];rfl) ⟨_,rfl,trivial⟩
 ·rintro(q | q) _
  ·exact ai _
  ·exact af (λ_=>ai _) λ_=>ai _
theorem HG{l:List Cap}(hl:l.length≤1000):Gv (po l) λb=>b=true→∀x∈l,x.Ls≤10000∧x.Most≤10000:=by
 unfold po nN
 have e:oq l (λa'=>jc a'.1)=some (fx (λc:Cap=>decide (c.Ls<0)||(decide (c.Most>10000)||decide (c.Ls>c.Most))) l):=Uj (by omega) λt=>by
  have:∀c,jc c=some (decide (c.Ls<0)||(decide (c.Most>10000)||decide (c.Ls>c.Most))):=λc=>by unfold jc;cases decide (c.Ls<0)<;>cases decide (c.Most>10000)<;>rfl
  simp only[pe,this,IP]
 rw[e];refine ae λh x hx=>?_
 have h:¬ fx (λc:Cap=>decide (c.Ls<0)||(decide (c.Most>10000)||decide (c.Ls>c.Most))) l≥0:=by simpa using h
 have:=(cH (SC.1 h)).2.2 x hx;simp only[UJ,decide_eq_false_iff_not]at this;omega
def QK(c:I6)(q:I4):Prop:=q.J_≠[]∧q.KU.length=c.I7.length∧∀x∈q.KU,x.Ls≤10000∧x.Most≤10000
structure PC(c:I6):Prop where
 l:∀x∈c.I7,As x
 q:∀q∈c.IX,As q.J_∧q.J_.length≤2000∧q.KU.length≤1000
theorem C2{c:I6}(h:PC c)(hq:c.IX.length≤16):Gv (lL c) λe=>e=0→(∀q∈c.IX,QK c q)∧c.IX.Pairwise λa b=>Op.bytesLess a.J_ b.J_=true:=by
 unfold lL
 refine ab (P:=λr=>match r with | .inl e=>e≠0 | .inr _=>(∀q∈c.IX,QK c q)∧c.IX.Pairwise λa b=>Op.bytesLess a.J_ b.J_=true) (aJ (λ(p:List I9×Str) i=>(p.1,p.2,i)) c.IX.length (λk p=>(∀q∈c.IX.take k,QK c q)∧((c.IX.take k).Pairwise λa b=>Op.bytesLess a.J_ b.J_=true)∧∀q∈c.IX.take k,q.J_=p.2∨Op.bytesLess q.J_ p.2=true) (step:=iG c) (by omega) (λk hk p ⟨h1,h2,h3⟩=>?_) (λp ⟨h1,h2,_⟩=>?_) (s:=([],[])) ⟨by simp,by simp,by simp⟩) ?_
 ·obtain⟨a1,a2,a3⟩:=h.q _ (K_ hk);unfold iG;dsimp only;rw[ay hk,cond_true,aA hk,IP]
  refine ab (uA (by omega)) λx1 _=>ab (CX a1 a2) λx2 hx2=>af (λ_=>ae (.inr ⟨_,rfl,by simp⟩)) λe2=>ab (P:=λq=>q=false→0<k→OA c.IX[k].J_ p.2=false) (af (λ_=>ae λe _=>e) λe=>ae λ_ h0=>by have:=of_decide_eq_false e;omega) λq hq1=>af (λ_=>ae (.inr ⟨_,rfl,by simp⟩)) λeq1=>aF (af (λ_=>ai _) λ_=>ai _) λq1=>af (λ_=>ae (.inr ⟨_,rfl,by simp⟩)) λ_=>ab (P:=λq=>q=false→c.IX[k].KU.length=c.I7.length∧∀x∈c.IX[k].KU,x.Ls≤10000∧x.Most≤10000) ?_ λq2 hq2=>af (λ_=>ae (.inr ⟨_,rfl,by simp⟩)) λe3=>ae (.inl ⟨(_,_),rfl,?_⟩)
  ·exact af (λ_=>ae (by simp)) λ_=>af (λ_=>ae (by simp)) λ_=>af (λ_=>ae (by simp)) λe=>ab (HG a3) λb hb=>ae λe2=>⟨Int.ofNat_inj.1 (by simpa using e),hb (by simpa using e2)⟩
  ·have hlt:∀q∈c.IX.take k,Op.bytesLess q.J_ c.IX[k].J_=true:=λq hq=>by
    have hk0:0<k:=by
     cases k with
     | zero=>simp at hq
     | succ k=>omega
    have hs:=hq1 eq1 hk0;unfold OA at hs;simp only[UJ,beq_eq_false_iff_ne]at hs;have hl:=vg hs.1 hs.2;rcases h3 q hq with e | e
    ·rw[e];exact hl
    ·exact qt e hl
   have et:=U4 hk;refine⟨λq hq=>?_,?_,λq hq=>?_⟩
   ·rw[et]at hq
    exact(Mi.1 hq).elim (h1 q) λe=>by rw[IU.1 e];exact⟨hx2 (by simpa using e2),hq2 e3⟩
   ·rw[et]
    exact List.pairwise_append.2 ⟨h2,List.pairwise_singleton _ _,λa ha b hb=>by rw[IU.1 hb];exact hlt a ha⟩
   ·rw[et]at hq
    exact(Mi.1 hq).elim (λhq=>.inr (hlt q hq)) λe=>.inl (by rw[IU.1 e])
 ·refine aw (a:=.inr (.inr ())) (by unfold iG;dsimp only;rw[az];rfl) ⟨_,rfl,?_⟩
  rw[Um]at h1 h2;exact⟨h1,h2⟩
 ·rintro(e | _) hq
  ·exact ae λe=>absurd e hq
  ·exact ae λ_=>hq
theorem If{c:I6}(h:JC c)(hc:∀q∈c.IX,q.KU.length=c.I7.length):T (pc c):=by
 have hq:=h.q;have hl:=h.l;unfold pc
 refine ab (gC (by omega) (by omega)) λx ⟨hx,_⟩=>ab (P:=λ_=>True) (aT (σ:=Unit) (λ_ i=>i) x.KU.length (λ_=>True) (by have:=hc x hx;omega) (λk hk _ _=>?_) (λ_ _=>?_) (s:=()) trivial) ?_
 ·unfold nS;rw[ay hk,cond_true,aA hk,IP];exact aF (af (λ_=>ai _) λ_=>ai _) λ_=>af (λ_=>ae (.inr ⟨_,rfl,trivial⟩)) λ_=>ae (.inl ⟨(),rfl,trivial⟩)
 ·exact aw (a:=.inr (.inr ())) (by unfold nS;rw[az];rfl) ⟨_,rfl,trivial⟩
 ·rintro(q | _) _
  ·exact ai _
  ·refine ab (P:=λ_=>True) (aT (σ:=Unit) (λ_ i=>i) c.IX.length (λ_=>True) (by omega) (λk hk _ _=>?_) (λ_ _=>?_) (s:=()) trivial) ?_
   ·unfold nO;rw[ay hk,cond_true,aA hk,IP]
    refine ab (sX h _) λks hks=>ab (P:=λ_=>True) (aT (σ:=Unit) (λ_ i=>i) c.I7.length (λ_=>True) (by omega) (λi hi _ _=>?_) (λ_ _=>?_) (s:=()) trivial) ?_
    ·have hkl:=(xF h hks).1;unfold nP;rw[ay hi,cond_true]
     refine ab (P:=λ_=>True) (aT (λ(m:Int) i=>(m,i)) ks.length (λ_=>True) (by omega) (λj hj m _=>?_) (λm _=>?_) trivial) λm _=>aF (af (λ_=>ai _) λ_=>ai _) λ_=>af (λ_=>ae (.inr ⟨_,rfl,trivial⟩)) λ_=>ae (.inl ⟨(),rfl,trivial⟩)
     ·obtain⟨q,hq,eq⟩:=Ot.1 (hks.mem (K_ hj));unfold nV;dsimp only;rw[ay hj,cond_true,aH hj,IP,IR hj,IP,oA h,IP]
      cases e:Zj c ks[j]with
      | none=>have:=QdT.1 e q hq;simp[eq]at this
      | some y=>
       have:=hc y (vN e).1;dsimp only[Option.elim]
       exact ab (da (by omega) (by omega)) λi1 hi1=>ab (c_ (by omega)) λ_ _=>ae (.inl ⟨_,rfl,trivial⟩)
     ·exact aw (a:=.inr m) (by unfold nV;dsimp only;rw[az];rfl) ⟨_,rfl,trivial⟩
    ·exact aw (a:=.inr (.inr ())) (by unfold nP;rw[az];rfl) ⟨_,rfl,trivial⟩
    ·rintro(q | _) _
     ·exact ae (.inr ⟨_,rfl,trivial⟩)
     ·exact ae (.inl ⟨(),rfl,trivial⟩)
   ·exact aw (a:=.inr (.inr ())) (by unfold nO;rw[az];rfl) ⟨_,rfl,trivial⟩
   ·rintro(q | _) _<;>exact ai _
theorem C_{c:I6}(h:PC c):Gv (jS c) λe=>e=0→JC c:=by
 unfold jS
 refine ab (P:=λq=>q=false→(1≤c.I7.length∧c.I7.length≤3)∧c.IX.length≤16) (af (λ_=>ae (by simp)) λh0=>af (λ_=>ae (by simp)) λh1=>ae λh2=>?_) λq hq=>af (λ_=>ae (by omega)) λe=>?_
 ·have h0:(c.I7.length:Int)≠0:=by simpa using h0
  have h1:=of_decide_eq_false h1;have h2:=of_decide_eq_false h2;omega
 ·obtain⟨l1,l2⟩:=hq e
  refine ab (Eg l1.2 h.l) λe _=>af (λe=>ae λe2=>by subst e2;simp at e) λ_=>ab (P:=λq=>q=false→1≤c.IX.length) (af (λ_=>ae (by simp)) λh0=>?_) λq hq=>af (λ_=>ae (by omega)) λe=>ab (C2 h l2) λe1 h1=>af (λe=>ae λe2=>by subst e2;simp at e) λe2=>?_
  ·have h0:(c.IX.length:Int)≠0:=by simpa using h0
   exact ab (gC (by omega) (by omega)) λ_ _=>ae λ_=>by omega
  ·obtain⟨k1,k2⟩:=h1 (by simpa using e2)
   have hj:JC c:=⟨l1,⟨hq e,l2⟩,List.pairwise_map.2 (k2.imp λ{a b} h e=>by rw[e,pj]at h;cases h),λq hq=>⟨by have:=(k1 q hq).2.1;omega,⟨(h.q q hq).2.1,(k1 q hq).1⟩,(k1 q hq).2.2⟩⟩
   exact ab (If hj λq hq=>(k1 q hq).2.1) λ_ _=>ae λ_=>hj
theorem bs{α : Type}(m:Option α):(m.bind λx=>some x)=m:=by cases m<;>rfl
theorem OT:∀{l:List UInt8}{n:Nat},l.all Oe=true→∃m,Lib.decFrom n l=some m
 | [],n,_=>⟨n,rfl⟩
 | b::l,n,h=>by
  simp only[Tt,KQ]at h
  have hb:48≤b.toNat∧b.toNat≤57:=by simpa[Oe]using h.1
  unfold Lib.decFrom Lib.digitVal;rw[if_pos hb];exact OT h.2
theorem uh(s:Str):T (gN s):=by
 unfold gN Vg;refine af (λh=>?_) λ_=>ai _
 cases s with
 | nil=>cases h
 | cons b r=>
  simp only[isNum,KQ]at h
  have hb:48≤b.toNat∧b.toNat≤57:=by simpa[Oe]using h.1.2
  obtain⟨m,e⟩:=OT (l:=b::r) (n:=0) (by rw[Tt,h.1.2,h.2];rfl)
  have h1:(b == 45)=false:=by rw[beq_eq_false_iff_ne];rintro rfl;exact absurd hb.1 (by decide)
  have h2:(b == 43)=false:=by rw[beq_eq_false_iff_ne];rintro rfl;exact absurd hb.1 (by decide)
  unfold Lib.atoi Lib.decNat;dsimp only
  rw[if_neg (by simp[h1]),if_neg (by simp[h2]),if_neg (by simp),e]
  exact ai _
theorem G8{w:Str}(hw:w.length≤1000000):T (m9 w):=by
 have hI:=ye (c:=47) hw;unfold gI at hI;rw[bs]at hI;unfold m9 pz kA;refine ab (P:=λ_=>True) (ab (P:=λ_=>True) (ab hI λi ⟨h1,h2⟩=>af (λe=>?_) λ_=>ai _) λ_ _=>ai _) λx _=>ab (uh _) λ_ _=>ab (uh _) λ_ _=>af (λ_=>af (λ_=>ai _) λ_=>ai _) λ_=>ai _;have e:=of_decide_eq_true e
 rw[aG (x:=i+(([47]:Str).length:Int)) (by simp;omega) (by simp;omega)]
 exact ab (uN (by omega) (by omega) (by omega)) λ_ _=>ab (uN (by simp;omega) (by simp;omega) (by omega)) λ_ _=>ai _
structure RK(s:Str)(r:Reader):Prop where
 ll:r.c.I7.length≤3
 l:∀x∈r.c.I7,PW s x
 ql:r.c.IX.length≤16
 q:∀q∈r.c.IX,PW s q.J_∧q.KU.length≤1000
section
variable{s:Str}(hs:s.length≤2000){r:Reader}(h:RK s r){w:List Str}(hl:w.length≤2001)(hw:∀x∈w,PW s x)
include hs h hl hw
omit hl in
theorem EQ:Gv (fM r w) λq=>RK s q.2:=by
 have h3:=h.ll;unfold fM;refine af (λ_=>ae h) λe1=>af (λ_=>ae h) λe2=>?_;have e1:=of_decide_eq_false e1
 have e2:(w.length:Int)=I8 (3+(r.c.I7.length:Int)):=by simpa using e2
 rw[aG (by omega) (by omega)]at e2
 refine ab (gC (by omega) (by omega)) λx _=>ab (uh x) λx1 _=>ab (gC (by omega) (by omega)) λx2 ⟨hx2,_⟩=>ab (p8 (by omega) (by omega) (by omega)) λl ⟨l1,l2⟩=>ab (aJ (λ(p:Bool×I4) i=>(p.1,p.2,i)) l.length (λk p=>p.2.J_=x2∧p.2.KU.length≤k) (step:=d4 l) (Q:=λp=>p.2.J_=x2∧p.2.KU.length≤1000) (by omega) (λk hk p ⟨p1,p2⟩=>?_) (λp ⟨p1,p2⟩=>?_) (s:=(x1.2,_)) ⟨rfl,by simp⟩) λq ⟨q1,q2⟩=>af (λ_=>ae h) λ_=>?_
 ·have:=(hw _ (l2 _ (K_ hk))).1;unfold d4;dsimp only;rw[ay hk,cond_true,aA hk,IP]
  refine ab (G8 (by omega)) λx4 _=>aF (af (λ_=>ai _) λ_=>ai _) λok=>?_
  rw[bi (by simp;omega) (by omega),IP]
  exact ae (.inl ⟨(_,_),rfl,p1,by simp;omega⟩)
 ·exact aw (a:=.inr (p.1,p.2)) (by unfold d4;dsimp only;rw[az];rfl) ⟨_,rfl,p1,by dsimp only;omega⟩
 ·rw[bi (by simp;omega) (by omega),IP]
  exact ae ⟨h3,h.l,by simp;omega,λq hq=>(Mi.1 hq).elim (h.q q) λe=>by rw[IU.1 e,q1];exact⟨hw _ hx2,q2⟩⟩
theorem GX:Gv (gr r w) λq=>RK s q.2:=by
 unfold gr;refine af (λ_=>ae h) λe0=>?_
 have e0:(w.length:Int)≠0:=by simpa using e0
 refine aF (af (λ_=>ab (gC (by omega) (by omega)) λ_ _=>ai _) λ_=>ai _) λ_=>af (λ_=>af (λ_=>ae ⟨h.ll,h.l,h.ql,h.q⟩) λe1=>?_) λ_=>aF (af (λ_=>ai _) λ_=>ab (gC (by omega) (by omega)) λ_ _=>ai _) λ_=>af (λ_=>ae h) λ_=>ab (EQ hs h hw) λq hq=>ae hq
 have e1:=of_decide_eq_false e1
 rw[kb (by omega) (by omega),IP]
 refine ab (gZ (by omega) (by simp;omega) (by omega)) λp hp=>ab (p8 (by omega) (by omega) (by omega)) λl1 ⟨m1,m2⟩=>?_
 subst hp;refine ae ⟨?_,λx hx=>?_,h.ql,h.q⟩
 ·show(LD _ _ _ _).length≤3
  rw[aar (by simp;omega)]
  simp;omega
 ·have hx:x∈LD (List.replicate w.length ([]:Str)) (1:Int).toNat (((List.replicate w.length ([]:Str)).length:Int).toNat - (1:Int).toNat) l1:=hx;unfold LD at hx;simp only[Mi]at hx
  have h0:∀x∈List.replicate w.length ([]:Str),PW s x:=λx hx=>by rw[(QeZ.1 hx).2];exact⟨by simp,by simp⟩
  rcases hx with(hx | hx) | hx
  ·exact h0 x (U3 hx)
  ·exact hw x (m2 x (U3 hx))
  ·exact h0 x (XD hx)
end
theorem H8{l:List I4}(hl:l.length≤16){f:Jk fam [.st 2,.st 2]→Option Int}(hf:∀x y,T (f (x,y,()))):Gv (iF l f) (SM l):=by
 unfold iF lh
 rw[cO,show iU (l.length:Int) f (l,0,20)=some (.inr (l,0))by unfold iU;dsimp only;rw[decide_eq_false (by omega)];rfl]
 dsimp only;rw[IP];refine ab (ab (P:=SM l) ?_ λr hr=>?_) λ_ h=>ae h
 ·unfold iJ
  exact ab (ab1 (s:=l) (φ:=λx y=>f (x,y,())) hf (by omega) (λt=>rfl) λt=>rfl) λr hr=>ae hr
 ·rw[cO,show iQ (l.length:Int) f (r,20)=some (.inr r)by unfold iQ;dsimp only;rw[decide_eq_false (by omega)];rfl]
  exact ae hr
theorem Et{s:Str}(ha:As s):Gv (mW s) λr=>r.2=0→PC r.1:=by
 unfold mW
 refine af (λ_=>ae (by simp)) λe=>?_
 have hs:s.length≤2000:=by have:=of_decide_eq_false e;omega
 refine ab (uu (by omega) 10) λx ⟨_,x1,x2⟩=>ab (P:=λr=>match r with | .inl q=>q.2≠0 | .inr q=>RK s q.2) (aT (λ(p:I6×Reader) i=>(p.1,p.2,i)) x.length (λp=>RK s p.2) (step:=jg x) (by omega) (λk hk p hp=>?_) (λp hp=>?_) (s:=(_,_)) ⟨by simp,by simp,by simp,by simp⟩) ?_
 ·have hx:=x2 _ (K_ hk);have:=hx.1;unfold jg;dsimp only;rw[ay hk,cond_true,aH hk,IP,IR hk,IP]
  refine ab (EB (by omega)) λw ⟨w1,w2⟩=>ab (GX hs hp (by omega) λy hy=>⟨MJ (w2 y hy).1 hx.1,λb hb=>hx.2 b ((w2 y hy).2 b hb)⟩) λe he=>af (λe=>ae (.inr ⟨_,rfl,by simpa using e⟩)) λ_=>ae (.inl ⟨(_,_),rfl,he⟩)
 ·exact aw (a:=.inr (.inr (p.1,p.2))) (by unfold jg;dsimp only;rw[az];rfl) ⟨_,rfl,hp⟩
 ·rintro(q | ⟨c,r⟩) hq
  ·exact ae λe=>absurd e hq
  ·have hr:RK s r:=hq
   refine af (λ_=>ae (by simp)) λ_=>ab (H8 hr.ql λx y=>?_) λl ⟨l1,l2⟩=>ab (P:=λr=>match r with | .inl q=>q.2≠0 | .inr _=>True) (aT (λ(p:I6) i=>(p,i)) l.length (λ_=>True) (step:=ji l) (by have:=hr.ql;omega) (λk hk p _=>?_) (λp _=>?_) trivial) ?_
   ·unfold ol;rw[uo];exact ai _
   ·unfold ji;dsimp only;rw[ay hk,cond_true]
    refine aF (af (λe=>?_) λ_=>ai _) λ_=>af (λ_=>ae (.inr ⟨_,rfl,by simp⟩)) λ_=>ae (.inl ⟨_,rfl,trivial⟩)
    have e:=of_decide_eq_true e;have:=hr.ql
    rw[aG (x:=(k:Int) - 1) (by omega) (by omega)]
    exact ab (da (by omega) (by omega)) λi hi=>ab (c_ (by omega)) λ_ _=>ab (da (by omega) (by omega)) λj hj=>ab (c_ (by omega)) λ_ _=>ai _
   ·exact aw (a:=.inr (.inr p)) (by unfold ji;dsimp only;rw[az];rfl) ⟨_,rfl,trivial⟩
   ·rintro(q | q) hq
    ·exact ae λe=>absurd e hq
    ·exact ae λ_=>⟨λx hx b hb=>ha b ((hr.l x hx).2 b hb),λq hq=>by have:=hr.q q (l2 q hq);exact⟨λb hb=>ha b (this.1.2 b hb),MJ this.1.1 hs,this.2⟩⟩
theorem yc{N:Nat}{t:Step}(h:J N t.s)(ht:As t.x.Text):Gv (cY t) (OS λs=>J N s∧Sub t.s s):=by
 unfold cY
 refine ab (Et ht) λx hx=>ab (P:=λe=>e=0→JC x.1) (af (λe=>ab (C_ (hx (by simpa using e))) λe he=>ae he) λe=>ae λe2=>by rw[e2]at e;simp at e) λe1 he=>af (λe=>ae (.inl (by simpa using e))) λe=>?_
 have hc:=he (by simpa using e)
 have hl:=h.c.l;have hl2:=hc.l;have ha:=h.a
 refine aF (af (λ_=>ai _) λe=>?_) λ_=>af (λ_=>eT (by omega) t) λ_=>ab (P:=λr=>match r with | .inl o=>o.Err≠0 | .inr _=>True) (aT (λ(o:Output) i=>(o,i)) t.s.IY.length (λ_=>True) (step:=ci t x) (by omega) (λk hk o _=>?_) (λo _=>?_) trivial) ?_
 ·have e:=of_decide_eq_false e
  refine ab (gZ (by omega) (by omega) (by omega)) λp hp=>ab (P:=λ_=>True) ?_ λ_ _=>ai _
  unfold cI
  refine af (λ_=>ai _) λe2=>ab (P:=λ_=>True) (aT (σ:=Unit) (λ_ i=>i) t.s.I6.I7.length (λ_=>True) (by omega) (λk hk _ _=>?_) (λ_ _=>?_) (s:=()) trivial) ?_
  ·have e2:(t.s.I6.I7.length:Int)=(sub x.1.I7 p.1 p.2).length:=by simpa using e2
   unfold b_;rw[ay hk,cond_true,aA hk,IP]
   exact ab (gC (by omega) (by omega)) λ_ _=>af (λ_=>ae (.inr ⟨_,rfl,trivial⟩)) λ_=>ae (.inl ⟨(),rfl,trivial⟩)
  ·exact aw (a:=.inr (.inr ())) (by unfold b_;rw[az];rfl) ⟨_,rfl,trivial⟩
  ·rintro(q | _) _<;>exact ai _
 ·unfold ci;dsimp only;rw[ay hk,cond_true,aA hk,IP,iB,IP]
  exact aF (af (λ_=>ab (Ax hc _) λ_ _=>ai _) λ_=>ai _) λ_=>af (λ_=>ae (.inr ⟨_,rfl,by simp⟩)) λ_=>ae (.inl ⟨_,rfl,trivial⟩)
 ·exact aw (a:=.inr (.inr o)) (by unfold ci;dsimp only;rw[az];rfl) ⟨_,rfl,trivial⟩
 ·rintro(o | o) hq
  ·exact ae (.inl hq)
  ·exact ae (.inr ⟨⟨hc,h.n,h.a,h.ad,h.ak,h.k,h.kk,h.l,h.p,h.e,h.b,h.nk⟩,Sub.of rfl⟩)
set_option linter.unusedVariables false
set_option linter.unusedSimpArgs false
theorem Gu{I1 I2:GN→Prop}{N:Nat}{t:Step}(hL:∀{M:Nat}{s t:GN},J M s→I1 s→LS s t→I1 t)(hNd:∀{s:GN}{l},I1 s→I1 { s with Jb:=l })(h12:∀s,I1 s→I2 s)
  (hM:∀{M:Nat}{s t:GN},J M s→I2 s→MS s t→I2 t) (hH:∀{M:Nat}{s t:GN},J M s→I2 s→HS s t→I2 t) (hG:∀{M:Nat}{s u:GN},J M s→I2 s→GS t.x.Id s u→I2 u)
  (h:J N t.s) (hi:I1 t.s) (hN:N≤400000) (Lm:t.x.Ids.length≤200):Gv (fL t) (OS λs=>J (N+208) s∧I2 s):=by
 have hn:=h.n;unfold fL
 rw[tZ (by omega),IP]
 refine aF (af (λ_=>af (λ_=>ai _) λ_=>ai _) λ_=>ai _) λ_=>af (λ_=>ab (xA h _) λ_ _=>ae (.inr ⟨h.mono (by omega) (by omega),h12 _ hi⟩)) λ_=>ab (Fz h _ _) λr ⟨r1,r2⟩=>af (λe=>eT (by simpa using e) t) λe=>?_
 obtain⟨e1,l,e2,_⟩:=r2 (by simpa using e)
 obtain⟨n,e3⟩:=QfA.1 e1
 have hid:n.Id=t.x.Id:=by unfold Xu at e3;simpa using QeN e3
 rw[e3];dsimp only[Option.elim];refine ab (xA h _) λhere hh=>?_;unfold bS
 rw[bh (by omega) (by omega),IP]
 have hc:∀x,eJ x here=some (!decide (0≤fx (λy=>x == y) here)):=λx=>by
  unfold eJ dA
  rw[Cq (by omega)];rfl
 rw[ab3 t.x.Ids (by omega) (λx=>!decide (0≤fx (λy=>x == y) here)) hc,IP]
 have hf:=UK (λx=>!!decide (0≤fx (λy=>x == y) here)) t.x.Ids
 refine ab (sQ r1 I1 hL (by rw[e2];exact hNd hi) (by omega)) λu ⟨u1,u2⟩=>ab (DR (n:=n.Id) hM hH (by rw[hid];exact hG) (by omega) u1 (h12 _ u2)) λv ⟨v1,v2⟩=>ab (xA (t:=⟨v.1,t.x⟩) v1 _) λ_ _=>ae (.inr ⟨v1.mono (by omega) (by omega),v2⟩)
structure IK(x:Input):Prop where
 i:x.Ids.length≤200
 a:x.Ju.length≤1000
 t:As x.Text
theorem GY{I1 I2:GN→Prop}{N:Nat}{s:GN}{x:Input}(hL:∀{M:Nat}{s t:GN},J M s→I1 s→LS s t→I1 t)(hNd:∀{s:GN}{l},I1 s→I1 { s with Jb:=l })(h12:∀s,I1 s→I2 s)
  (hM:∀{M:Nat}{s t:GN},J M s→I2 s→MS s t→I2 t) (hH:∀{M:Nat}{s t:GN},J M s→I2 s→HS s t→I2 t) (hG:∀{M:Nat}{s u:GN},J M s→I2 s→GS x.Id s u→I2 u)
  (h:J N s) (hi:I1 s) (hN:N≤400000) (hx:IK x):Gv (fW s x) λr=>J (N+6200) r.1∧(x.Kind=3→I2 r.1)∧(x.Kind≠3→Sub s r.1):=by
 have up:∀{M:Nat}{u:GN},J M u→M≤N+6200→J (N+6200) u:=λh hm=>h.mono hm (by omega)
 unfold fW;rw[hF h,IP]
 refine ab (P:=λr=>OS (λu=>J (N+6200) u∧(x.Kind=3→I2 u)∧(x.Kind≠3→Sub s u)) r) ?_ λr hr=>af (λ_=>ae ⟨up h (by omega),λ_=>h12 _ hi,λ_=>Sub.of rfl⟩) λe=>?_
 ·have ne:∀{k:Int}{u:GN},(x.Kind == k)=true→k≠3→J (N+6200) u→Sub s u→J (N+6200) u∧(x.Kind=3→I2 u)∧(x.Kind≠3→Sub s u):=λe hk hj hs=>⟨hj,λe2=>absurd ((beq_iff_eq.1 e).symm.trans e2) hk,λ_=>hs⟩;have lift:∀{k:Int}{M:Nat}{m:Option (Output×Step)},(x.Kind == k)=true→k≠3→M≤N+6200→Gv m (OS λu=>J M u∧Sub s u)→Gv (m.bind λy=>some (y.1,y.2)) (OS λu=>J (N+6200) u∧(x.Kind=3→I2 u)∧(x.Kind≠3→Sub s u)):=λe hk hm g=>ab g λr hr=>ae (hr.imp_right λ⟨a,b⟩=>ne e hk (up a hm) b)
  have plain:∀{k:Int}{t:Step}{u:GN}{e:Int},(x.Kind == k)=true→k≠3→J N u∧u.IW=s.IW→Gv ((c9 t u e).bind λy=>some (y.1,y.2)) (OS λu=>J (N+6200) u∧(x.Kind=3→I2 u)∧(x.Kind≠3→Sub s u)):=λe hk hu=>lift e hk (show N≤N+6200 by omega) (af (λe=>ae (.inl (by simpa using e))) λ_=>ae (.inr ⟨hu.1,Sub.of hu.2⟩))
  unfold kq
  refine af (λe=>lift e (by omega) (show N≤N+6200 by omega) (yc h hx.t)) λ_=>af (λe=>ab (zV h _) λr hr=>plain e (by omega) hr) λ_=>af (λe=>?_) λ_=>af (λe=>ab (Dk h _) λr hr=>plain e (by omega) hr) λ_=>af (λe=>lift e (by omega) (show N≤N+6200 by omega) (C8 h hN (by have:=hx.i;dsimp only;omega) (by have:=hx.a;dsimp only;omega))) λ_=>af (λe=>lift e (by omega) (show N≤N+6200 by omega) (A0 h _)) λ_=>af (λe=>lift e (by omega) (show N≤N+6200 by omega) (A0 h _)) λ_=>af (λe=>lift e (by omega) (Ku _) (HI h hN)) λ_=>af (λe=>lift e (by omega) (show N≤N+6200 by omega) ?_) λ_=>af (λe=>ab (GC h _) λr hr=>plain e (by omega) hr) λ_=>af (λe=>lift e (by omega) (show N≤N+6200 by omega) ?_) λ_=>ae (.inl (by simp))
  ·have e:x.Kind=3:=by simpa using e
   exact ab (Gu hL hNd h12 hM hH hG h hi hN hx.i) λr hr=>ae (hr.imp_right λ⟨a,b⟩=>⟨up a (by omega),λ_=>b,λe2=>absurd e e2⟩)
  ·unfold ga
   exact ab (GW h _ _) λr hr=>af (λe=>eT (by simpa using e) _) λ_=>ae (.inr ⟨hr.1,Sub.of hr.2⟩)
  ·unfold h_
   refine af (λ_=>eT (by omega) _) λe=>ae (.inr ⟨⟨h.c,h.n,h.a,h.ad,h.ak,h.k,λc hc=>?_,h.l,h.p,?_,h.b,h.nk⟩,Sub.of rfl⟩)
   ·obtain⟨⟨k1,k2⟩,k3⟩:=h.kk c hc;have⟨⟨p1,p2⟩,p3,p4⟩:=h.e;have e:=of_decide_eq_false e;refine⟨⟨k1,?_⟩,k3⟩;dsimp only at e ⊢
    rw[aG (x:=s.Jq+1) (by omega) (by omega)]
    omega
   ·have⟨⟨p1,p2⟩,p3,p4⟩:=h.e;have e:=of_decide_eq_false e;dsimp only at e ⊢
    rw[aG (x:=s.Jq+1) (by omega) (by omega)]
    omega
 ·have hr:=hr.resolve_left (by simpa using e)
  rw[hF hr.1,IP];exact ae hr
def mx(s:GN):Int:=s.Jq*1048576+s.Seq
def nw(m:Int)(cs:List Cont)(i:Int):Int:=((cs.filter λc=>decide (m<c.Id)&&(c.App == i&&!c.I5)).length:Int)
structure RA(s0:GN)(cs:List Cont)(a0 a:App):Prop where
 id:a.Id=a0.Id
 ms:a.I5=a0.I5
 ky:∀x∈a.Ju,(∃y∈a0.Ju,ky y=ky x)∨(ky x=(0,0,a0.I5)∧a.GN=1)
 ct:((∃m∈s0.IW,m.App=a0.Id∧m.I5=true)∧∀c∈cs,c.App=a0.Id→mx s0<c.Id)∨(a0.GN=2→a.GN=2∧cnt a.Ju+nw (mx s0) cs a0.Id=cnt a0.Ju)
def NC(n:Int)(s0:GN)(c:Cont):Prop:=mx s0<c.Id∧c.Node=n∧∃a0∈s0.IY,a0.Id=c.App∧((∃y∈a0.Ju,ky y=(c.Jt,c.I_,c.Kj))∨(c.I5=true∧(c.Jt,c.I_,c.Kj)=(0,0,a0.I5)))
structure W2(n:Int)(s0 s:GN):Prop where
 e:s.Jq=s0.Jq∧s0.Seq≤s.Seq
 l:s.IY.length=s0.IY.length
 a:∀i (h0:i<s0.IY.length) (h:i<s.IY.length),RA s0 s.IW s0.IY[i] s.IY[i]
 c:∀c∈s.IW,c∈s0.IW∨NC n s0 c
def W1(n:Int)(s0 s:GN):Prop:=W2 n s0 s∧∀c∈s.IW,c∈s0.IW
theorem Dc{m:Int}{cs:List Cont}{i:Int}(h:∀c∈cs,c.Id≤m):nw m cs i=0:=by
 unfold nw
 rw[QfG.2 λc hc=>by have:=h c hc;simp;omega]
 rfl
theorem Dt{m:Int}{cs:List Cont}{i:Int}{k:Nat}{c:Cont}(h:m<c.Id):nw m (cs.take k++[c]++cs.drop k) i=nw m cs i+if c.App=i∧c.I5=false then 1 else 0:=by
 unfold nw
 conv=>rhs;rw[← Uo k cs]
 simp only[Zx,IT,WS,List.filter_nil]
 by_cases h2:c.App=i<;>cases h3:c.I5<;>simp[h,h2]<;>omega
theorem H2{l m:List Ask}(e:l.map kc=m.map kc):cnt l=cnt m:=by have:=congrArg (λl:List ((Int×Int×Vec)×Int)=>(l.map (·.2)).sum) e;simpa[cnt,List.map_map,Function.comp_def,kc]using this
section
variable{n:Int}{s0:GN}{N0:Nat}(h0:J N0 s0)
include h0
theorem W1.refl:W1 n s0 s0:=⟨⟨⟨rfl,Int.le_refl _⟩,rfl,λi h1 h2=>⟨rfl,rfl,λx hx=>.inl ⟨x,hx,rfl⟩,.inr λhs=>⟨hs,by rw[Dc (m:=mx s0) λc hc=>(h0.kk c hc).1.2];omega⟩⟩,λc hc=>.inl hc⟩,λc hc=>hc⟩
theorem W1.ls{M:Nat}{s t:GN}(h:J M s)(w:W1 n s0 s)(g:LS s t):W1 n s0 t:=by
 have old:∀{cs:List Cont},(∀c∈cs,c∈s0.IW)→∀i,nw (mx s0) cs i=0:=λhc i=>Dc λc hm=>(h0.kk c (hc c hm)).1.2;obtain⟨w,hc⟩:=w
 have keep:∀{cs:List Cont}{a0 a b:App},(∀c∈cs,c∈s.IW)→RA s0 s.IW a0 a→b.Id=a.Id→b.I5=a.I5→b.Ju=a.Ju→b.GN=a.GN→RA s0 cs a0 b:=λhcs r e1 e2 e3 e4=>⟨e1.trans r.id,e2.trans r.ms,by rw[e3,e4];exact r.ky,r.ct.imp (λ⟨p,q⟩=>⟨p,λc hc=>q c (hcs c hc)⟩) λq hs=>by
  rw[e3,e4,old λc hm=>hc c (hcs c hm)];have:=q hs
  rwa [old hc]at this⟩
 rcases g with rfl | ⟨i,hi,j,hj,hid,⟨hm,rfl⟩ | ⟨_,g,q,_,_,rfl⟩⟩
 ·exact⟨w,hc⟩
 ·have hs:∀c∈(Ob { s with IY:=s.IY.set j (Ui s s.IY[j]) } s.IW[i].App).IW,c∈s.IW:=λc hc=>(WR.1 hc).1
  refine⟨⟨w.e,by simpa[Ob]using w.l,λk h0 h=>?_,λc hc2=>w.c c (hs c hc2)⟩,λc hc2=>hc c (hs c hc2)⟩
  have hk:k<s.IY.length:=by simpa[Ob]using h
  have r:=w.a k h0 hk;by_cases e:j=k
  ·subst e
   have e5:(Ob { s with IY:=s.IY.set j (Ui s s.IY[j]) } s.IW[i].App).IY[j]=Ui s s.IY[j]:=by simp[Ob]
   rw[e5]
   refine⟨r.id,r.ms,λx hx=>?_,.inl ⟨⟨_,hc _ (K_ hi),by rw[← hid,r.id],hm⟩,λc hc e=>?_⟩⟩
   ·rw[IU.1 hx]
    exact .inr ⟨by rw[← r.ms];rfl,rfl⟩
   ·have:=(WR.1 hc).2;rw[← r.id,hid]at e;simp[e]at this
  ·have e5:(Ob { s with IY:=s.IY.set j (Ui s s.IY[j]) } s.IW[i].App).IY[k]=s.IY[k]:=by simp[Ob,QdN e]
   rw[e5];exact keep hs r rfl rfl rfl rfl
 ·have hs:∀c∈s.IW.take i++s.IW.drop (i+1),c∈s.IW:=λc hc=>(s_ _ i).mem hc
  refine⟨⟨w.e,by simpa using w.l,λk h0 h=>?_,λc hc2=>w.c c (hs c hc2)⟩,λc hc2=>hc c (hs c hc2)⟩
  have hk:k<s.IY.length:=by simpa using h
  have r:=w.a k h0 hk;by_cases e:j=k
  ·subst e;simp only[QdU];exact keep hs r rfl rfl rfl rfl
  ·simp only[QdN e];exact keep hs r rfl rfl rfl rfl
omit h0 in
theorem W1.nd{s:GN}{l:List Node}(w:W1 n s0 s):W1 n s0 { s with Jb:=l }:=⟨⟨w.1.e,w.1.l,w.1.a,w.1.c⟩,w.2⟩
omit h0 in
theorem W2.hs{s t:GN}(w:W2 n s0 s)(g:HS s t):W2 n s0 t:=by obtain⟨l,_,rfl⟩:=g;exact⟨w.e,w.l,w.a,w.c⟩
omit h0 in
theorem W2.ms{s t:GN}(w:W2 n s0 s)(g:MS s t):W2 n s0 t:=by
 obtain⟨j,hj,l,e,rfl⟩:=g
 refine⟨w.e,by simpa using w.l,λk h0 h=>?_,w.c⟩
 have hk:k<s.IY.length:=by simpa using h
 have r:=w.a k h0 hk;by_cases e2:j=k
 ·subst e2;simp only[QdU]
  refine⟨r.id,r.ms,λx hx=>?_,r.ct.imp id λq hs=>⟨(q hs).1,by rw[H2 e];exact(q hs).2⟩⟩
  have:kc x∈s.IY[j].Ju.map kc:=e▸Zy hx;obtain⟨y,hy,e3⟩:=Ot.1 this;have e3:ky y=ky x:=(Prod.mk.inj e3).1;rw[← e3];exact r.ky y hy
 ·simp only[QdN e2];exact r
omit h0 in
theorem W2.gs{M:Nat}{s t:GN}(h:J M s)(w:W2 n s0 s)(g:GS n s t):W2 n s0 t:=by
 obtain⟨j,hj,x,b,c,i,hx,hv,g,e1,e2,e3,e4,e5,rfl⟩:=g
 have hm:mx s0<c.Id:=by have:=w.e;unfold mx;rw[e1,this.1];omega
 have hj0:j<s0.IY.length:=by rw[← w.l];exact hj
 have rj:=w.a j hj0 hj
 refine⟨⟨w.e.1,by have:=w.e.2;dsimp only;omega⟩,by simpa using w.l,λk h0k hk'=>?_,λd hd=>?_⟩
 ·have hk:k<s.IY.length:=by simpa using hk'
  have r:=w.a k h0k hk;have left:(∀d∈s.IW,d.App=s0.IY[k].Id→mx s0<d.Id)→∀d∈s.IW.take i++[c]++s.IW.drop i,d.App=s0.IY[k].Id→mx s0<d.Id:=λq d hd e=>(nD hd).elim (λhd=>q d hd e) λe=>e▸hm;by_cases e6:j=k
  ·subst e6;simp only[QdU]
   have hb:b.Id=s.IY[j].Id∧b.I5=s.IY[j].I5:=by rcases g with⟨_,rfl⟩ | ⟨_,l,_,_,_,rfl⟩<;>exact⟨rfl,rfl⟩
   refine⟨hb.1.trans r.id,hb.2.trans r.ms,λy hy=>?_,r.ct.imp (λ⟨p,q⟩=>⟨p,left q⟩) λq hs=>?_⟩
   ·rcases g with⟨_,rfl⟩ | ⟨g1,l,_,_,g2,rfl⟩
    ·cases hy
    ·obtain⟨z,hz,e7⟩:=g2 y hy;rw[← e7];exact .inl ((r.ky z hz).resolve_right λh=>g1 h.2)
   ·obtain⟨q1,q2⟩:=q hs;rcases g with⟨g1,_⟩ | ⟨g1,l,_,g3,_,rfl⟩
    ·omega
    ·refine⟨q1,?_⟩
     rw[Dt hm,if_pos ⟨by rw[e2,r.id],by rw[e5,beq_eq_false_iff_ne];exact g1⟩]
     dsimp only;omega
  ·simp only[QdN e6];refine⟨r.id,r.ms,r.ky,r.ct.imp (λ⟨p,q⟩=>⟨p,left q⟩) λq hs=>?_⟩;rw[Dt hm,if_neg,Int.add_zero]
   ·exact q hs
   ·rintro⟨e7,_⟩;rw[e2,← r.id]at e7
    exact e6 ((Zu h.ad (h₀:=by simpa using hj) (h₁:=by simpa using hk)).1 (by simpa using e7))
 ·rcases nD hd with hd | rfl
  ·exact w.c d hd
  ·refine .inr ⟨hm,e3,s0.IY[j],K_ hj0,by rw[e2,rj.id],?_⟩
   rw[e4]
   exact(rj.ky x hx).imp id λ⟨p,q⟩=>⟨by rw[e5,q];rfl,p⟩
theorem H7{N:Nat}{x:Input}(h:J N s0)(hN:N≤400000)(hx:IK x):Gv (fW s0 x) λr=>J (N+6200) r.1∧(x.Kind=3→W2 x.Id s0 r.1)∧(x.Kind≠3→Sub s0 r.1):=
 GY (I1:=W1 x.Id s0) (I2:=W2 x.Id s0) (λh w g=>W1.ls h0 h w g) (λw=>w.nd) (λ_ w=>w.1) (λ_ w g=>w.ms g) (λ_ w g=>w.hs g) (λh w g=>w.gs h g) h (W1.refl h0) hN hx
end
set_option linter.unusedVariables false
set_option linter.unusedSimpArgs false
theorem fF(a:Int){n:Int}(h0:0<n)(h1:n≤1000000000000):Gv (aU a n) λk=>0≤k∧k<n:=by
 have h2:=Int.lt_tmod_of_pos a h0;have h3:=Int.tmod_lt_of_pos a h0;unfold aU
 rw[AO (by omega),IP]
 refine ab (P:=λk=>0≤k∧k<n) (af (λh=>ae ?_) λh=>ae ?_) λk hk=>ae hk
 ·have h:=of_decide_eq_true h
  rw[aG (by omega) (by omega)]
  omega
 ·have h:=of_decide_eq_false h;omega
theorem fa(a:Int){n:Int}(h0:0<n)(h1:n≤1000000000000):Gv (am a n) λk=>0≤k∧k<n:=fF a h0 h1
theorem Cd{p:Str}(hp:p.length≤2000):Gv (ff p) λr=>r.length≤p.length∧(p≠[]→r.length<p.length):=by
 unfold ff;dsimp only
 rw[aG (by omega) (by omega)]
 refine ab (P:=λi:Int=>-1≤i∧i<p.length) (gL (λi:Int=>-1≤i∧i<p.length) (λi=>(i+1).toNat) (λi ⟨h1,h2⟩=>?_) (by omega)) λi ⟨h1,h2⟩=>af (λ_=>ae ⟨by simp,λh=>by simpa using QeW.2 h⟩) λh=>?_
 ·refine ab (P:=λq=>q=true→0≤i) (af (λh=>ab (gC (of_decide_eq_true h) h2) λ_ _=>ae λ_=>of_decide_eq_true h) λ_=>ae (by simp)) λq hq=>af (λe=>ae (.inl ⟨_,rfl,?_⟩)) λ_=>ae (.inr ⟨_,rfl,h1,h2⟩)
  have:=hq e
  rw[aG (by omega) (by omega)]
  omega
 ·have h:=of_decide_eq_false h
  refine ab (p8 (by omega) (by omega) (by omega)) λm ⟨h3,_⟩=>ae ⟨?_,λ_=>?_⟩<;>omega
structure QS(c:I6):Prop where
 q:c.IX.length≤16
 p:∀q∈c.IX,q.J_.length≤2000∧q.KU.length≤1000
theorem yO{c:I6}(h:QS c)(p:Str):Gv (dD c p) λl=>l.length≤c.IX.length∧((∀q∈c.IX,q.J_.length≤p.length)→l = []):=by
 have hq:=h.q;unfold dD
 refine ab (aJ (λ(l:List Str) i=>(l,i)) c.IX.length (λk l=>l.length≤k∧((∀q∈c.IX,q.J_.length≤p.length)→l = [])) (step:=dP c p) (by omega) (λk hk l ⟨l1,l2⟩=>?_) (λl hl=>?_) (s:=[]) (by simp)) λx hx=>ae hx
 ·have hp:=(h.p _ (K_ hk)).1;unfold dP;dsimp only;rw[ay hk,cond_true,aA hk,IP]
  refine ab (P:=λm=>m.length≤k+1∧((∀q∈c.IX,q.J_.length≤p.length)→m = [])) (ab (P:=λq=>q=true→¬ ∀q∈c.IX,q.J_.length≤p.length) (af (λe=>ab (Cd hp) λr ⟨r1,r2⟩=>ae λe2 a=>?_) λ_=>ae (by simp)) λq hq=>af (λe=>?_) λ_=>ae ⟨by omega,l2⟩) λm hm=>ae (.inl ⟨m,rfl,hm⟩)
  ·have a:=a _ (K_ hk)
   have e:p≠[]:=by simpa using e
   have e2:r=p:=by simpa using e2
   subst e2;by_cases h3:c.IX[k].J_ = []
   ·rw[h3]at r1
    exact e (List.length_eq_zero_iff.1 (by simpa using r1))
   ·have:=r2 h3;omega
  ·rw[IP,bi (by simp;omega) (by omega)]
   exact ae ⟨by simp;omega,λa=>absurd a (hq e)⟩
 ·refine aw (a:=.inr l) (by unfold dP;dsimp only;rw[az];rfl) ⟨l,rfl,hl⟩
theorem sZ(ns:List Int)(hl:ns.length≤1000000){i:Int}(hi:0≤i):T (bT ns i):=by
 unfold bT;refine af (λ_=>ai _) λh=>?_
 have h:(ns.length:Int)≠0:=by simpa using h
 rw[AO h,IP]
 exact ab (gC (Int.tmod_nonneg _ hi) (Int.tmod_lt_of_pos i (by omega))) λ_ _=>ai _
def Sm(n:Nat)(s:Str):Prop:=s.length≤n∧As s
structure QB(L:Nat)(q:I4):Prop where
 p:Sm 20 q.J_
 u:0≤q.User∧q.User≤1000000
 c:q.KU.length=L
 k:∀x∈q.KU,(0≤x.Ls∧x.Ls≤1000000)∧0≤x.Most∧x.Most≤1000000
structure CB(L Q:Nat)(c:I6):Prop where
 l:c.I7.length=L
 s:∀x∈c.I7,Sm 20 x
 n:c.IX.length=Q
 q:∀q∈c.IX,QB L q
theorem jL{α β : Type}{l:List α}{k:Int}{f:α→Option β}{P:α→Prop}{Q:β→Prop}(h:0≤k∧k<l.length)(hl:∀x∈l,P x)(g:∀a,P a→Gv (f a) Q):Gv ((Ka k l.length).bind λi=>(l[i]?).bind f) Q:=
 ab (da h.1 h.2) λi hi=>ab (c_ (by omega)) λx hx=>g x (hl x hx.1)
section
variable{L Q:Nat}(hL:L≤2)(hQ:Q≤10){ns:List Int}(hns:ns.length≤1000)
include hQ
theorem Bn{kids:List Str}{t3:I6×Int}{k:Nat}(hk:t3.2=(k:Int))(hkL:k<L){t4:I6×Int×Int}{j:Nat}(hj:t4.2.2=(j:Int))(hjk:j<kids.length){n UA:Int}(hn:0≤n∧n≤1000000)(hx:0≤UA∧UA≤1000000){c:I6}(hc:CB L Q c) :
  Gv (loop (cB kids t3 t4 n UA) (c,0)) (CB L Q):=by
 refine aT (λ(c:I6) i=>(c,i)) Q (CB L Q) (step:=cB kids t3 t4 n UA) (by omega) (λm hm c hc=>?_) (λc hc=>?_) hc
 ·have hmq:m<c.IX.length:=by rw[hc.n];exact hm
  have hq:=hc.q _ (K_ hmq)
  have hkc:k<c.IX[m].KU.length:=by rw[hq.c];exact hkL
  unfold cB;dsimp only;rw[ay hmq,cond_true,hj,hk];simp only[aH hmq,aH hjk,IP,IR hmq,IR hjk];refine ab (P:=CB L Q) (af (λ_=>?_) λ_=>ae hc) λc hc=>ae (.inl ⟨c,rfl,hc⟩);rw[aH hkc,IP,IR hkc,IP]
  refine ae ⟨hc.l,hc.s,by simpa using hc.n,λq hq'=>(SG hq').elim (hc.q q) ?_⟩
  rintro rfl
  refine⟨hq.p,hq.u,by simpa using hq.c,λx hx'=>(SG hx').elim (hq.k x) ?_⟩
  rintro rfl;exact⟨hn,hx⟩
 ·exact aw (a:=.inr c) (by unfold cB;dsimp only;rw[hc.n,az];rfl) ⟨c,rfl,hc⟩
include hns hL
theorem BX{t2:I6×Int}{i:Nat}(hi:t2.2=(i:Int))(hib:i≤100){kids:List Str}(hkids:kids.length≤10){t3:I6×Int}{k:Nat}(hk:t3.2=(k:Int))(hkL:k<L)(hc:CB L Q t3.1) :
  Gv (loop (cw ns t2 kids t3) (t3.1,10000,0)) (CB L Q):=by
 refine aT (λ(p:I6×Int) i=>(p.1,p.2,i)) kids.length (λp=>CB L Q p.1∧0≤p.2∧p.2≤10000) (step:=cw ns t2 kids t3) (by omega) ?_ (λp ⟨hc,_⟩=>?_) (s:=(t3.1,10000)) ⟨hc,by dsimp only;omega⟩
 ·rintro j hj ⟨c,left⟩ ⟨hc,h1,h2⟩;dsimp only at hc h1 h2;unfold cw;dsimp only;rw[ay hj,cond_true,hi,hk]
  have hij:0≤(i:Int)*(j:Int)∧(i:Int)*(j:Int)≤100*10:=vr (by omega) (by omega) (by omega) (by omega)
  rw[aG (x:=(i:Int)*j) (by omega) (by omega),aG (x:=2*(j:Int)) (by omega) (by omega),aG (x:=(i:Int)+j) (by omega) (by omega)]
  rw[aG (x:=(kids.length:Int) - 1) (by omega) (by omega),aG (x:=(i:Int)+j+k) (by omega) (by omega),aG (x:=(i:Int)*j+k) (by omega) (by omega),aG (x:=(j:Int)+k) (by omega) (by omega),aG (x:=(i:Int)+2*j) (by omega) (by omega),aG (x:=left+1) (by omega) (by omega)]
  refine ab (P:=λn=>0≤n∧n≤left) (af (λ_=>?_) λ_=>ae (by omega)) ?_
  ·refine ab (sZ ns (by omega) (by omega)) λx8 _=>ab (fF x8 (n:=left+1) (by omega) (by omega)) λx9 hx9=>ab (sZ ns (by omega) (by omega)) λx10 _=>ab (fF x10 (n:=4) (by omega) (by omega)) λM_ anx=>jL (P:=λn=>0≤n∧n≤left) anx ?_ λ_ h=>ae h
   have hdiv:Int.tdiv left 2=left / 2:=QeT h1
   have:=aG (x:=left / 2) (by omega) (by omega)
   simp[hdiv,this];omega
  ·rintro n ⟨n1,n2⟩
   rw[aG (x:=10000 - n) (by omega) (by omega),aG (x:=10000 - n+1) (by omega) (by omega)]
   refine ab (sZ ns (by omega) (by omega)) λPO _=>ab (fF PO (n:=10000 - n+1) (by omega) (by omega)) λN_ hx14=>ab (sZ ns (by omega) (by omega)) λSH _=>ab (fF SH (n:=3) (by omega) (by omega)) λUM hx16=>jL (P:=λm=>0≤m∧m≤1000000) hx16 ?_ λUA ZX=>ab (Bn hQ hk hkL (t4:=(c,left,(j:Int))) rfl hj (by omega) ZX hc) λc2 hc2=>ae (.inl ⟨(c2,I8 (left - n)),rfl,hc2,?_⟩)
   ·have:=aG (x:=n+N_) (by omega) (by omega)
    simp[this];omega
   ·rw[aG (x:=left - n) (by omega) (by omega)]
    dsimp only;omega
 ·exact aw (a:=.inr p.1) (by unfold cw;dsimp only;rw[az];rfl) ⟨_,rfl,hc⟩
theorem Bq{x2:List Str}(hx2:x2.length≤10){c:I6}(hc:CB L Q c):Gv (loop (cq ns x2) (c,0)) (CB L Q):=by
 refine aT (λ(c:I6) i=>(c,i)) x2.length (CB L Q) (step:=cq ns x2) (by omega) (λi hi c hc=>?_) (λc hc=>?_) hc
 ·unfold cq;dsimp only;rw[ay hi,cond_true,aA hi,IP];have hqs:=hc.n
  refine ab (yO ⟨by omega,λq hq=>?_⟩ _) λl ⟨l1,_⟩=>ab (P:=CB L Q) (aT (λ(c:I6) i=>(c,i)) L (CB L Q) (step:=dV ns (c,(i:Int)) l) (by omega) (λk hk c' hc'=>?_) (λc' hc'=>?_) hc) λc hc=>ae (.inl ⟨c,rfl,hc⟩)
  ·have h1:=(hc.q q hq).p.1;have h2:=(hc.q q hq).c;omega
  ·unfold dV;dsimp only;rw[hc'.l,ay hk,cond_true]
   exact ab (BX hL hQ hns (t2:=(c,(i:Int))) rfl (by omega) (by omega) (t3:=(c',(k:Int))) rfl hk hc') λc hc=>ae (.inl ⟨c,rfl,hc⟩)
  ·exact aw (a:=.inr c') (by unfold dV;dsimp only;rw[hc'.l,az];rfl) ⟨_,rfl,hc'⟩
 ·exact aw (a:=.inr c) (by unfold cq;dsimp only;rw[az];rfl) ⟨_,rfl,hc⟩
omit hQ hns
theorem Bd{x2:List Str}(hx2:x2.length≤10)(hp:∀p∈x2,Sm 20 p){lab:List Str}(hl:lab.length=L)(hls:∀x∈lab,Sm 20 x) :
  Gv (loop (cu ns x2) ((⟨lab,[]⟩:I6),0)) (CB L x2.length):=by
 refine aJ (λ(c:I6) i=>(c,i)) x2.length (λk c=>CB L k c) (step:=cu ns x2) (by omega) (λi hi c hc=>?_) (λc hc=>?_) (s:=(⟨lab,[]⟩:I6)) ⟨hl,hls,rfl,by simp⟩
 ·unfold cu;dsimp only;rw[ay hi,cond_true,aA hi,IP];have hpi:=hp _ (K_ hi)
  refine ab (P:=QB 0) (ab (P:=λb=>b=true→i<ns.length) (af (λh=>?_) λ_=>ae (by simp)) λb hb=>af (λhbt=>?_) λ_=>ae ⟨hpi,by dsimp only;omega,rfl,by simp⟩) λq1 hq1=>ab (P:=QB L) (aJ (λ(q:I4) i=>(q,i)) L (λk q=>QB k q) (step:=dL (c,(i:Int))) (by omega) (λk hk q hq=>?_) (λq hq=>?_) (s:=q1) hq1) λq2 hq2=>?_
  ·have hlt:i<ns.length:=by have:=of_decide_eq_true h;omega
   rw[aA hlt,IP];exact ae λ_=>hlt
  ·rw[aA (hb hbt),IP]
   refine ab (fF _ (n:=20000) (by omega) (by omega)) λx6 hx6=>ae ⟨hpi,?_,rfl,by simp⟩
   rw[aG (x:=1+x6) (by omega) (by omega)]
   dsimp only;omega
  ·unfold dL;dsimp only
   rw[hc.l,ay hk,cond_true,bi (by have:=hq.c;simp;omega) (by omega),IP]
   refine ae (.inl ⟨_,rfl,hq.p,hq.u,by simp[hq.c],λx hx=>(Mi.1 hx).elim (hq.k x) λhx=>?_⟩)
   rw[IU.1 hx];dsimp only;omega
  ·exact aw (a:=.inr q) (by unfold dL;dsimp only;rw[hc.l,az];rfl) ⟨_,rfl,hq⟩
  ·rw[bi (by have:=hc.n;simp;omega) (by omega),IP]
   exact ae (.inl ⟨_,rfl,hc.l,hc.s,by simp[hc.n],λq hq=>(Mi.1 hq).elim (hc.q q) λhq=>IU.1 hq▸hq2⟩)
 ·exact aw (a:=.inr c) (by unfold cu;dsimp only;rw[az];rfl) ⟨_,rfl,hc⟩
end
theorem F2(shape:Int){ns:List Int}(hns:ns.length≤1000):Gv (fO shape ns) λc=>∃L Q,L≤2∧Q≤10∧CB L Q c:=by
 unfold fO
 refine ab (fF _ (n:=2) (by omega) (by omega)) λx hx=>?_
 rw[aG (by omega) (by omega)]
 refine ab (gZ (by omega) (by omega) (by simp;omega)) λp hp=>ab (fF shape (n:=5) (by omega) (by omega)) λx1 hx1=>jL (P:=λl=>l.length≤10∧∀p∈l,Sm 20 p) hx1 (by unfold Sm As;decide +kernel) λx2 ⟨h1,h2⟩=>?_
 subst hp
 have hL:(sub [([]:List UInt8),([103,112,117]:List UInt8)] (0:Int).toNat ((1+x).toNat - (0:Int).toNat)).length≤2:=by simp[sub];omega
 have hs:∀y∈[([]:List UInt8),([103,112,117]:List UInt8)],Sm 20 y:=by unfold Sm As;decide +kernel
 exact ab (Bd hL h1 h2 rfl λy hy=>hs y (XD (U3 hy))) λc hc=>ab (Bq hL h1 hns h1 hc) λc hc=>ae ⟨_,_,hL,h1,hc⟩
set_option linter.unusedVariables false
set_option linter.unusedSimpArgs false
theorem B8{s t:Str}(hs:As s)(ht:As t):As (s++t):=λb hb=>(Mi.1 hb).elim (hs b) (ht b)
theorem BC:∀(d m:Nat)(n:Int),d≤m→0≤n→n<10 ^ (d+1)→d≤6→Gv (bz (m+1) n) (Sm (2 ^ d)):=by
 have dg:∀(k:Nat)(n:Int),1≤k→0≤n→n<10→Gv (some (List.map toB [IntKind.u8.wrap (I8 (48+n))])) (Sm k):=λk n hk h0 h1=>ae ⟨by simpa using hk,by
  have:n=0∨n=1∨n=2∨n=3∨n=4∨n=5∨n=6∨n=7∨n=8∨n=9:=by omega
  unfold As
  rcases this with rfl | rfl | rfl | rfl | rfl | rfl | rfl | rfl | rfl | rfl<;>decide +kernel⟩
 intro d
 induction d with
 | zero=>
  intro m n _ h0 h1 _;show Gv (b7 (bz m) n) _;unfold b7
  have h1:n<10:=by simpa using h1
  rw[decide_eq_false (by omega),cond_false,decide_eq_false (by omega),cond_false]
  exact dg _ n (by decide) h0 h1
 | succ d ih=>
  intro m n hm h0 h1 hd
  obtain⟨m,rfl⟩:∃k,m=k+1:=⟨m - 1,by omega⟩
  show Gv (b7 (bz (m+1)) n) _;unfold b7
  rw[decide_eq_false (by omega:¬ n<0),cond_false]
  refine af (λh10=>?_) λh10=>dg _ n (Nat.one_le_pow _ _ (by omega)) h0 (by have:=of_decide_eq_false h10;omega)
  have h10:=of_decide_eq_true h10
  have hp:(10:Int) ^ (d+1+1)=10 ^ (d+1)*10:=by rw[Int.pow_succ]
  have hb:(10:Int) ^ (d+1)≤10 ^ 7:=by exact_mod_cast Qe_ (n:=10) (by omega) (by omega:d+1≤7)
  have h10p:(10:Int)≤10 ^ (d+1):=by exact_mod_cast Qe_ (n:=10) (by omega) (by omega:1≤d+1)
  rw[QeT h0,Int.tmod_eq_emod_of_nonneg h0,aG (by omega) (by omega)]
  refine ab (ih m (n / 10) (by omega) (by omega) (by omega) (by omega)) λx1 hx1=>ab (ih m (n % 10) (by omega) (by omega) (by omega) (by omega)) λx2 hx2=>?_
  have h1:=hx1.1;have h2:=hx2.1
  have hpow:2 ^ d≤2 ^ 6:=Qe_ (by omega) (by omega)
  rw[t_ (by omega),IP]
  exact ae ⟨by rw[IT,Nat.pow_succ];omega,B8 hx1.2 hx2.2⟩
theorem xQ{n:Int}(h:0≤n∧n≤1000000):Gv (cm n) (Sm 64):=BC 6 63 n (by omega) h.1 (by omega) (by omega)
theorem gH{β : Type}{n m k:Nat}{s t:Str}{f:Str→Option β}{P:β→Prop}(hs:Sm n s)(ht:Sm m t)(hb:n+m≤k∧k≤1000000)(g:∀x,Sm k x→Gv (f x) P):Gv ((cat s t).bind f) P:=by
 have h1:=hs.1;have h2:=ht.1
 rw[t_ (by omega),IP]
 exact g _ ⟨by rw[IT];omega,B8 hs.2 ht.2⟩
theorem Sm.mono{n m:Nat}{s:Str}(h:Sm n s)(k:n≤m):Sm m s:=⟨MJ h.1 k,h.2⟩
theorem Hy{L Q:Nat}(hL:L≤2)(hQ:Q≤10){c:I6}(hc:CB L Q c):Gv (fN c) As:=by
 have lit:∀{s:Str},(s.all λb=>decide (b.toNat<128))=true→Sm s.length s:=λh=>⟨Ku _,λb hb=>of_decide_eq_true (N9.1 h b hb)⟩;have hl:=hc.l;have hn:=hc.n;unfold fN
 refine ab (P:=Sm 1000) (gL (λt:Str×Int=>1≤t.2∧t.2≤3∧Sm (6+30*t.2.toNat) t.1) (λt=>(3 - t.2).toNat) (λt ⟨h1,h2,h3⟩=>?_) ⟨by simp,by simp,(lit rfl).mono (by simp)⟩) λs hs=>?_
 ·unfold jY
  refine af (λh=>?_) λ_=>ae (.inr ⟨_,rfl,h3.mono (by omega)⟩)
  have h:=of_decide_eq_true h
  refine gH h3 (lit rfl) (k:=7+30*t.2.toNat) (by simp;omega) λs h=>ab (gC (by omega) (by omega)) λx hx=>gH h (hc.s x hx.1) (k:=27+30*t.2.toNat) (by omega) λs h=>ae (.inl ⟨_,rfl,?_,?_⟩)
  ·rw[aG (x:=t.2+1) (by omega) (by omega)]
   exact⟨by dsimp only;omega,by dsimp only;omega,h.mono (by dsimp only;omega)⟩
  ·rw[aG (x:=t.2+1) (by omega) (by omega)]
   dsimp only;omega
 ·refine gH hs (lit rfl) (k:=1001) (by simp) λs hs=>ab (P:=As) (aJ (λ(s:Str) i=>(s,i)) c.IX.length (λk=>Sm (1001+k*3000)) (step:=dU c) (by omega) (λk hk s hs=>?_) (λs hs=>?_) (hs.mono (by omega))) λ_ h=>ae h
  ·have hq:=hc.q _ (K_ hk);have hcl:=hq.c;unfold dU;dsimp only;rw[ay hk,cond_true,aA hk,IP]
   refine gH hs (lit rfl) (k:=1010+k*3000) (by simp;omega) λs hs=>gH hs hq.p (k:=1040+k*3000) (by omega) λs hs=>gH hs (lit rfl) (k:=1041+k*3000) (by simp;omega) λs hs=>ab (xQ hq.u) λx hx=>gH hs hx (k:=1200+k*3000) (by omega) λs hs=>ab (P:=Sm (2000+k*3000)) (aJ (λ(s:Str) i=>(s,i)) c.IX[k].KU.length (λj=>Sm (1200+k*3000+j*200)) (step:=dX c.IX[k]) (by omega) (λj hj m hm=>?_) (λm hm=>?_) (hs.mono (by omega))) λm hm=>gH hm (lit rfl) (k:=2001+k*3000) (by simp;omega) λs hs=>ae (.inl ⟨_,rfl,hs.mono (by omega)⟩)
   ·have hcap:=hq.k _ (K_ hj);unfold dX;dsimp only;rw[ay hj,cond_true];simp only[aA hj,IP]
    exact gH hm (lit rfl) (k:=1201+k*3000+j*200) (by simp;omega) λs hs=>ab (xQ hcap.1) λx hx=>gH hs hx (k:=1265+k*3000+j*200) (by omega) λs hs=>gH hs (lit rfl) (k:=1266+k*3000+j*200) (by simp;omega) λs hs=>ab (xQ hcap.2) λx hx=>gH hs hx (k:=1330+k*3000+j*200) (by omega) λs hs=>ae (.inl ⟨_,rfl,hs.mono (by omega)⟩)
   ·exact aw (a:=.inr m) (by unfold dX;dsimp only;rw[az];rfl) ⟨_,rfl,hm.mono (by omega)⟩
  ·exact aw (a:=.inr s) (by unfold dU;dsimp only;rw[az];rfl) ⟨_,rfl,hs.2⟩
theorem Aq:∀l:List I4,l≠[]→∃(k:Nat)(hk:k<l.length),∀x∈l,x.J_.length≤l[k].J_.length
 | [],h=>absurd rfl h
 | q::l,_=>by
  by_cases hl:l = []
  ·exact⟨0,by simp,by simp[hl]⟩
  obtain⟨k,hk,h⟩:=Aq l hl;by_cases hq:q.J_.length≤l[k].J_.length
  ·exact⟨k+1,by simpa using hk,λx hx=>(Li.1 hx).elim (λe=>e▸hq) (h x)⟩
  ·exact⟨0,by simp,λx hx=>(Li.1 hx).elim (λe=>by simp[e]) λhx=>by have:=h x hx;simp;omega⟩
theorem A9{α β : Type}(l:List α)(p:α→Bool)(f:α→β)(z:β)(hn:l.length≤1000000){step:β×Int→Option ((β×Int) ⊕ ((β×Bool) ⊕ β))}(h1:∀k (hk:k<l.length),step (z,(k:Int))=some (if p l[k]=true then .inr (.inl (f l[k],true))else .inl (z,I8 ((k:Int)+1))))(h2:step (z,(l.length:Int))=some (.inr (.inr z))) :
  loop step (z,0)=some ((l.find? p).elim (.inr z) λx=>.inl (f x,true)):=by
 refine(λ⟨r,e,hr⟩=>e.trans (congrArg some hr):Gv (loop step (z,0)) (λr=>r=(l.find? p).elim (.inr z) λx=>.inl (f x,true))→_) (aJ (λ(_:Unit) i=>(z,i)) l.length (λk _=>∀j (hj:j<l.length),j<k→p l[j]=false) (by omega) (λk hk _ h=>aw (h1 k hk) ?_) (λ_ h=>aw h2 ⟨_,rfl,?_⟩) (s:=()) λj _ h=>absurd h (by omega))
 ·by_cases hp:p l[k]=true
  ·rw[if_pos hp];refine .inr ⟨_,rfl,?_⟩
   rw[QeM.2 ⟨hp,k,hk,rfl,λj hj=>by simp[h j (by omega) hj]⟩]
   rfl
  ·rw[if_neg hp];refine .inl ⟨(),rfl,λj hj hlt=>?_⟩;by_cases e:j=k
   ·subst e;simpa using hp
   ·exact h j hj (by omega)
 ·rw[QdT.2 λx hx=>by obtain⟨j,hj,rfl⟩:=QeS.1 hx;simp[h j hj hj]]
  rfl
section
variable{c:I6}(h:JC c)
include h
theorem jqs:QS c:=⟨h.q.2,λq hq=>⟨(h.k q hq).2.1.1,by have:=(h.k q hq).1;omega⟩⟩
theorem Fj{k:Nat}(hk:k<c.IX.length):Gv (fP c c.IX[k].J_) λb=>(∀x∈c.IX,x.J_.length≤c.IX[k].J_.length)→b=true:=by
 have hq:=h.q;unfold fP iN
 rw[A9 c.IX (λq=>q.J_ == c.IX[k].J_) id _ (by omega) (λj hj=>?_) (by unfold gq;dsimp only;rw[az];rfl),IP]
 ·cases e:c.IX.find? λq=>q.J_ == c.IX[k].J_ with
  | none=>have:=QdT.1 e _ (K_ hk);simp at this
  | some q=>
   dsimp only[Option.elim];rw[IP,cond_true]
   exact ab (yO (jqs h) _) λl ⟨_,hl⟩=>ae λa=>by rw[hl a];rfl
 ·have:=(h.k _ (K_ hj)).1;unfold gq;dsimp only
  rw[ay hj,cond_true,aA hj,IP,IP,bh (by omega) (by omega),IP]
  cases c.IX[j].J_ == c.IX[k].J_<;>rfl
theorem Bh:Gv (eL c) λl=>1≤l.length∧l.length≤16:=by
 have hq:=h.q
 obtain⟨m,hm,hd⟩:=Aq c.IX λe=>by simp[e]at hq
 unfold eL
 refine ab (aJ (λ(l:List Str) i=>(l,i)) c.IX.length (λk l=>l.length≤k∧(m<k→1≤l.length)) (step:=cS c) (by omega) (λk hk l ⟨l1,l2⟩=>?_) (λl ⟨l1,l2⟩=>?_) (s:=[]) ⟨by simp,λh=>absurd h (by omega)⟩) λx hx=>ae hx
 ·unfold cS;dsimp only;rw[ay hk,cond_true];simp only[aA hk,IP]
  refine ab (P:=λl=>l.length≤k+1∧(m<k+1→1≤l.length)) (ab (Fj h hk) λb hb=>af (λ_=>?_) λe=>ae ⟨by omega,λ_=>l2 ?_⟩) λl hl=>ae (.inl ⟨l,rfl,hl⟩)
  ·rw[bi (by simp;omega) (by omega)]
   exact ae ⟨by simp;omega,λ_=>by simp⟩
  ·rcases Nat.lt_or_ge m k with h | h
   ·exact h
   ·have h:m=k:=by omega
    subst h;rw[hb hd]at e;cases e
 ·exact aw (a:=.inr l) (by unfold cS;dsimp only;rw[az];rfl) ⟨_,rfl,l2 hm,by omega⟩
end
theorem ug(n:Int):T (dH n):=ab (fa n (n:=5) (by omega) (by omega)) λx hx=>jL (P:=λ_=>True) hx (λ_ _=>trivial) λ_ _=>ai _
def IQ(k:Nat)(i:Input):Prop:=i.Ids.length≤k∧i.Ju.length≤1000∧As i.Text
theorem IQ.k{k:Nat}{i:Input}(h:IQ k i)(hk:k≤200):IK i:=⟨MJ h.1 hk,h.2.1,h.2.2⟩
section
variable{N:Nat}{s:GN}(h:J N s)(a:Act)
include h
theorem Bg:Gv (cL a s) IK:=by
 have ha:=h.a;have hk:=h.k;have hl:=h.c.l
 have w:∀(x:Int){n:Int},0<n→n≤1000000→T (am x n):=λx n h0 h1=>wl (fa x h0 (by omega))
 have as0:As []:=λb hb=>by cases hb
 unfold cL
 refine af (λ_=>ae ⟨by simp,by simp,as0⟩) λhz=>?_
 have hz:(s.IY.length:Int)≠0:=by simpa using hz
 refine ab (fa a.A (n:=s.IY.length) (by omega) (by omega)) λx hx=>ab (wl (gC hx.1 hx.2)) λx1 _=>ab (w a.B (n:=8) (by omega) (by omega)) λx2 _=>ab (P:=IQ 0) (af (λ_=>?_) λ_=>ae ⟨by simp,by simp,as0⟩) λi0 hi0=>ab (P:=IK) (aJ (λ(i:Input) k=>(i,k)) s.IW.length IQ (step:=b9 a s x1) (by omega) (λk hk i ⟨q1,q2⟩=>?_) (λi q=>?_) hi0) λi hi=>ae hi
 ·refine ab (w a.B (n:=5) (by omega) (by omega)) λx3 _=>ab (w a.C (n:=s.I6.I7.length) (by omega) (by omega)) λx4 _=>ab (ug a.D) λx5 _=>ab (w a.D (n:=7) (by omega) (by omega)) λx6 _=>ab (P:=λ_=>True) (af (λ_=>ab (w a.C (n:=3) (by omega) (by omega)) λ_ _=>ai _) λ_=>ai _) λk _=>ab (P:=λ_=>True) (af (λ_=>ab (w a.C (n:=3) (by omega) (by omega)) λ_ _=>ab (w a.B (n:=6) (by omega) (by omega)) λ_ _=>ai _) λ_=>ai _) λk1 _=>ae ⟨by simp,by simp,as0⟩
 ·unfold b9;dsimp only;rw[ay hk,cond_true];simp only[aA hk,IP]
  refine ab (P:=IQ (k+1)) (aF (af (λ_=>ab (w _ (n:=11) (by omega) (by omega)) λ_ _=>ai _) λ_=>ai _) λq=>af (λ_=>?_) λ_=>ae ⟨by omega,q2⟩) λi hi=>ae (.inl ⟨i,rfl,hi⟩)
  rw[bi (by simp;omega) (by omega),IP]
  exact ae ⟨by simp;omega,q2⟩
 ·exact aw (a:=.inr i) (by unfold b9;dsimp only;rw[az];rfl) ⟨_,rfl,q.k (by omega)⟩
theorem EA:Gv (cW a s) IK:=by
 have hn:=h.n;have hk:=h.k;have hl:=h.c.l
 have w:∀(x:Int){n:Int},0<n→n≤1000000→T (am x n):=λx n h0 h1=>wl (fa x h0 (by omega))
 have as0:As []:=λb hb=>by cases hb
 have ok:∀{i:Input},i.Ids = []→i.Ju = []→i.Text = []→IK i:=λe1 e2 e4=>⟨by rw[e1];simp,by rw[e2];simp,by rw[e4];exact as0⟩
 have tst:∀(c b d:Bool),T (bif c then some b else some d):=λc b d=>by cases c<;>exact ai _
 unfold cW
 refine ab (w a.A (n:=6) (by omega) (by omega)) λLc _=>ab (Bh h.c) λlv hlv=>ab (w a.B (n:=4) (by omega) (by omega)) λx _=>ab (P:=IK) (ab (w a.Kind (n:=16) (by omega) (by omega)) λx1 _=>?_) λi hi=>ae hi
 refine ab (tst _ _ _) λq _=>af (λ_=>ab (w a.B (n:=s.I6.I7.length) (by omega) (by omega)) λx2 _=>ab (w a.C (n:=3) (by omega) (by omega)) λx3 _=>ab (w a.D (n:=12) (by omega) (by omega)) λx4 _=>
   ab (w a.D (n:=8) (by omega) (by omega)) λx5 _=>ae (ok rfl rfl rfl)) λ_=>?_
 refine aF (by repeat' (first | exact ai _ | refine af (λ_=>?_) λ_=>?_)) λq1=>af (λ_=>?_) λ_=>?_
 ·refine ab (P:=IQ 0) (aT (λ(i:Input) k=>(i,k)) s.Jb.length (IQ 0) (step:=ck a s Lc) (by omega) (λk hk i hi=>?_) (λi hi=>?_) (s:=_) ⟨by simp,by simp,as0⟩) λi0 hi0=>ab (P:=IK) (aJ (λ(i:Input) k=>(i,k)) s.IW.length IQ (step:=cj a s Lc) (by omega) (λk hk i ⟨q1,q2⟩=>?_) (λi q=>?_) hi0) λi hi=>ae hi
  ·unfold ck;dsimp only;rw[ay hk,cond_true];simp only[aA hk,IP]
   exact ab (P:=IQ 0) (af (λ_=>ab (w a.B (n:=8) (by omega) (by omega)) λ_ _=>ae hi) λ_=>ae hi) λi hi=>ae (.inl ⟨i,rfl,hi⟩)
  ·exact aw (a:=.inr i) (by unfold ck;dsimp only;rw[az];rfl) ⟨_,rfl,hi⟩
  ·unfold cj;dsimp only;rw[ay hk,cond_true];simp only[aA hk,IP]
   refine ab (P:=IQ (k+1)) (aF (af (λ_=>ab (w _ (n:=9) (by omega) (by omega)) λ_ _=>ai _) λ_=>ai _) λq=>af (λ_=>?_) λ_=>ae ⟨by omega,q2⟩) λi hi=>ae (.inl ⟨i,rfl,hi⟩)
   rw[bi (by simp;omega) (by omega),IP]
   exact ae ⟨by simp;omega,q2⟩
  ·exact aw (a:=.inr i) (by unfold cj;dsimp only;rw[az];rfl) ⟨_,rfl,q.k (by omega)⟩
 refine ab (tst _ _ _) λq3 _=>af (λ_=>ab (w a.A (n:=20) (by omega) (by omega)) λUM _=>ab (fa a.B (n:=lv.length) (by omega) (by omega)) λUA ZX=>jL (P:=λ_=>True) ZX (λ_ _=>trivial) λx18 _=>ab (w a.C (n:=3) (by omega) (by omega)) λx19 _=>ab (w a.D (n:=3) (by omega) (by omega)) λx20 _=>ab (ug _) λx21 _=>ae (ok rfl rfl rfl)) λ_=>?_
 refine aF (by repeat' (first | exact ai _ | refine af (λ_=>?_) λ_=>?_)) λq4=>af (λ_=>ab (Bg h a) λi hi=>ae hi) λ_=>?_
 refine af (λ_=>ab (fa a.B (n:=2) (by omega) (by omega)) λx23 hx=>jL (l:=([6,7]:List Int)) (P:=λ_=>True) hx (λ_ _=>trivial) λx24 _=>ab (w a.A (n:=20) (by omega) (by omega)) λx25 _=>ae (ok rfl rfl rfl)) λ_=>?_
 refine ab (tst _ _ _) λq5 _=>af (λ_=>ab (w a.A (n:=5) (by omega) (by omega)) λx26 _=>ae (ok rfl rfl rfl)) λ_=>?_
 refine af (λ_=>ab (fa a.D (n:=3) (by omega) (by omega)) λx27 hx=>jL (l:=([9,9,10]:List Int)) (P:=λ_=>True) hx (λ_ _=>trivial) λx28 _=>ab (w a.B (n:=s.I6.I7.length) (by omega) (by omega)) λx29 _=>ab (w a.C (n:=5) (by omega) (by omega)) λx30 _=>ab (ug _) λx31 _=>
   ab (w a.C (n:=12) (by omega) (by omega)) λx32 _=>ae (ok rfl rfl rfl)) λ_=>?_
 refine af (λ_=>ab (fa a.A (n:=3) (by omega) (by omega)) λx33 hx=>jL (l:=([11,1,1]:List Int)) (P:=λ_=>True) hx (λ_ _=>trivial) λx34 _=>ab (F2 a.B (ns:=[a.C,a.D]) (by simp)) λc ⟨L,Q,hL,hQ,hc⟩=>ab (Hy hL hQ hc) λx36 h36=>ae ⟨by simp,by simp,h36⟩) λ_=>ae (ok rfl rfl rfl)
end
set_option linter.unusedVariables false
set_option linter.unusedSimpArgs false
theorem aiL:Gv lR (J 0):=by
 refine ae ⟨⟨by simp,by simp,by simp,?_⟩,?_,?_,?_,?_,?_,?_,?_,?_,?_,by omega,?_⟩<;>simp
section
variable{N:Nat}{s:GN}(h:J N s)
include h
theorem F9(i:Int):Gv (fd s i) λr=>r.2=s.IW.any λc=>c.Id == i:=by
 have hk:=h.k;unfold fd
 rw[A9 s.IW (λc=>c.Id == i) id _ (by omega) (λj hj=>?_) (by unfold fX;dsimp only;rw[az];rfl),IP]
 ·cases e:s.IW.find? λc=>c.Id == i with
  | none=>exact ae (Eq.symm (QeO.2 (QdT.1 e)))
  | some q=>exact ae (Eq.symm (List.any_eq_true.2 ⟨q,QdI e,by simpa using QeN e⟩))
 ·unfold fX;dsimp only;rw[ay hj,cond_true,aA hj,IP,IP]
  cases s.IW[j].Id == i<;>rfl
theorem Ip{k:Nat}(hk:k<s.IY.length){i:Int}(e:s.IY[k].Id=i):fD s i=some (s.IY[k],true):=by
 have ha:=h.a;unfold fD
 rw[A9 s.IY (λc=>c.Id == i) id _ (by omega) (λj hj=>?_) (by unfold fY;dsimp only;rw[az];rfl),IP]
 ·rw[QeM.2 ⟨by simpa using e,k,hk,rfl,λj hj=>?_⟩]
  ·rfl
  ·have hj2:j<s.IY.length:=by omega
   have:s.IY[j].Id≠i:=λe2=>by
    have:=(Zu h.ad (h₀:=by simpa using hj2) (h₁:=by simpa using hk)).1 (by simpa using e2.trans e.symm)
    omega
   simpa using this
 ·unfold fY;dsimp only;rw[ay hj,cond_true,aA hj,IP,IP]
  cases s.IY[j].Id == i<;>rfl
end
theorem anq{a:App}{c:Cont}{b:Bool}(hl:a.Ju.length≤8):Gv (loop (bL c (a,b)) (false,0)) λr=>(∃y∈a.Ju,ky y=(c.Jt,c.I_,c.Kj))→r=true:=by
 refine aJ (λ(r:Bool) i=>(r,i)) a.Ju.length (λk r=>(∃y∈a.Ju.take k,ky y=(c.Jt,c.I_,c.Kj))→r=true) (step:=bL c (a,b)) (by omega) (λk hk r hr=>?_) (λr hr=>?_) (s:=false) (by simp)
 ·unfold bL;dsimp only;rw[ay hk,cond_true];simp only[aA hk,IP];refine ab (P:=λq=>r=true∨ky a.Ju[k]=(c.Jt,c.I_,c.Kj)→q=true) ?_ λq hq=>ae (.inl ⟨q,rfl,λ⟨y,hy,e⟩=>hq ?_⟩)
  ·refine af (λ_=>ae λ_=>rfl) λh0=>af (λh1=>af (λh2=>ae ?_) λh2=>ae ?_) λh1=>ae ?_ <;> · rintro(e | e)<;>simp_all [ky]
  ·rw[U4 hk]at hy;rcases Mi.1 hy with hy | hy
   ·exact .inl (hr ⟨y,hy,e⟩)
   ·exact .inr (by rw[← IU.1 hy];exact e)
 ·refine aw (a:=.inr r) (by unfold bL;dsimp only;rw[az];rfl) ⟨_,rfl,?_⟩
  rwa [Um]at hr
section
variable{N M:Nat}{s:GN}{i:Int}{y:Input}{z:GN×Output}(h:J N s)(hz:J M z.1)(hw:y.Kind=3→W2 y.Id s z.1)(hs:y.Kind≠3→Sub s z.1)
include h hw
theorem Ga{c:Cont}(hc:c∈z.1.IW)(e:y.Kind=3):((s.IW.any λd=>d.Id == c.Id)=false↔mx s<c.Id)∧(mx s<c.Id→NC y.Id s c):=by
 have old:∀d∈s.IW,d.Id≤mx s:=λd hd=>(h.kk d hd).1.2
 refine⟨⟨λe2=>?_,λe2=>?_⟩,λe2=>((hw e).c c hc).resolve_left λhd=>by have:=old c hd;omega⟩
 ·exact(((hw e).c c hc).resolve_left λhd=>by simpa using QeO.1 e2 c hd).1
 ·exact QeO.2 λd hd e3=>by have:=old d hd;have:=eq_of_beq e3;omega
include hz hs
theorem anr:Gv (loop (bI (s,i) y z) 0) λr=>∃u,r = .inr u:=by
 have hk:=hz.k
 refine aT (λ(_:Unit) i=>i) z.1.IW.length (λ_=>True) (step:=bI (s,i) y z) (by omega) (λk hk _ _=>?_) (λ_ _=>aw (a:=.inr (.inr ())) (by unfold bI;dsimp only;rw[az];rfl) ⟨_,rfl,_,rfl⟩) (s:=()) trivial
 have hc:=K_ hk;unfold bI;dsimp only;rw[ay hk,cond_true,aH hk,IP,IR hk,IP]
 refine ab (P:=λr=>r = .inl ()) (ab (F9 h _) λx8 h8=>af (λ_=>ae rfl) λe8=>?_) λr hr=>by subst hr;exact ae (.inl ⟨(),rfl,trivial⟩)
 have e8:=h8.symm.trans e8
 have e:y.Kind=3:=Classical.byContradiction λe=>by
  obtain⟨d,hd,e2⟩:=hs e _ hc
  exact absurd e2 (by simpa using QeO.1 e8 d hd)
 obtain⟨on,nc⟩:=Ga h hw hc e;obtain⟨_,hn,a0,ha0,hid,hor⟩:=nc (on.1 e8);obtain⟨m,hm,rfl⟩:=QeS.1 ha0;rw[Ip h hm hid,IP];refine ab (anq (h.ak _ ha0).al) λq hq=>ab (P:=λq=>q=true) (af (λ_=>ae rfl) λe2=>?_) λq hq=>?_
 ·obtain⟨e3,e4⟩:=hor.resolve_left λh=>by rw[hq h]at e2;cases e2
  obtain⟨e5,e6⟩:=Prod.mk.inj e4;obtain⟨e6,e7⟩:=Prod.mk.inj e6;rw[e3,e5,e6,e7]
  exact ae (by simp)
 ·subst hq;rw[e,hn]
  exact aw (a:=.inl ()) (by simp) rfl
end
section
variable{N M:Nat}{s:GN}{i:Int}{y:Input}{z:GN×Output}(h:J N s)(hz:J M z.1)(hw:y.Kind=3→W2 y.Id s z.1)
include h hz hw
end
theorem H5(x:Script):T (eP x):=af (λ_=>ai _) λ_=>ai _
theorem DQ{n:Nat}:(bif decide (((min n 50:Nat):Int)<(n:Int))then some (decide (((min n 50:Nat):Int)<50))else some false)=some false:=by
 by_cases h:n≤50
 ·rw[Nat.min_eq_left h,az];rfl
 ·rw[Nat.min_eq_right (by omega),ay (by omega)]
  rfl
theorem yes{m:Option Bool}(h:Gv m λb=>b=true):m=some true:=by obtain⟨_,e,rfl⟩:=h;exact e
theorem D3:iR=some true:=by kernel_rfl
set_option linter.unusedVariables false
set_option linter.unusedSimpArgs false
theorem wq(a0:Script)(w0:Ul fam (.st 12) a0):dw a0=some true:=by
 refine yes ?_;unfold dw;rw[D3,IP]
 refine af (λe=>by cases e) λ_=>ab (H5 a0) λ_ _=>af (λ_=>ae rfl) λ_=>ab aiL λs0 h0=>ab (aJ (λ(s:GN) i=>(s,i)) (min a0.Vm.length 50) (λk s=>J (6200*k) s) (Q:=λr=>∃u,r = .inr u) (step:=cx a0) (by omega) (λk hk s h=>?_) (λs h=>aw (a:=.inr (.inr ())) (by unfold cx;dsimp only;rw[DQ];rfl) ⟨_,rfl,_,rfl⟩) h0) λr ⟨_,e⟩=>by subst e;exact ae rfl
 unfold cx;dsimp only
 rw[ay (by omega),cond_true,decide_eq_true (by omega),IP,cond_true,aA (by omega),IP]
 exact ab (EA h _) λy hy=>ab (H7 h h (by omega) hy) λz ⟨z1,z2,z3⟩=>ab (anr h z1 z2 z3) λr ⟨_,e⟩=>by subst e;exact ae (.inl ⟨_,rfl,z1.mono (by omega) (by omega)⟩)
end Go.Fx.D
