/-
  The manager: what holds of its state behind every step, second part;the law over plain data: true at all inputs. Conditions: none.
-/
import Derived.Test.YtppllkbjijfocaaGreatDoorL1
namespace Go.Fx.D
open Go Go.Fx
set_option linter.unusedVariables false
set_option linter.unusedSimpArgs false
theorem xf(a:Int){l:List Int}(hl:l.length≤100):dl a l=some (l.foldl Oj a):=by
 unfold dl
 rw[(C3 (λs i=>(s,i)) l Oj (λ_ _=>True) (λs=>s) (step:=gW l) (by omega) (λk hk s _=>⟨by unfold gW;dsimp only;rw[ay hk,cond_true,aA hk];rfl,trivial⟩) (λs _=>by unfold gW;dsimp only;rw[az];rfl) (s:=a) trivial).1]
 rfl
theorem nF(n:Int):T (fF n):=aG (af (λ_=>ai _) λ_=>ai _) λ_=>af (λ_=>ai _) λ_=>ai _
theorem C9(a:Int):Oj a a=a:=by unfold Oj;split<;>rfl
theorem FC(total:Int){a b c:List Int}{n:Nat}(hn:n≤16)(ha:a.length=n)(hb:b.length=n)(hc:c.length=n):Gv (l_ total a b c) λr=>r.length=n:=by
 have g:∀{l:List Int}{k:Nat},l.length=n→k<n→T (idx l (k:Int)):=λh hk=>t_eq (aA (h▸hk));have le:∀(x:Int)(l:List Int),l.length≤100→T (dl x l):=λx l h=>t_eq (xf x h);unfold l_
 rw[xf _ (by simp),ha,hb,hc]
 simp only[List.foldl_cons,List.foldl_nil,C9,IY]
 rw[j7 (by omega) (by omega),IY]
 refine ab (nF total) λleft _=>ab (aQ (λ(p:List Int×Int) i=>(p.1,p.2,i)) n (λp=>p.1.length=n) (step:=iD a b c n) (Q:=λr=>r.1.length=n) (by omega) (λk hk p hp=>?_) (λp hp=>?_) (s:=(_,left)) (by simp)) λq hq=>ab (aQ (λ(p:List Int×Int) i=>(p.1,p.2,i)) n (λp=>p.1.length=n) (step:=iG b c n) (Q:=λr=>r.length=n) (by omega) (λk hk p hp=>?_) (λp hp=>?_) (s:=(q.1,q.2)) hq) λr hr=>ae hr
 ·unfold iD;dsimp only;rw[ay hk,cond_true]
  refine ab (g ha hk) λ_ _=>ab (nF _) λx1 _=>ab (g hb hk) λ_ _=>ab (nF _) λx3 _=>ab (g hc hk) λ_ _=>ab (nF _) λx5 _=>ab (le _ _ (by simp)) λx6 _=>?_
  rw[aH (by omega),IY,IZ (by omega),IY,aH (by simp;omega),IY,IZ (by simp;omega),IY]
  exact ae (.inl ⟨(_,_),rfl,by simpa using hp⟩)
 ·exact aw (a:=.inr (p.1,p.2)) (by unfold iD;dsimp only;rw[az];rfl) ⟨_,rfl,hp⟩
 ·unfold iG;dsimp only;rw[ay hk,cond_true]
  refine ab (g hb hk) λ_ _=>ab (nF _) λx1 _=>ab (g hc hk) λ_ _=>ab (nF _) λx3 _=>ab (le _ _ (by simp)) λx6 _=>?_
  rw[aH (by omega),IY,IZ (by omega),IY]
  refine ab (le _ _ (by simp)) λx7 _=>?_
  simp only[IY,IZ (show k<p.1.length by omega)]
  exact ae (.inl ⟨(_,_),rfl,by simpa using hp⟩)
 ·exact aw (a:=.inr p.1) (by unfold iG;dsimp only;rw[az];rfl) ⟨_,rfl,hp⟩
theorem jT{l:List Int}{k n:Nat}(hk:k<l.length)(hn:0<n)(v:Int):(LP l k n [v]).length=l.length:=by
 have:([v].take n).length=1:=by simp;omega
 unfold LP;rw[I3,I3,this,Lj,Nh];simp;omega
section
variable{N:Nat}{s:Gp}(h:J N s)
include h
theorem xq(label:Int):∀(k n:Nat)(p:Str)(mem:Int),k≤4→p.length≤2000→Gv (eX (n+k+1) s p label mem (5 - k)) λl=>l.length≤16 ^ k∧∀x∈l,x.Kh.length≤2000
 | k,n,p,mem,hk,hp=>by
  show Gv (mT (eX (n+k)) s p label mem (5 - k)) _;unfold mT
  have h1:1≤16 ^ k:=Nat.pow_pos (by omega)
  refine ab (sI h.c p) λks hks=>ab (P:=λq=>q=false→1≤k) (af (λ_=>ae (by simp)) λ_=>ae λe=>by have:=of_decide_eq_false e;omega) λq hq=>af (λ_=>ae ⟨by simpa using h1,by simpa using hp⟩) λe=>?_
  have⟨k1,_,k3⟩:=xZ h.c hks
  obtain⟨k,rfl⟩:∃m,k=m+1:=⟨k - 1,by have:=hq e;omega⟩
  have hp3:16 ^ k≤16 ^ 3:=Qe_ (by omega) (by omega)
  rw[j7 (by omega) (by omega),IY,IY,IY]
  refine ab (aQ (λ(r:K6) i=>(r,i)) ks.length (λr=>r.r0.length=ks.length∧r.r1.length=ks.length∧r.r2.length=ks.length) (step:=gq s label ks) (Q:=λr=>r.r0.length=ks.length∧r.r1.length=ks.length∧r.r2.length=ks.length) (by omega) (λj hj r ⟨g0,g1,g2⟩=>?_) (λr hr=>?_) (s:=⟨_,_,_⟩) ⟨by simp,by simp,by simp⟩) λr ⟨g0,g1,g2⟩=>ab (FC mem k1 g0 g1 g2) λx5 h5=>ab (aJ (λ(l:List Ma) i=>(l,i)) ks.length (λj l=>l.length≤j*16 ^ k∧∀x∈l,x.Kh.length≤2000) (step:=gv s label (5 - ((k+1:Nat):Int)) (eX (n+(k+1))) ks x5) (Q:=λl=>l.length≤16 ^ (k+1)∧∀x∈l,x.Kh.length≤2000) (by omega) (λj hj l ⟨f1,f2⟩=>?_) (λl ⟨f1,f2⟩=>?_) ⟨by simp,by simp⟩) λl hl=>ae hl
  ·have hq:=(k3 _ (K_ hj)).1;unfold gq;dsimp only;rw[ay hj,cond_true,aH hj,IY,IZ hj,IY]
   refine ab (oh h hq label) λx1 _=>ab (jE h hq label) λx2 _=>ab (xr h hq label) λx3 _=>ab (AA h hq label) λx4 _=>ab (ir (by omega) (by omega) (by omega)) λp0 e0=>ab (aw (P:=λp=>p=(0,1)) rfl rfl) λp1 e1=>ab (ir (by omega) (by omega) (by omega)) λp2 e2=>ab (aw (P:=λp=>p=(1,1)) rfl rfl) λp3 e3=>ab (ir (by omega) (by omega) (by omega)) λp4 e4=>ab (aw (P:=λp=>p=(2,1)) rfl rfl) λp5 e5=>?_
   subst e0 e1 e2 e3 e4 e5
   exact ae (.inl ⟨_,rfl,(jT (by simp;omega) (by simp;omega) _).trans g0,(jT (by simp;omega) (by simp;omega) _).trans g1,(jT (by simp;omega) (by simp;omega) _).trans g2⟩)
  ·exact aw (a:=.inr r) (by unfold gq;dsimp only;rw[az];rfl) ⟨r,rfl,hr⟩
  ·have hj2:j*16 ^ k≤16*16 ^ 3:=WW (by omega) hp3
   unfold gv;dsimp only
   rw[h5,ay hj,cond_true,aH hj,IY,IZ (by omega),IY,IY,IZ hj,IY,aF (by omega) (by omega),show(5 - ((k+1:Nat):Int))+1=5 - (k:Int)by omega]
   refine ab (xq label k n ks[j] _ (by omega) (k3 _ (K_ hj)).1) λm ⟨m1,m2⟩=>?_
   rw[bi (by simp;omega) (by omega)]
   exact ae (.inl ⟨_,rfl,by rw[I3,Nat.add_one_mul];omega,λx hx=>(Mr.1 hx).elim (f2 x) (m2 x)⟩)
  ·refine aw (a:=.inr l) (by unfold gv;dsimp only;rw[h5,az];rfl) ⟨l,rfl,?_,f2⟩
   have:=M5 (16 ^ k) k1;rw[Nat.pow_succ,Nat.mul_comm];omega
theorem qF(label:Int):Gv (ig s label) λl=>l.length≤65536∧∀x∈l,x.Kh.length≤2000:=ab (nX h label) λx _=>ab (xq h label 4 59 _ x.Mem (by omega) (by decide)) λl hl=>ae hl
end
end Go.Fx.D
namespace Go.Fx
open Go
set_option linter.unusedVariables false
set_option linter.unusedSimpArgs false
section
variable{α κ : Type}[DecidableEq κ][BEq κ][LawfulBEq κ]{key:α→κ}
theorem wO{q q':κ}:∀{l:List α}{y z:α},key y=q'→Lx (λx=>q == key x) (Lu (λx=>q' == key x) l y) z=if q=q' then y else Lx (λx=>q == key x) l z
 | [],y,z,hy=>by
  unfold Lx Lu;subst hy;by_cases h:q=key y
  ·rw[if_pos h];simp[h]
  ·rw[if_neg h]
   have:(q == key y)=false:=by rw[beq_eq_false_iff_ne];exact h
   simp[List.find?,this]
 | x::l,y,z,hy=>by
  have ih:=wO (q:=q) (l:=l) (y:=y) (z:=z) hy;subst hy;unfold Lu
  cases hx:key y == key x with
  | true=>
   rw[cond_true]
   have hxy:key y=key x:=by simpa using hx
   unfold Lx;by_cases h:q=key y
   ·rw[if_pos h];simp[h]
   ·rw[if_neg h]
    have h1:(q == key y)=false:=by rw[beq_eq_false_iff_ne];exact h
    have h2:(q == key x)=false:=by rw[beq_eq_false_iff_ne,← hxy];exact h
    simp[List.find?,h1,h2]
  | false=>
   rw[cond_false];unfold Lx at ih ⊢
   cases hq:q == key x with
   | true=>
    have hqx:q=key x:=by simpa using hq
    have hne:q≠key y:=λe=>by rw[beq_eq_false_iff_ne]at hx;exact hx (e▸hqx)
    rw[if_neg hne];simp[List.find?,hq]
   | false=>simp only[List.find?,hq];exact ih
end
section
variable{α κ : Type}[BEq κ][LawfulBEq κ]{key:α→κ}
end
section
variable{α : Type}
theorem ug{p:α→Bool}:∀{l:List α}{y x:α},x∈Lu p l y→x=y∨x∈l
 | [],y,x,h=>by simpa[Lu]using h
 | a::l,y,x,h=>by
  unfold Lu at h
  cases hp:p a with
  | true=>
   rw[hp,cond_true]at h;rcases Lr.1 h with h | h
   ·exact .inl h
   ·exact .inr (PG _ h)
  | false=>
   rw[hp,cond_false]at h;rcases Lr.1 h with h | h
   ·exact .inr (by simp[h])
   ·rcases ug h with h | h
    ·exact .inl h
    ·exact .inr (PG _ h)
theorem zJ{p:α→Bool}{l:List α}(h:Oi p l=true)(z:α):Lx p l z∈l∧p (Lx p l z)=true:=by
 unfold Oi at h;rw[List.any_eq_true]at h;obtain⟨x,hx,hp⟩:=h;unfold Lx
 cases hf:l.find? p with
 | none=>exact absurd hp (by simpa using QdT.1 hf x hx)
 | some y=>exact⟨QdI hf,QeN hf⟩
end
theorem qy:∀{l1 l2:List Nat},l1.Nodup→(∀x∈l1,x∈l2)→l1.length≤l2.length
 | [],_,_,_=>U8 _
 | a::l,l2,hn,hs=>by
  have hn':=PI.1 hn
  have h:=qy (l2:=l2.erase a) hn'.2 (λx hx=>by
   have hxa:x≠a:=λe=>hn'.1 (e▸hx)
   exact(List.mem_erase_of_ne hxa).2 (hs x (by simp[hx])))
  have ha:=hs a (by simp)
  rw[List.length_erase_of_mem ha]at h;have:=List.length_pos_of_mem ha;simp only[P8];omega
theorem ED{n m:Nat}{seen:List Nat}(hn:seen.Nodup)(hl:∀x∈seen,x<n)(h:m+1+seen.length=n):∃k,k<n∧k∉seen:=by
 refine Classical.byContradiction λhc=>?_
 have hall:∀k∈List.range n,k∈seen:=by intro k hk;refine Classical.byContradiction λhk'=>hc ⟨k,WV.1 hk,hk'⟩
 have:=qy QfH hall;simp at this;omega
theorem yy{τ α ω : Type}(ob:ω){step:ω→τ→α→Option τ}{l:List α}:∀{m:Nat}{seen:List Nat}{t r r':τ},seen.Nodup→(∀x∈seen,x<l.length)→m+seen.length=l.length→NY step l m seen t r→NY step l m seen t r'→r'=r
 | 0,seen,t,r,r',_,_,_,h,h'=>by have h1:t=r:=h;have h2:t=r':=h';rw[← h1,← h2]
 | m+1,seen,t,r,r',hn,hl,hc,h,h'=>by
  obtain⟨k,hk,hks⟩:=ED hn hl hc;obtain⟨t1,a1,b1⟩:=h k l[k] hks (IZ hk);obtain⟨t2,a2,b2⟩:=h' k l[k] hks (IZ hk)
  have:t1=t2:=by have:=a1 ob;rw[a2 ob]at this;exact(Option.some.inj this).symm
  subst this;refine yy ob ?_ ?_ ?_ b1 b2
  ·rw[WI]
   exact⟨hn,by simp,λx hx y hy=>by rw[I4]at hy;subst hy;exactλe=>hks (e▸hx)⟩
  ·intro x hx;rcases Mr.1 hx with hx | hx
   ·exact hl x hx
   ·rw[I4]at hx;subst hx;exact hk
  ·simp;omega
theorem Fq{τ α ω : Type}(ob:ω){t0:ω→Option τ}{step:ω→τ→α→Option τ}{l:List α}(I:List Nat→τ→Prop){t r:τ}(h0:∀ob,t0 ob=some t)(hI:I [] t)
  (hstep:∀seen t k (hk:k<l.length),I seen t→k∉seen→∃t',(∀ob,step ob t l[k]=some t')∧I (seen++[k]) t') (hend:∀seen t,I seen t→(∀k,k<l.length→k∈seen)→t=r):rng t0 step l=some r:=by
 have key:∀(m:Nat)(seen:List Nat)(t:τ),seen.Nodup→(∀x∈seen,x<l.length)→m+seen.length=l.length→I seen t→NY step l m seen t r:=by
  intro m
  induction m with
  | zero=>
   intro seen t hn hl hc hi;refine hend seen t hi λk hk=>?_;refine Classical.byContradiction λhks=>?_;have h1:(k::seen).Nodup:=PI.2 ⟨hks,hn⟩
   have h2:=qy (l2:=List.range l.length) h1 (λx hx=>by
    rw[WV];rcases Lr.1 hx with rfl | hx
    ·exact hk
    ·exact hl x hx)
   simp at h2;omega
  | succ m ih=>
   intro seen t hn hl hc hi k x hks hx;have hk:k<l.length:=(I0.1 hx).1;have hxe:l[k]=x:=(I0.1 hx).2;obtain⟨t',a,b⟩:=hstep seen t k hk hi hks;rw[hxe]at a;refine⟨t',a,ih _ _ ?_ ?_ ?_ b⟩
   ·rw[WI]
    exact⟨hn,by simp,λa ha b hb=>by rw[I4]at hb;subst hb;exactλe=>hks (e▸ha)⟩
   ·intro x hx;rcases Mr.1 hx with hx | hx
    ·exact hl x hx
    ·rw[I4]at hx;subst hx;exact hk
   ·simp;omega
 have h:=key l.length [] t Zz (by simp) (by simp) hI
 have hx:∃r t,(∀ob,t0 ob=some t)∧NY step l l.length [] t r:=⟨r,t,h0,h⟩;unfold rng;rw[dif_pos hx];obtain⟨t',h1,h2⟩:=hx.choose_spec
 have:t'=t:=by have:=h1 ob;rw[h0 ob]at this;exact(Option.some.inj this).symm
 subst this
 rw[yy ob Zz (by simp) (by simp) h h2]
end Go.Fx
namespace Go.Fx.D
open Go Go.Fx
set_option linter.unusedVariables false
set_option linter.unusedSimpArgs false
def oval(k:J7)(p:Str):Int:=(Lx (λx:Jf=>p == x.k) k.over ⟨p,0⟩).v
def nval(k:J7)(i:Int):Int:=(Lx (λx:Ko=>i == x.k) k.Lp ⟨i,0⟩).v
def Tj(k:J7)(i:Int):Bool:=Oi (λx:KA=>i == x.k) k.leaf
def lval(k:J7)(i:Int):Str:=(Lx (λx:KA=>i == x.k) k.leaf ⟨i,[]⟩).v
theorem DC(k:J7)(c:Cont):cf k c=some ⟨k.s,k.label,Lu (λx:Jf=>lval k c.Id == x.k) k.over ⟨lval k c.Id,Jd (oval k (lval k c.Id) - c.Ku.Mem)⟩,k.leaf,Lu (λx:Ko=>c.Id == x.k) k.Lp ⟨c.Id,Jd (nval k c.Id+1)⟩,Jd (k.gone+c.Ku.Mem)⟩:=rfl
def U6(k:J7)(a b:Str):Prop:=oval k b<oval k a∨(oval k b=oval k a∧Op.bytesLess a b=true)
theorem C_{k:J7}{a b c:Str}(h:U6 k a b)(h':U6 k b c):U6 k a c:=by
 rcases h with h | ⟨h,l⟩<;>rcases h' with h' | ⟨h',l'⟩
 ·exact .inl (by omega)
 ·exact .inl (by omega)
 ·exact .inl (by omega)
 ·exact .inr ⟨by omega,qs l l'⟩
theorem Iq{k:J7}{a b:Str}(h:¬ U6 k a b)(h':¬ U6 k b a):a=b:=by
 unfold U6 at h h';refine Classical.byContradiction λhne=>?_;rw[not_or]at h h'
 have he:oval k a=oval k b:=by omega
 have h1:Op.bytesLess a b≠true:=λe=>h.2 ⟨he.symm,e⟩;have h2:Op.bytesLess b a≠true:=λe=>h'.2 ⟨he,e⟩
 exact h2 (uL (by simpa using h1) hne)
theorem yf(k:J7)(ob:Obj)(t:Str)(e:Jt)(ht:t≠[]):∃b:Bool,(b=true↔U6 k e.k t)∧bg k ob t e=some (bif b then e.k else t):=by
 have h0:(t == ([]:List UInt8))=false:=by rw[beq_eq_false_iff_ne];exact ht
 refine⟨decide ((if(if oval k t<oval k e.k then(-1:Int)else if oval k e.k<oval k t then 1 else 0)≠0 then(if oval k t<oval k e.k then(-1:Int)else if oval k e.k<oval k t then 1 else 0)else(if Op.bytesLess e.k t=true then(-1:Int)else if e.k=t then 0 else 1))<0),?_,?_⟩
 ·rw[decide_eq_true_eq];unfold U6;by_cases h1:oval k t<oval k e.k
  ·simp[h1]
  ·by_cases h2:oval k e.k<oval k t
   ·simp[h1,h2];omega
   ·have he:oval k t=oval k e.k:=by omega
    simp only[h1,h2,if_false,ne_eq,not_true_eq_false,he,false_or,true_and]
    cases hb:Op.bytesLess e.k t with
    | true=>simp
    | false=>
     simp only[Ni,if_false,iff_false]
     by_cases hq:e.k=t<;>simp[hq]
 ·unfold bg;rw[h0,cond_false];dsimp only;have e1:(Lx (λx6:Jf=>t == x6.k) k.over (⟨t,0⟩:Jf)).v=oval k t:=rfl;have e2:(Lx (λx7:Jf=>e.k == x7.k) k.over (⟨e.k,0⟩:Jf)).v=oval k e.k:=rfl;rw[e1,e2,uw,IY,uj,IY,BT,IY,IY];generalize decide (_<(0:Int))=q
  cases q<;>rfl
theorem Dp(k:J7)(ob:Obj)(e:Jt):bg k ob [] e=some e.k:=rfl
def Bst(k:J7)(b:List Jt)(seen:List Nat)(t:Str):Prop:=
 (seen = []∧t = [])∨(t≠[]∧(∃j,j∈seen∧∃hj:j<b.length,b[j].k=t)∧∀j,j∈seen→∀hj:j<b.length,¬ U6 k b[j].k t)
theorem yK{k:J7}{b:List Jt}(hb:∀e∈b,e.k≠[])(seen:List Nat)(t:Str)(j:Nat)(hj:j<b.length)(h:Bst k b seen t):∃t',(∀ob,bg k ob t b[j]=some t')∧Bst k b (seen++[j]) t':=by
 have XA:∀p,¬ U6 k p p:=by
  intro p hp;rcases hp with hp | ⟨_,hp⟩
  ·omega
  ·rw[ph]at hp;cases hp
 rcases h with⟨rfl,rfl⟩ | ⟨h1,h2,h3⟩
 ·refine⟨b[j].k,λob=>Dp k ob _,.inr ⟨hb _ (K_ hj),⟨j,by simp,hj,rfl⟩,?_⟩⟩
  intro i hi hi';simp only[O7,I4]at hi;subst hi;exact XA _
 ·obtain⟨q,hq,_⟩:=yf k (.deferred none) t b[j] h1
  have hstep:∀ob,bg k ob t b[j]=some (bif q then b[j].k else t):=by
   intro ob;obtain⟨q',hq',e⟩:=yf k ob t b[j] h1
   have:q'=q:=by
    cases q<;>cases q'<;>simp_all
   rw[e,this]
  refine⟨_,hstep,?_⟩
  cases hqq:q with
  | true=>
   have aoi:=hq.1 hqq
   refine .inr ⟨hb _ (K_ hj),⟨j,by simp,hj,rfl⟩,?_⟩
   intro i hi hi' hbi;rcases Mr.1 hi with hi | hi
   ·exact h3 i hi hi' (C_ hbi aoi)
   ·rw[I4]at hi;subst hi;exact XA _ hbi
  | false=>
   have hnb:¬ U6 k b[j].k t:=λhx=>by rw[hq.2 hx]at hqq;cases hqq
   obtain⟨i,hi,hi',e⟩:=h2
   refine .inr ⟨h1,⟨i,by simp[hi],hi',e⟩,?_⟩
   intro i hi hi';rcases Mr.1 hi with hi | hi
   ·exact h3 i hi hi'
   ·rw[I4]at hi;subst hi;exact hnb
theorem Er{k:J7}{b:List Jt}(hb:∀e∈b,e.k≠[]):Gv (rng (ω:=Obj) (λ_=>some ([]:List UInt8)) (bg k) b) λr=>Bst k b (List.range b.length) r:=by
 have pre:∀n,n≤b.length→∃t,Bst k b (List.range n) t:=by
  intro n
  induction n with
  | zero=>intro _;exact⟨[],.inl ⟨rfl,rfl⟩⟩
  | succ n ih=>
   intro hn
   obtain⟨t,ht⟩:=ih (by omega)
   obtain⟨t',_,ht'⟩:=yK hb _ t n (by omega) ht
   exact⟨t',by rw[List.range_succ];exact ht'⟩
 obtain⟨r,hr⟩:=pre b.length (KC _);refine⟨r,Fq (.deferred none) (Bst k b) (t:=[]) (λ_=>rfl) (.inl ⟨rfl,rfl⟩) (λseen t j hj hi _=>yK hb seen t j hj hi) ?_,hr⟩;intro seen t hi hall;rcases hi with⟨rfl,rfl⟩ | ⟨h1,⟨j,hj,hj',rfl⟩,h3⟩
 ·have:b.length=0:=by
   refine Classical.byContradiction λhne=>?_
   have:=hall 0 (by omega)
   simp at this
  rcases hr with⟨_,hr⟩ | ⟨_,⟨j,_,hj,_⟩,_⟩
  ·exact hr.symm
  ·omega
 ·rcases hr with⟨hr,_⟩ | ⟨_,⟨i,hi,hi',rfl⟩,k3⟩
  ·have:=congrArg List.length hr;rw[List.length_range,QeK]at this;omega
  ·exact Iq (k3 j (WV.2 hj') hj') (h3 i (hall i hi') hi')
def BOK(k:J7)(b:List Jt):Prop:=∀e∈b,e.v∈k.s.I6∧Tj k e.v.Id=true∧lval k e.v.Id=e.k∧nval k e.v.Id≤0∧0<oval k e.k
theorem G6{k:J7}(hc:k.s.I6.length≤200)(hne:∀i,Tj k i=true→lval k i≠[]) :
  Gv (eH k) λr=>r.2.2=k∧(r.2.1=true→r.1∈k.s.I6∧Tj k r.1.Id=true∧nval k r.1.Id≤0∧0<oval k (lval k r.1.Id)):=by
 unfold eH
 refine ab (aJ (Q:=BOK k) (λ(b:List Jt) i=>(b,i)) k.s.I6.length (λ_ b=>BOK k b) (step:=cZ k) (by omega) ?_ ?_ (s:=[]) (λe he=>by cases he)) ?_
 ·intro i hi b hb;unfold cZ;dsimp only;rw[ay hi,cond_true,aA hi,IY];refine ab (P:=BOK k) ?_ (λb' hb'=>ae (.inl ⟨b',rfl,hb'⟩));have hm:k.s.I6[i]∈k.s.I6:=K_ hi;generalize k.s.I6[i]=c at hm
  show Gv ((bif !(Tj k c.Id)then some true else bif decide (nval k c.Id>0)then some true else some (decide (oval k (lval k c.Id)≤0))).bind λq=>bif q then some b else _) (BOK k)
  have aja:(bif !(Tj k c.Id)then some true else bif decide (nval k c.Id>0)then some true else some (decide (oval k (lval k c.Id)≤0)))=some (!(Tj k c.Id)||(decide (nval k c.Id>0)||decide (oval k (lval k c.Id)≤0))):=by
   cases Tj k c.Id<;>cases decide (nval k c.Id>0)<;>rfl
  rw[aja,IY];refine af (λ_=>ae hb) (λhq=>?_);simp only[UU,Bool.not_eq_false',decide_eq_false_iff_not]at hq;obtain⟨q1,q2,q3⟩:=hq;refine aG ?_ (λq=>?_)
  ·repeat (first | exact ae trivial | (refine af (λ_=>?_) (λ_=>?_)))
  ·refine af (λ_=>ae ?_) (λ_=>ae hb);intro e he;rcases ug he with rfl | he
   ·have z1:nval k c.Id≤0:=by omega
    have z2:0<oval k (lval k c.Id):=by omega
    exact⟨hm,q1,rfl,z1,z2⟩
   ·exact hb e he
 ·intro b hb;unfold cZ;dsimp only;rw[az,cond_false];exact ae ⟨b,rfl,hb⟩
 ·intro b hb;refine ab (Er (λe he=>?_)) ?_
  ·obtain⟨_,h2,h3,_⟩:=hb e he;rw[← h3];exact hne _ h2
  ·intro f _;refine ae ⟨rfl,λhis=>?_⟩;obtain⟨h1,h2⟩:=zJ (α:=Jt) (p:=λNg=>f == Ng.k) his (⟨f,⟨0,0,0,⟨0,0⟩,0,0,false,0⟩⟩:Jt);obtain⟨k1,k2,k3,k4,k5⟩:=hb _ h1
   exact⟨k1,k2,k4,by rw[k3];exact k5⟩
structure LK(s:Gp)(label M:Int)(k:J7):Prop where
 s:k.s=s
 l:k.label=label
 f:∀e∈k.leaf,e.v≠[]
 v:∀i,0≤nval k i∧nval k i≤M
theorem LK.notice{s:Gp}{label M:Int}{k:J7}(h:LK s label M k)(hM:M≤1000)(c:Cont):Gv (cf k c) λr=>LK s label (M+1) r∧∀i,nval r i=if i=c.Id then nval k c.Id+1 else nval k i:=by
 have hv:=h.v c.Id;rw[DC]
 have e:∀i,nval (⟨k.s,k.label,Lu (λx:Jf=>lval k c.Id == x.k) k.over ⟨lval k c.Id,Jd (oval k (lval k c.Id) - c.Ku.Mem)⟩,k.leaf,Lu (λx:Ko=>c.Id == x.k) k.Lp ⟨c.Id,Jd (nval k c.Id+1)⟩,Jd (k.gone+c.Ku.Mem)⟩:J7) i=if i=c.Id then nval k c.Id+1 else nval k i:=λi=>by
  refine(congrArg Ko.v (wO (key:=λx:Ko=>x.k) (q:=i) (q':=c.Id) (l:=k.Lp) (y:=⟨c.Id,Jd (nval k c.Id+1)⟩) (z:=⟨i,0⟩) rfl)).trans ?_;split
  ·exact aF (x:=nval k c.Id+1) (by omega) (by omega)
  ·rfl
 refine ae ⟨⟨h.s,h.l,h.f,λi=>?_⟩,e⟩;rw[e i];have:=h.v i
 split<;>omega
theorem xn{α : Type}{p q:α→Bool}:∀{l:List α},(∀x∈l,q x=true→p x=true)→(∃x∈l,p x=true∧q x=false)→(l.filter q).length<(l.filter p).length
 | [],_,h=>by simp at h
 | x::l,h1,h2=>by
  have h3:(l.filter q).length≤(l.filter p).length:=by rw[← List.countP_eq_length_filter,← List.countP_eq_length_filter];exact List.countP_mono_left λy hy e=>h1 y (PG _ hy) e
  have ih:=λh=>xn (l:=l) (λy hy=>h1 y (PG _ hy)) h;have hx:=h1 x WY;obtain⟨y,hy,e1,e2⟩:=h2;rcases Lr.1 hy with rfl | hy
  ·simp[WH,e1,e2];omega
  ·have:=ih ⟨y,hy,e1,e2⟩
   cases e3:q x<;>cases e4:p x<;>simp_all [WH]<;>omega
section
variable{N:Nat}{s:Gp}(h:J N s)(label:Int)
include h
theorem Gl:Gv (jZ s label) (LK s label 200):=by
 have hk:=h.k;unfold jZ
 refine ab (qF h label) λls ⟨l1,l2⟩=>ab (aQ (λ(k:J7) i=>(k,i)) ls.length (λk=>k.s=s∧k.label=label∧k.leaf = []∧k.Lp = []) (step:=g9 s label ls) (Q:=LK s label 0) (by omega) (λj hj k ⟨k1,k2,k3,k4⟩=>?_) (λk ⟨k1,k2,k3,k4⟩=>?_) ⟨rfl,rfl,rfl,rfl⟩) λk hk0=>ab (aJ (λ(k:J7) i=>(k,i)) s.I6.length (λj k=>LK s label j k) (step:=gZ s label) (Q:=LK s label 200) (by omega) (λj hj k hk=>?_) (λk hk=>?_) (s:=k) hk0) λk hk=>ae hk
 ·unfold g9;dsimp only;rw[ay hj,cond_true,aH hj,IY,IZ hj,IY];exact ab (jE h (l2 _ (K_ hj)) label) λ_ _=>ae (.inl ⟨_,rfl,k1,k2,k3,k4⟩)
 ·refine aw (a:=.inr k) (by unfold g9;dsimp only;rw[az];rfl) ⟨k,rfl,k1,k2,by rw[k3];simp,λi=>?_⟩
  unfold nval;rw[k4];simp[Lx]
 ·unfold gZ;dsimp only;rw[ay hj,cond_true,aA hj,IY]
  have up:∀k,LK s label j k→LK s label ((j+1:Nat):Int) k:=λk h=>⟨h.s,h.l,h.f,λi=>by have:=h.v i;omega⟩
  refine ab (P:=LK s label ((j+1:Nat):Int)) (af (λ_=>ae (up _ hk)) λ_=>?_) λk hk=>ae (.inl ⟨k,rfl,hk⟩);obtain⟨_,a,ha,e,_⟩:=h.kk _ (K_ hj);refine ab (P:=λr=>r.1.Ja≠[]) ?_ λr hr=>?_
  ·rw[Ax h]
   cases e2:fnd s s.I6[j].App with
   | none=>have:=QdT.1 e2 a ha;simp[e]at this
   | some b=>exact ae (h.ak b (QdI e2)).q.1
  ·have h2:LK s label j ⟨k.s,k.label,k.over,Lu (λx6=>s.I6[j].Id == x6.k) k.leaf (⟨s.I6[j].Id,r.1.Ja⟩:KA),k.Lp,k.gone⟩:=⟨hk.s,hk.l,λe he=>(ug he).elim (λe=>by rw[e];exact hr) (hk.f e),hk.v⟩
   exact af (λ_=>ab (h2.notice (by omega) _) λr hr=>ae hr.1) λ_=>ae (up _ h2)
 ·exact aw (a:=.inr k) (by unfold gZ;dsimp only;rw[az];rfl) ⟨k,rfl,hk.s,hk.l,hk.f,λi=>by have:=hk.v i;omega⟩
theorem Ec{k:J7}(hk:k.s=s){p:Str}(hp:p.length≤2000):Gv (dU k p) λr=>r.2=k:=by
 have ha:=h.a;unfold dU;rw[hk]
 refine ab (jE h hp _) λx _=>ab (oh h hp _) λx1 _=>ab (P:=λ_=>True) (aQ (σ:=Unit) (λ_ i=>i) s.I9.length (λ_=>True) (by omega) (λj hj _ _=>?_) (λ_ _=>?_) (s:=()) trivial) ?_
 ·have hal:=(h.ak _ (K_ hj)).al;unfold eS;rw[hk,ay hj,cond_true,aA hj,IY,iI,IY]
  refine ab (P:=λ_=>True) (aG (af (λ_=>ai _) λ_=>ai _) λ_=>af (λ_=>ai _) λ_=>ab (P:=λ_=>True) (aQ (σ:=Unit) (λ_ i=>i) s.I9[j].Jy.length (λ_=>True) (by omega) (λi hi _ _=>?_) (λ_ _=>?_) (s:=()) trivial) ?_) ?_
  ·unfold eT;rw[ay hi,cond_true,aA hi,IY,hk];exact aG (af (λ_=>ai _) λ_=>ai _) λ_=>af (λ_=>ab (xr h hp _) λ_ _=>ae (.inr ⟨_,rfl,trivial⟩)) λ_=>ae (.inl ⟨(),rfl,trivial⟩)
  ·exact aw (a:=.inr (.inr ())) (by unfold eT;rw[az];rfl) ⟨_,rfl,trivial⟩
  ·rintro(q | q) _<;>exact ai _
  ·rintro(q | q) _
   ·exact ae (.inl ⟨(),rfl,trivial⟩)
   ·exact ae (.inr ⟨_,rfl,trivial⟩)
 ·exact aw (a:=.inr (.inr ())) (by unfold eS;rw[hk,az];rfl) ⟨_,rfl,trivial⟩
 ·rintro(q | q) _<;>exact ae rfl
theorem Gi{k:J7}(hk:k.s=s):Gv (eM k) λr=>r.2=k:=by
 unfold eM;rw[hk]
 refine ab (qF h _) λls ⟨l1,l2⟩=>ab (aQ (λ(p:J7×Int) i=>(p.1,p.2,i)) ls.length (λp=>p.1=k) (step:=cX ls) (Q:=λr=>r.1=k) (by omega) (λj hj p hp=>?_) (λp hp=>?_) (s:=(k,0)) rfl) ?_
 ·unfold cX;dsimp only;rw[ay hj,cond_true,aH hj,IY,IZ hj,IY,hp];exact ab (Ec h hk (l2 _ (K_ hj))) λr hr=>ae (.inl ⟨(_,_),rfl,hr⟩)
 ·exact aw (a:=.inr (p.1,p.2)) (by unfold cX;dsimp only;rw[az];rfl) ⟨_,rfl,hp⟩
 ·rintro⟨k,m⟩ rfl;rw[hk]
  exact ab (nX h _) λ_ _=>ab (jE h (by decide) _) λ_ _=>ae rfl
theorem HX:Gv (kN s label) λl=>l.length≤200∧∀i∈l,∃c∈s.I6,c.Id=i:=by
 have hcl:=h.k;unfold kN;refine ab (Gl h label) λk hk=>ab (Gi h hk.s) ?_;rintro⟨need,k⟩ rfl
 refine ab (gP (λt:J7×List Int=>LK s label 200 t.1∧t.2.length+(s.I6.filter λc=>decide (nval t.1 c.Id≤0)).length≤200∧∀i∈t.2,∃c∈s.I6,c.Id=i) (λt=>(s.I6.filter λc=>decide (nval t.1 c.Id≤0)).length) (Q:=λl=>l.length≤200∧∀i∈l,∃c∈s.I6,c.Id=i) ?_ ⟨hk,?_,by simp⟩) λl hl=>ae hl
 ·rintro⟨k,l⟩ ⟨hk,hl,hi⟩;dsimp only at hk hl hi;unfold pv
  refine af (λ_=>ab (G6 (by rw[hk.s];omega) (λi hi=>?_)) ?_) λ_=>ae (.inr ⟨_,rfl,by dsimp only;omega,hi⟩)
  ·exact hk.f _ (zJ hi _).1
  ·rintro⟨c,is,k2⟩ ⟨e,hc⟩;dsimp only at e hc;subst e
   refine af (λ_=>ae (.inr ⟨_,rfl,by dsimp only;omega,hi⟩)) λe=>?_
   obtain⟨c1,_,c2,_⟩:=hc (by simpa using e)
   rw[hk.s]at c1;have hv:=hk.v c.Id
   refine ab (hk.notice (by omega) c) λk3 ⟨n1,n2⟩=>?_
   dsimp only
   rw[bi (by simp;omega) (by omega),IY]
   have hlt:(s.I6.filter λd=>decide (nval k3 d.Id≤0)).length<(s.I6.filter λd=>decide (nval k2 d.Id≤0)).length:=xn (λd hd=>by
    rw[n2];split
    ·simp;omega
    ·exact id) ⟨c,c1,by simpa using c2,by rw[n2,if_pos rfl];simp;omega⟩
   refine ae (.inl ⟨_,rfl,⟨⟨n1.s,n1.l,n1.f,λi=>?_⟩,by simp;omega,λi hi2=>?_⟩,hlt⟩)
   ·have:=n1.v i;have:=hk.v i;rw[n2]at *
    split at * <;> omega
   ·exact(Mr.1 hi2).elim (hi i) λe=>⟨c,c1,(I4.1 e).symm⟩
 ·have:=Uv (λc:Cont=>decide (nval k c.Id≤0)) s.I6;simp only[QeK];omega
theorem GF(c:Cont):T (jn s c):=by
 have hk:=h.k;unfold jn
 refine ab (qd h _) λr ⟨⟨_,hq⟩,_⟩=>ab (jE h hq _) λx1 _=>ab (nG (n:=s.I6.length) (I:=λ_=>True) (by omega) (λ_ _=>rfl) (λj hj v _=>?_) trivial) λu _=>ab (qF h _) λls ⟨l1,_⟩=>?_
 ·dsimp only;rw[aA hj,IY];exact aG (af (λ_=>af (λ_=>af (λ_=>ai _) λ_=>ai _) λ_=>ai _) λ_=>ai _) λ_=>af (λ_=>ai _) λ_=>ai _
 ·have e:n8 ls (λa'=>gX a'.1 r.1)=some (fx (λx:Ma=>x.Kh == r.1.Ja) ls):=Uq (by omega) λt=>by simp[pz,gX]
  rw[e,IY];refine af (λh0=>?_) λ_=>ai _;obtain⟨k,hk,e,_⟩:=be (of_decide_eq_true h0);rw[e,aH hk,IY,IZ hk];exact ai _
end
set_option linter.unusedVariables false
set_option linter.unusedSimpArgs false
def NS(s t:Gp):Prop:=∃(i:Nat)(hi:i<s.I6.length)(v:Int),t = { s with I6:=s.I6.set i { s.I6[i]with Mf:=v } }
section
variable{N:Nat}{s:Gp}(h:J N s)
include h
theorem NS.j{t:Gp}(g:NS s t):J N t:=by
 obtain⟨i,hi,v,rfl⟩:=g
 exact⟨h.c,h.n,h.a,h.ad,h.ak,by simpa using h.k,λc hc=>(SX hc).elim (h.kk c) λe=>by subst e;exact h.kk s.I6[i] (K_ hi),h.l,h.p,h.e,h.b,h.nk⟩
end
section
variable{I:Gp→Prop}(hL:∀{M:Nat}{s t:Gp},J M s→I s→LS s t→I t)(hV:∀{M:Nat}{s t:Gp},J M s→I s→NS s t→I t)
include hL hV
theorem G1{N:Nat}(hN:N<990000){s:Gp}(h:J N s)(hi:I s)(label:Int):Gv (kq s label) λt=>J (N+200) t∧I t:=by
 have hk:=h.k
 have key:∀l:List Cont,l.length≤200→Gv (WL (kx label) l s) λt=>J (N+l.length) t∧I t:=by
  intro l
  induction l with
  | nil=>exactλ_=>ae ⟨h,hi⟩
  | cons c l ih=>
   intro hl;have hl:l.length+1≤200:=hl
   refine ab (ih (by omega)) λt ⟨h,hi⟩=>?_
   have hk:=h.k
   have up:J (N+(c::l).length) t∧I t:=⟨h.mono (by simp) (by simp;omega),hi⟩
   unfold kx
   rw[cIx t.I6 (by omega) (λx=>x.Id == c.Id) λx=>rfl,IY]
   refine ab (P:=λq=>q=false→0≤fx (λx:Cont=>x.Id == c.Id) t.I6) (af (λ_=>ae (by simp)) λh0=>?_) λq hq=>af (λ_=>ae up) λe=>ab (GF h c) λ_ _=>af (λ_=>ab (ta h I hL hi (ids:=[c.Id]) (by simp;omega)) λt ht=>ae ht) λ_=>?_
   ·have h0:=Int.not_lt.1 (of_decide_eq_false h0);obtain⟨k,hk,e,_⟩:=be h0;rw[e,aH hk,IY,IZ hk,IY]
    exact ab (P:=λ_=>True) (af (λ_=>af (λ_=>ai _) λ_=>ai _) λ_=>ai _) λ_ _=>ae λ_=>by omega
   ·obtain⟨k,hk,e,_⟩:=be (hq e);rw[e,aH hk,IY,IZ hk,IY]
    have g:NS t { t with I6:=t.I6.set k { t.I6[k]with Mf:=0 } }:=⟨k,hk,0,rfl⟩
    exact ae ⟨g.j up.1,hV h hi g⟩
 unfold kq ef
 rw[bh (by omega) (by omega),IY]
 exact ab (key _ hk) λt ⟨h1,h2⟩=>ae ⟨h1.mono (by omega) (by omega),h2⟩
theorem D4{N:Nat}(hN:N<980000){s:Gp}(h:J N s)(hi:I s):Gv (jt s) λr=>J (N+600) r.1∧I r.1:=by
 have hl:=h.c.l;have hk:=h.k;unfold jt;rw[il h,IY]
 refine ab (aJ (λ(s:Gp) i=>(s,i)) s.Jc.Je.length (λj t=>J (N+j*200) t∧I t) (step:=gx s) (Q:=λt=>J (N+600) t∧I t) (by omega) (λj hj t ⟨h,hi⟩=>?_) (λt ⟨h,hi⟩=>?_) ⟨by simpa using h,hi⟩) λt ht=>?_
 ·unfold gx;dsimp only;rw[ay hj,cond_true]
  refine ab (G1 hL hV (by omega) h hi _) λu ⟨h,hi⟩=>ab (HX h _) λids ⟨l1,l2⟩=>ab (aQ (λ(s:Gp) i=>(s,i)) ids.length (λt=>J (N+j*200+200) t∧I t∧t.I6.map (·.Id)=u.I6.map (·.Id)) (step:=gz ids) (Q:=λt=>J (N+j*200+200) t∧I t) (by omega) (λm hm t ⟨h,hi,e⟩=>?_) (λt ⟨h,hi,e⟩=>?_) ⟨h,hi,rfl⟩) λt ⟨h,hi⟩=>ae (.inl ⟨t,rfl,by rw[Nat.add_one_mul,← PD];exact h,hi⟩)
  ·have hk:=h.k;unfold gz;dsimp only
   rw[ay hm,cond_true,aH hm,IY,IZ hm,IY,cIx t.I6 (by omega) (λx=>x.Id == ids[m]) λx=>rfl,IY]
   have h0:0≤fx (λx:Cont=>x.Id == ids[m]) t.I6:=by
    by_cases h1:0≤fx (λx:Cont=>x.Id == ids[m]) t.I6
    ·exact h1
    ·obtain⟨c,hc,ec⟩:=l2 _ (K_ hm);have:c.Id∈t.I6.map (·.Id):=e▸ZE hc;obtain⟨d,hd,ed⟩:=Oz.1 this;have:=(cJ (SN.1 h1)).2.2 d hd;simp[ed,ec]at this
   obtain⟨k,hk,e1,_⟩:=be h0;rw[e1,aH hk,IY,IZ hk,IY]
   have g:NS t { t with I6:=t.I6.set k { t.I6[k]with Mf:=imax t.Now 1 } }:=⟨k,hk,_,rfl⟩
   have e2:(t.I6.set k { t.I6[k]with Mf:=imax t.Now 1 }).map (·.Id)=t.I6.map (·.Id):=Vm hk rfl
   exact ae (.inl ⟨_,rfl,g.j h,hV h hi g,e2.trans e⟩)
  ·exact aw (a:=.inr t) (by unfold gz;dsimp only;rw[az];rfl) ⟨t,rfl,h,hi⟩
 ·exact aw (a:=.inr t) (by unfold gx;dsimp only;rw[az];rfl) ⟨t,rfl,h.mono (by omega) (by omega),hi⟩
 ·have hk2:=ht.1.k
  refine ab (aJ (λ(l:List Int) i=>(l,i)) s.I6.length (λk l=>l.length≤k) (step:=gr s t) (Q:=λl=>l.length≤200) (by omega) (λk hk l h1=>?_) (λl h1=>?_) (by simp)) λl hl=>?_
  ·unfold gr ko;dsimp only
   rw[ay hk,cond_true,aA hk,IY,cIx t.I6 (by omega) (λx=>x.Id == s.I6[k].Id) λx=>rfl,IY,IY]
   refine ab (P:=λm=>m.length≤k+1) (af (λ_=>?_) λ_=>ae (by omega)) λm hm=>ae (.inl ⟨m,rfl,hm⟩)
   rw[bi (by simp;omega) (by omega)]
   exact ae (by simp;omega)
  ·exact aw (a:=.inr l) (by unfold gr;dsimp only;rw[az];rfl) ⟨l,rfl,by omega⟩
  ·refine ab (P:=λ_=>True) ?_ λ_ _=>ae ht;unfold bB Rb Ra
   cases l with
   | nil=>exact ai _
   | cons x l=>rw[List.isEmpty_cons,cond_false,if_pos ⟨by simp,by omega⟩];exact ai _
end
set_option linter.unusedVariables false
set_option linter.unusedSimpArgs false
theorem aaw{α : Type}{l ys:List α}{a n:Nat}(h:a+min n ys.length≤l.length):(LP l a n ys).length=l.length:=by unfold LP;simp only[I3,Lj,Nh];omega
theorem IP{l:List Int}(h:l.length≤1000000):Gv (bB l) λr=>r.length=l.length:=by
 unfold bB Rb Ra
 cases l with
 | nil=>exact ae rfl
 | cons x l=>rw[List.isEmpty_cons,cond_false,if_pos ⟨by simp,by omega⟩];exact ae (List.length_mergeSort _)
theorem xg(a b:Int):T (eo a b):=af (λ_=>ai _) λ_=>ai _
section
variable{l:List Jk}(hl:l.length≤12)
include hl
theorem aoV(label t:Int):T (sK l label t):=by
 unfold sK
 refine ab (nG (n:=l.length) (I:=λ_=>True) (by omega) (λ_ _=>rfl) (λj hj v _=>?_) trivial) λu _=>ai _
 dsimp only;rw[aA hj,IY];exact aG (af (λ_=>af (λ_=>ai _) λ_=>ai _) λ_=>ai _) λ_=>af (λ_=>ab (mh _ _) λ_ _=>ai _) λ_=>ai _
theorem IV(total:Vec)(p:Jk)(t long:Int):T (oZ l total p t long):=by
 unfold oZ
 refine ab (aJ (λ(m:List Int) i=>(m,i)) l.length (λk m=>m.length≤k+1) (step:=jY l t long) (Q:=λm=>m.length≤13) (by omega) (λk hk m h1=>?_) (λm h1=>?_) (by simp)) λm hm=>?_
 ·unfold jY;dsimp only;rw[ay hk,cond_true,aA hk,IY]
  refine ab (P:=λm=>m.length≤k+1+1) (aG (af (λ_=>ai _) λ_=>ai _) λb=>af (λ_=>?_) λ_=>ae (by omega)) λm hm=>ae (.inl ⟨m,rfl,hm⟩)
  rw[bi (by simp;omega) (by omega)]
  exact ae (by simp;omega)
 ·exact aw (a:=.inr m) (by unfold jY;dsimp only;rw[az];rfl) ⟨m,rfl,by omega⟩
 ·have hf:∀x,T (i_ x l p total):=λx=>ab (aoV hl _ _) λ_ _=>ab (mh _ _) λ_ _=>af (λ_=>ai _) λ_=>ab (lw _ _) λ_ _=>ai _;unfold bf
  rw[iIx m (by omega) (λx=>(i_ x l p total).getD false) λx=>by obtain⟨b,e,_⟩:=hf x;show i_ x l p total=_;rw[e];rfl]
  exact ai _
theorem Hp(total:Vec)(p:Jk)(long:Int):T (m_ l total p long):=by
 unfold m_;refine aG ?_ λ_=>af (λ_=>ai _) λ_=>?_
 ·repeat' (first | exact ai _ | refine ab (xg _ _) λ_ _=>?_ | refine af (λ_=>?_) λ_=>?_)
 ·unfold P7
  rw[aF (by omega) (by omega),if_pos ⟨by omega,by omega,by unfold maxLen;omega,by omega⟩]
  refine ab (aw (P:=λm:List Int=>m.length=1) rfl (by simp)) λm h1=>ab (dj (by omega) (by omega)) λi hi=>ab (db (by omega)) λx _=>ab (aJ (λ(m:List Int) i=>(m,i)) l.length (λk m=>m.length≤k+1) (step:=jm l p) (Q:=λm=>m.length≤13) (by omega) (λk hk m h1=>?_) (λm h1=>?_) (by simp;omega)) λm hm=>ab (IP (by omega)) λr hr=>ab (P:=λ_=>True) (aQ (σ:=Unit) (λ_ i=>i) r.length (λ_=>True) (by omega) (λi hi _ _=>?_) (λ_ _=>?_) (s:=()) trivial) ?_
  ·unfold jm;dsimp only;rw[ay hk,cond_true,aA hk,IY]
   refine ab (P:=λm=>m.length≤k+1+1) (af (λ_=>?_) λ_=>ae (by omega)) λm hm=>ae (.inl ⟨m,rfl,hm⟩)
   rw[bi (by simp;omega) (by omega)]
   exact ae (by simp;omega)
  ·exact aw (a:=.inr m) (by unfold jm;dsimp only;rw[az];rfl) ⟨m,rfl,by omega⟩
  ·unfold mM;rw[ay hi,cond_true,aH hi,IY,IZ hi,IY];exact aG (af (λ_=>ab (IV hl _ _ _ _) λ_ _=>ai _) λ_=>ai _) λ_=>af (λ_=>ae (.inr ⟨_,rfl,trivial⟩)) λ_=>ae (.inl ⟨(),rfl,trivial⟩)
  ·exact aw (a:=.inr (.inr ())) (by unfold mM;rw[az];rfl) ⟨_,rfl,trivial⟩
  ·rintro(q | q) _<;>exact ai _
end
theorem lIx{f:Js fam [.st 9]→Option Bool}(s:List Jk)(hn:s.length≤1000000)(p:Jk→Bool)(hf:∀x,f (x,())=some (p x)):gK s f=some (fx p s):=Uq hn λt=>by simp[oE,hf]
theorem amC{f:Js fam [.st 9]→Option Bool}(s:List Jk)(hn:s.length≤1000000)(p:Jk→Bool)(hf:∀x,f (x,())=some (p x)):jv s f=some (s.filter λx=>!p x):=by
 unfold jv;rw[lIx s hn p hf]
 exact dlf _ hn λt=>by simp[oK,hf]
section
variable{N:Nat}{s:Gp}(h:J N s)
include h
theorem J.plans{l:List Jk}(hl:l.length≤12):J N { s with Jq:=l }:=⟨h.c,h.n,h.a,h.ad,h.ak,h.k,h.kk,h.l,hl,h.e,h.b,h.nk⟩
theorem HJ(i:Int):Gv (pd s i) λr=>J N r.1∧r.1.I6=s.I6:=by
 have hp:=h.p;unfold pd
 rw[il h,IY,lIx s.Jq (by omega) (λx=>x.Id == i) λx=>rfl,IY]
 refine af (λ_=>ae ⟨h,rfl⟩) λh0=>?_;obtain⟨k,hk,e,_⟩:=be (Int.not_lt.1 (of_decide_eq_false h0));unfold mJ del
 rw[e,Rm (by omega),if_pos (by omega),IY]
 exact ae ⟨h.plans (by simp;omega),rfl⟩
theorem Gh(p:Jk)(long:Int):Gv (qv s p long) λr=>J N r.1∧r.1.I6=s.I6:=by
 have hp:=h.p;unfold qv;rw[il h,IY]
 obtain⟨k,hk,e1⟩:=Zn (l:=s.Jq) (p:=λx=>decide (x.Id<p.Id)) (step:=tU p s) (by omega) λk=>rfl
 have same:∀a b,Gv (some (s,a,b)) λr:Gp×Int×Int=>J N r.1∧r.1.I6=s.I6:=λ_ _=>ae ⟨h,rfl⟩;rw[e1,IY];unfold mP
 rw[lIx s.Jq (by omega) (λx=>x.Id == p.Id) λx=>rfl]
 refine aG ?_ λ_=>af (λ_=>same _ _) λ_=>af (λ_=>same _ _) λ_=>af (λ_=>same _ _) λh12=>af (λ_=>same _ _) λ_=>ab (nX h _) λx5 _=>ab (Hp hp x5 p long) λx6 _=>af (λ_=>same _ _) λ_=>?_
 ·repeat' (first | exact ai _ | refine ab (xg _ _) λ_ _=>?_ | refine af (λ_=>?_) λ_=>?_)
 ·have h12:=of_decide_eq_false h12
  rw[Rm (by omega),j7 (by omega) (by omega),IY]
  refine ab (ir (by omega) (by omega) (by omega)) λp1 e1=>?_
  subst e1
  have e2:(LP (List.replicate (s.Jq.length+1) (⟨0,0,0,0,⟨0,0⟩⟩:Jk)) 0 (List.replicate (s.Jq.length+1) (⟨0,0,0,0,⟨0,0⟩⟩:Jk)).length (sub s.Jq (0:Int).toNat ((k:Int).toNat - (0:Int).toNat))).length=s.Jq.length+1:=by
   rw[aaw (by simp[sub];omega)];simp
  refine ab (dj (by omega) (by dsimp only;omega)) λi ei=>ab (db (by dsimp only;omega)) λx7 _=>?_
  rw[Rm (by omega)]
  refine ab (ir (by omega) (by rw[RJ];dsimp only;omega) (by omega)) λp2 e3=>ab (ir (by omega) (by omega) (by omega)) λp3 e4=>ae ⟨h.plans ?_,rfl⟩
  subst e3 e4;dsimp only at e2 ⊢
  rw[aaw (by simp only[RJ,sub,Lj,Nh]at *;omega),RJ]
  omega
end
set_option linter.unusedVariables false
set_option linter.unusedSimpArgs false
theorem Sub.trans{s t u:Gp}(h:Sub s t)(k:Sub t u):Sub s u:=λc hc=>by obtain⟨d,hd,e⟩:=k c hc;obtain⟨f,hf,e2⟩:=h d hd;exact⟨f,hf,e2.trans e⟩
theorem LS.sub{s t:Gp}(h:LS s t):Sub s t:=by
 rcases h with rfl | ⟨i,hi,j,hj,_,⟨_,rfl⟩ | ⟨_,g,q,_,_,rfl⟩⟩
 ·exact Sub.of rfl
 ·exactλc hc=>⟨c,(WX.1 hc).1,rfl⟩
 ·exactλc hc=>⟨c,(Mr.1 hc).elim Uu XJ,rfl⟩
theorem NS.sub{s t:Gp}(h:NS s t):Sub s t:=by
 obtain⟨i,hi,v,rfl⟩:=h
 exactλc hc=>(SX hc).elim (λh=>⟨c,h,rfl⟩) λe=>by subst e;exact⟨s.I6[i],K_ hi,rfl⟩
theorem GZ{α : Type}{l:List α}{k:Nat}(hk:k<l.length){a:α}(h:a∈l)(hne:a≠l[k]):a∈l.take k++l.drop (k+1):=by
 rw[← Uw k l,QdH hk]at h;rcases Mr.1 h with h | h
 ·exact Mr.2 (.inl h)
 ·exact Mr.2 (.inr ((Lr.1 h).resolve_left hne))
theorem sU{α : Type}(l:List α)(k:Nat):(l.take k++l.drop (k+1)).Sublist l:=by
 conv=>rhs;rw[← Uw k l]
 exact(List.Sublist.refl _).append (by rw[← Zy];exact List.drop_sublist _ _)
theorem Gy{l:List App}(hl:l.length≤16):pa l=some ((l.filter live).length:Int):=by
 have key:Gv (loop (hP l) (0,0)) λn=>n=((l.filter live).length:Int):=by
  refine aJ (λ(n:Int) i=>(n,i)) l.length (λk n=>n=(((l.take k).filter live).length:Int)) (step:=hP l) (by omega) (λk hk n hn=>?_) (λn hn=>?_) (s:=0) (by simp)
  ·have h2:=Uv live (l.take k);rw[Lj]at h2;unfold hP;dsimp only;rw[ay hk,cond_true,aA hk,IY,iI,IY];refine ab (P:=λn=>n=(((l.take (k+1)).filter live).length:Int)) ?_ λn hn=>ae (.inl ⟨n,rfl,hn⟩);rw[Ux hk,XH];refine af (λe=>ae ?_) λe=>ae ?_
   ·rw[aF (x:=n+1) (by omega) (by omega),hn];simp[e]
   ·rw[hn];simp[e]
  ·refine aw (a:=.inr n) (by unfold hP;dsimp only;rw[az];rfl) ⟨n,rfl,?_⟩
   rwa [SL]at hn
 obtain⟨n,e,hn⟩:=key;unfold pa;rw[e,hn];rfl
section
variable{N:Nat}{s:Gp}(h:J N s)
include h
theorem J.agc{j:Nat}(hj:j<s.I9.length){y:App}(hid:y.Id=s.I9[j].Id)(hy:JA N y):J N (Oh { s with I9:=s.I9.set j y } s.I9[j].Id):=by
 refine⟨h.c,h.n,by simpa[Oh]using h.a,T_ hj hid h.ad,λx hx=>(SX hx).elim (h.ak x) λe=>e▸hy,MP (Uv _ _) h.k,λc hc=>?_,MP (Uv _ _) h.l,h.p,h.e,h.b,h.nk⟩
 have⟨hc1,hc2⟩:=WX.1 hc;obtain⟨h1,a,ha,h2,h3⟩:=h.kk c hc1;refine⟨h1,?_⟩;rcases mem_set hj ha with rfl | ha
 ·simp[← h2]at hc2
 ·exact⟨a,ha,h2,h3⟩
theorem Ig(i st:Int):Gv (qH s i st) λr=>J N r.1∧Sub s r.1:=by
 have ha:=h.a;unfold qH
 rw[qK h,IY,th (by omega),IY]
 refine ab (P:=λq=>q=false→0≤ax s i) (af (λ_=>ae (by simp)) λh0=>?_) λq hq=>af (λ_=>ae ⟨h,Sub.of rfl⟩) λe=>?_
 ·have h0:=Int.not_lt.1 (of_decide_eq_false h0);obtain⟨k,hk,e,_⟩:=be h0
  rw[show ax s i=k from e,aH hk,IY,IZ hk,IY,iI]
  exact ae λ_=>by omega
 ·obtain⟨k,hk,e,hp,_⟩:=be (hq e)
  have hid:s.I9[k].Id=i:=by simpa using hp
  rw[show ax s i=k from e,aH hk,IY,IZ hk,IY,IY,IZ hk,IY,BP]
  obtain⟨g,e⟩:=xR (N:=N) (s:={ s with I9:=s.I9.set k ⟨s.I9[k].Id,st,s.I9[k].Ja,s.I9[k].User,s.I9[k].J6,s.I9[k].Jb,[],s.I9[k].KD,s.I9[k].J_,[],[],[],[]⟩ }) ⟨h.k,MP h.l h.b⟩ i
  refine ab (aw (P:=λr=>r.1=Oh { s with I9:=s.I9.set k ⟨s.I9[k].Id,st,s.I9[k].Ja,s.I9[k].User,s.I9[k].J6,s.I9[k].Jb,[],s.I9[k].KD,s.I9[k].J_,[],[],[],[]⟩ } i) e rfl) λr hr=>ae ?_
  dsimp only;rw[hr,← hid]
  exact⟨h.agc hk rfl ⟨by simp,by simp,by simp,by simp,by simp,by simp,(h.ak _ (K_ hk)).q⟩,λc hc=>⟨c,(WX.1 hc).1,rfl⟩⟩
theorem anD{i:Nat}{y:App}(hl:s.I9.length≤15)(hn:∀a∈s.I9,a.Id≠y.Id)(hy:JA N y):J N { s with I9:=s.I9.take i++[y]++s.I9.drop i }:=by
 have hp:(s.I9.take i++[y]++s.I9.drop i).Perm (y::s.I9):=by rw[MK];exact List.perm_middle.trans (.of_eq (congrArg (y::·) (Uw i s.I9)))
 refine⟨h.c,h.n,by show(_:List App).length≤16;rw[hp.length_eq];simp;omega,?_,λx hx=>(nJ hx).elim (h.ak x) λe=>e▸hy,h.k,λc hc=>?_,h.l,h.p,h.e,h.b,h.nk⟩
 ·refine(hp.map (·.Id)).nodup_iff.2 (PI.2 ⟨λhm=>?_,h.ad⟩);obtain⟨a,ha,e⟩:=Oz.1 hm;exact hn a ha e
 ·obtain⟨h1,a,ha,h2,h3⟩:=h.kk c hc;exact⟨h1,a,hp.mem_iff.2 (PG _ ha),h2,h3⟩
theorem CK(a:App):Gv (lP s a) λr=>J N r.1∧r.1.I6=s.I6:=by
 have ha:=h.a;have same:∀e,Gv (some (s,e)) λr:Gp×Int=>J N r.1∧r.1.I6=s.I6:=λ_=>ae ⟨h,rfl⟩;unfold lP;rw[qK h];simp only[Bt,IY]
 rw[th (by omega),IY,Gy ha,IY]
 refine aG ?_ λ_=>af (λ_=>same _) λ_=>af (λ_=>same _) λh0=>af (λ_=>same _) λh16=>ab (AY h.c _) λb hb=>af (λ_=>same _) λeb=>?_
 ·repeat' (first | exact ai _ | refine af (λ_=>?_) λ_=>?_)
 obtain⟨q,hq,eq⟩:=hb (by simpa using eb)
 have hq:=(h.c.k q hq).2.1;rw[eq]at hq;have hno:=(cJ (SN.1 (of_decide_eq_false h0))).2.2;have h16:=of_decide_eq_false h16
 have over:∀x:App,pg x=some (!live x):=λx=>by unfold pg;rw[iI];rfl
 rw[pIx s.I9 (by omega) (λx=>!live x) over,IY]
 refine ab (P:=λu=>J N u∧u.I9.length≤15∧(∀x∈u.I9,x∈s.I9)∧u.I6=s.I6) ?_ λu ⟨hu,anJ,hsub,hc⟩=>?_
 ·refine ab (P:=λq=>(q=true→0≤fx (λx=>!live x) s.I9)∧(q=false→s.I9.length≤15)) (af (λe=>ae ⟨λe=>of_decide_eq_true e,λe2=>?_⟩) λe=>ae ⟨by simp,λ_=>by have:=of_decide_eq_false e;omega⟩) λq ⟨q1,q2⟩=>af (λe=>?_) λe=>ae ⟨h,q2 e,λ_ h=>h,rfl⟩
  ·have:=(cJ (SN.1 (of_decide_eq_false e2))).2.2
   rw[QeV.2 (λx hx=>by have:=this x hx;simpa using this)]at h16
   omega
  ·obtain⟨k,hk,e1,hp,_⟩:=be (q1 e);unfold oR del
   rw[e1,Rm (by omega),if_pos (by omega),IY]
   have hs:=sU s.I9 k;refine ae ⟨⟨h.c,h.n,MP hs.length_le h.a,(hs.map _).nodup h.ad,λx hx=>h.ak x (hs.mem hx),h.k,λc hc=>?_,h.l,h.p,h.e,h.b,h.nk⟩,?_,λx hx=>hs.mem hx,rfl⟩
   ·obtain⟨k1,b,hb,k2,k3⟩:=h.kk c hc
    exact⟨k1,b,GZ hk hb (λe=>by rw[← e,k3]at hp;cases hp),k2,k3⟩
   ·show(s.I9.take k++s.I9.drop (k+1)).length≤15;simp;omega
 ·have hu2:∀x∈u.I9,x.Id≠a.Id:=λx hx e=>by have:=hno x (hsub x hx);simp[e]at this
  rw[yv,IY];unfold nL
  have hax:ax u a.Id<0:=SN.1 λh1=>by
   obtain⟨k,hk,_,hp,_⟩:=be h1
   exact hu2 _ (K_ hk) (by simpa using hp)
  rw[th (by omega),IY,decide_eq_false (show¬ (ax u a.Id≥0)by omega),cond_false]
  obtain⟨k,hk,e⟩:=Zn (l:=u.I9) (p:=λx=>decide (x.Id<a.Id)) (step:=tW u ⟨a.Id,1,a.Ja,a.User,a.J6,a.Jb,[fst ⟨a.Id,1,a.Ja,a.User,a.J6,a.Jb,[],u.Now,0,[],[],[],[]⟩],u.Now,0,[],[],[],[]⟩) (by omega) λk=>rfl
  refine ab (ab (aw (P:=λk1=>k1=(k:Int)) e rfl) ?_) λx hx=>ae hx;rintro _ rfl;unfold oD ins
  rw[if_pos ⟨by omega,by omega,rfl,by omega⟩,IY]
  exact ae ⟨anD hu anJ hu2 ⟨by simp,by simp[fst],by simp,by simp,by simp,by simp,hq.2,hq.1⟩,hc⟩
end
set_option linter.unusedVariables false
set_option linter.unusedSimpArgs false
theorem u3{α : Type}{n:Nat}{body:List α→Int→Option (List α)}{step:List α×Int→Option ((List α×Int) ⊕ List α)}(hn:n≤1000)(hs:∀s i,step (s,i)=bif decide (i<(n:Int))then(body s i).bind λo=>some (.inl (o,Jd (i+1)))else some (.inr s))
  (hb:∀k,k<n→∀s:List α,s.length≤1000→Gv (body s (k:Int)) λm=>m.length≤s.length+1):Gv (loop step ([],0)) λl=>l.length≤n:=by
 refine aJ (λ(s:List α) i=>(s,i)) n (λk l=>l.length≤k) (by omega) (λk hk s h=>?_) (λs h=>?_) (s:=[]) (by simp)
 ·rw[hs,ay hk]
  exact ab (hb k hk s (by omega)) λo ho=>ae (.inl ⟨o,rfl,by omega⟩)
 ·rw[hs,az];exact ae ⟨s,rfl,h⟩
theorem one{b:Bool}{l:List Int}{x:Int}(hl:l.length≤1000):Gv (bif b then(app 8 l [x]).bind λl=>some l else some l) λm=>m.length≤l.length+1:=by
 refine af (λ_=>?_) λ_=>ae (by omega)
 rw[bi (by simp;omega) (by omega)]
 exact ae (by simp)
section
variable{N:Nat}{t:Step}(h:J N t.s)
include h
theorem xG(n:Int):Gv (dz t n) λl=>l.length≤200:=by
 have hk:=h.k
 exact ab (u3 (by omega) (λ_ _=>rfl) λk hk l hl=>by dsimp only;rw[aA hk];exact one hl) λl hl=>ae (by omega)
theorem wU(n:Int):T (d5 t n):=by
 have hk:=h.k
 exact ab (u3 (by omega) (λ_ _=>rfl) λk hk l hl=>by dsimp only;rw[aA hk,IY];exact ab (P:=λ_=>True) (af (λ_=>ai _) λ_=>ai _) λ_ _=>one hl) λl hl=>ai _
theorem Be(n:Int):Gv (gy t n) λl=>l.length≤200:=by
 have hk:=h.k
 exact ab (u3 (by omega) (λ_ _=>rfl) λk hk l hl=>by dsimp only;rw[aA hk,IY];exact ab (P:=λ_=>True) (af (λ_=>ai _) λ_=>ai _) λ_ _=>one hl) λl hl=>ae (by omega)
theorem vP{ids:List Int}(hl:ids.length≤400000):T (cj t ids):=by
 have hk:=h.k;unfold cj
 refine ab (aJ (λ(l:List Cont) i=>(l,i)) ids.length (λk l=>l.length≤k*200) (step:=dw t ids) (Q:=λ_=>True) (by omega) (λk hk2 l h1=>?_) (λl h1=>?_) (by simp)) λl _=>ai _
 ·unfold dw;dsimp only;rw[ay hk2,cond_true,aA hk2,IY]
  refine ab (aJ (λ(l:List Cont) i=>(l,i)) t.s.I6.length (λj m=>m.length≤k*200+j) (step:=dB t ids[k]) (Q:=λm=>m.length≤(k+1)*200) (by omega) (λj hj m h2=>?_) (λm h2=>?_) (s:=l) h1) λm hm=>ae (.inl ⟨m,rfl,hm⟩)
  ·unfold dB;dsimp only;rw[ay hj,cond_true,aA hj,IY]
   refine ab (P:=λm=>m.length≤k*200+(j+1)) (af (λ_=>?_) λ_=>ae (by omega)) λm hm=>ae (.inl ⟨m,rfl,hm⟩)
   rw[Ee (by simp;omega) (by omega)]
   exact ae (by simp;omega)
  ·exact aw (a:=.inr m) (by unfold dB;dsimp only;rw[az];rfl) ⟨m,rfl,by omega⟩
 ·exact aw (a:=.inr l) (by unfold dw;dsimp only;rw[az];rfl) ⟨l,rfl,trivial⟩
end
theorem J.era{N:Nat}{s:Gp}(h:J N s)(k:Nat):J N { s with I6:=s.I6.take k++s.I6.drop (k+1) }:=by have hs:=sU s.I6 k;exact⟨h.c,h.n,h.a,h.ad,h.ak,MP hs.length_le h.k,λc hc=>h.kk c (hs.mem hc),h.l,h.p,h.e,h.b,h.nk⟩
abbrev OS(R:Gp→Prop)(r:Output×Step):Prop:=r.1.Err≠0∨R r.2.s
theorem fb{R:Gp→Prop}{e:Int}(he:e≠0)(t:Step):Gv ((aO e).bind λx=>some (x,t)) (OS R):=ae (.inl he)
theorem Dx{N:Nat}{t:Step}(h:J N t.s)(hN:N≤400000)(Lv:t.x.Ids.length≤1000000)(hask:t.x.Jy.length≤1000000):Gv (eO t) (OS λs=>J N s∧Sub t.s s):=by
 unfold eO
 refine ab (qd h _) λr ⟨_,hr⟩=>af (λ_=>fb (by omega) t) λe1=>af (λ_=>fb (by omega) t) λe2=>af (λ_=>fb (by omega) t) λ_=>af (λ_=>fb (by omega) t) λ_=>?_
 obtain⟨j,hj,e3,_⟩:=hr (by simpa using e1)
 have hja:=h.ak _ (K_ hj)
 have h2:r.1.Gp=2:=by simpa using e2
 rw[e3]at h2 ⊢;generalize ha0:t.s.I9[j]=a0 at *;have⟨a1,a2,a3,a4,a5,a6,a7⟩:=hja
 refine af (λ_=>ab (vP h (by omega)) λ_ _=>ab (wU h _) λ_ _=>ae (.inr ⟨h,Sub.of rfl⟩)) λ_=>ab (P:=λr=>match r with | .inl o=>o.Err≠0 | .inr q=>∃l,CO l∧q.2 = { a0 with Jy:=l }) (aQ (λ(p:Output×App) i=>(p.1,p.2,i)) t.x.Jy.length (λp=>∃l,CO l∧p.2 = { a0 with Jy:=l }) (step:=c9 t) (by omega) ?_ ?_ (s:=(_,a0)) ⟨a0.Jy,⟨a1,a2⟩,rfl⟩) ?_
 ·rintro k hk ⟨o,a⟩ ⟨l,hl,e⟩;dsimp only at e;subst e;unfold c9;dsimp only;rw[ay hk,cond_true,aA hk,IY]
  refine ab (EN _ _) λe he=>ab (P:=λq=>∃l,CO l∧q.1 = { a0 with Jy:=l }) (af (λe0=>ab (IA hl (he (by simpa using e0))) λr hr=>ae ⟨_,hr,rfl⟩) λ_=>ae ⟨l,hl,rfl⟩) λq hq=>af (λe=>ae (.inr ⟨_,rfl,by simpa using e⟩)) λ_=>ae (.inl ⟨(_,_),rfl,hq⟩)
 ·rintro⟨o,a⟩ h
  exact aw (a:=.inr (.inr (o,a))) (by unfold c9;dsimp only;rw[az];rfl) ⟨_,rfl,h⟩
 ·rintro(o | ⟨o,a⟩) hq
  ·exact ae (.inl hq)
  ·obtain⟨l,hl,e⟩:=hq;dsimp only at e ⊢;subst e;unfold iX
   refine ab (P:=λr=>(J N r.2.s∧Sub t.s r.2.s∧r.2.s.I9=t.s.I9)∧∃g:List Int,g.length≤N∧r.1 = { a0 with Jy:=l,Kj:=g }) (ab (aQ (λ(p:Step×App) i=>(p.1,p.2,i)) t.x.Ids.length (λp=>(J N p.1.s∧Sub t.s p.1.s∧p.1.s.I9=t.s.I9)∧∃g:List Int,g.length≤N∧p.2 = { a0 with Jy:=l,Kj:=g }) (step:=dX t.x.Ids) (Q:=λp=>(J N p.1.s∧Sub t.s p.1.s∧p.1.s.I9=t.s.I9)∧∃g:List Int,g.length≤N∧p.2 = { a0 with Jy:=l,Kj:=g }) (by omega) ?_ ?_ (s:=(t,_)) ⟨⟨h,Sub.of rfl,rfl⟩,a0.Kj,a3,rfl⟩) λq hq=>ae hq) ?_
   ·rintro k hk ⟨u,b⟩ ⟨⟨h,hs,ea⟩,g,hg,e⟩;dsimp only at h hs ea e;subst e;have hkc:=h.k;unfold dX;dsimp only
    rw[ay hk,cond_true,aA hk,IY,cIx u.s.I6 (by omega) (λc=>c.Id == t.x.Ids[k]&&(c.App == a0.Id&&!c.Jb)) (λc=>by unfold gU;cases c.Id == t.x.Ids[k]<;>cases c.App == a0.Id<;>simp[*]),IY]
    refine ab (P:=λp=>(J N p.1.s∧Sub t.s p.1.s∧p.1.s.I9=t.s.I9)∧∃g:List Int,g.length≤N∧p.2 = { a0 with Jy:=l,Kj:=g }) (af (λh0=>?_) λ_=>ae ⟨⟨h,hs,ea⟩,g,hg,rfl⟩) λq hq=>ae (.inl ⟨(_,_),rfl,hq⟩)
    obtain⟨i,hi,e,_⟩:=be (of_decide_eq_true h0);unfold hZ del
    rw[e,Rm (by omega),if_pos (by omega),IY,ab7 g (by omega) (λx=>x == t.x.Ids[k]) λx=>rfl,IY]
    exact ae ⟨⟨h.era i,hs.trans λc hc=>⟨c,(sU _ i).mem hc,rfl⟩,ea⟩,_,MP (Uv _ _) hg,rfl⟩
   ·rintro⟨u,b⟩ h
    exact aw (a:=.inr (u,b)) (by unfold dX;dsimp only;rw[az];rfl) ⟨_,rfl,h⟩
   ·rintro⟨b,u⟩ ⟨⟨h,hs,ea⟩,g,hg,e⟩;dsimp only at h hs ea e ⊢;subst e
    have hj2:j<u.s.I9.length:=by rw[ea];exact hj
    have e5:u.s.I9[j]=a0:=by rw[← ha0];simp only[ea]
    refine ab (vP h (by dsimp only;omega)) λ_ _=>ab (wU h _) λ_ _=>?_
    unfold bS
    rw[bh (by dsimp only;omega) (by omega),IY]
    have hy:JA N (⟨a0.Id,a0.Gp,a0.Ja,a0.User,a0.J6,a0.Jb,l,u.s.Now,Jd (a0.J_+1),[],[],g,a0.KJ⟩:App):=⟨hl.1,hl.2,by simp,by simp,hg,a4,a7⟩
    refine ab (aw (P:=λs=>s = { u.s with I9:=u.s.I9.set j ⟨a0.Id,a0.Gp,a0.Ja,a0.User,a0.J6,a0.Jb,l,u.s.Now,Jd (a0.J_+1),[],[],g,a0.KJ⟩ }) (zb h h.b hj2 (by rw[e5]) hy) rfl) ?_
    rintro _ rfl
    exact ae (.inr ⟨h.Xd (KC _) h.b hj2 (by rw[e5]) hy (.inl (by unfold live;simp[h2])),hs.trans (Sub.of rfl)⟩)
theorem A9{N:Nat}{t:Step}(h:J N t.s)(st:Int):Gv (eE t st) (OS λs=>J N s∧Sub t.s s):=by
 unfold eE
 refine ab (qd h _) λr _=>af (λ_=>fb (by omega) t) λ_=>?_
 rw[iI,IY]
 exact af (λ_=>fb (by omega) t) λ_=>ab (Ig h _ _) λr hr=>ae (.inr hr)
theorem GN{I:Gp→Prop}(hL:∀{M:Nat}{s t:Gp},J M s→I s→LS s t→I t)(hNd:∀{s:Gp}{l m},I s→I { s with Jh:=l,Jr:=m }){N:Nat}(hN:N<990000){t:Step}(h:J N t.s)(hi:I t.s)(id:Int):Gv (fS t id) λu=>J (N+200) u.s∧I u.s:=by
 have hn:=h.n;unfold fS
 refine ab (xG h _) λids hl=>ab (aQ (λ(l:List Node) i=>(l,i)) t.s.Jh.length (λl=>l.length=t.s.Jh.length∧∀n∈l,VB 1073741824 n.Cap) (step:=dN t id) (Q:=λl=>l.length≤12∧∀n∈l,VB 1073741824 n.Cap) (by omega) (λk hk l ⟨h1,h2⟩=>?_) (λl ⟨h1,h2⟩=>?_) ⟨rfl,h.nk⟩) λl ⟨l1,l2⟩=>?_
 ·unfold dN;dsimp only
  rw[ay hk,cond_true,aH (by omega),IY,IZ (by omega),IY]
  refine ab (P:=λm=>m.length=t.s.Jh.length∧∀n∈m,VB 1073741824 n.Cap) (af (λ_=>?_) λ_=>ae ⟨h1,h2⟩) λm hm=>ae (.inl ⟨m,rfl,hm⟩)
  rw[IY,IZ (by omega),IY]
  refine ae ⟨by simpa using h1,λn hn=>(SX hn).elim (h2 n) λe=>?_⟩
  subst e
  exact h2 l[k] (K_ (by omega))
 ·exact aw (a:=.inr l) (by unfold dN;dsimp only;rw[az];rfl) ⟨l,rfl,by omega,h2⟩
 ·rw[abR t.s.Jr (MP h.l h.b) (λx=>x.Node == id) λx=>rfl,IY]
  have h2:J N { t.s with Jh:=l,Jr:=t.s.Jr.filter λx=>!(x.Node == id) }:=⟨h.c,l1,h.a,h.ad,h.ak,h.k,h.kk,MP (Uv _ _) h.l,h.p,h.e,h.b,l2⟩
  exact ab (ta h2 I hL (hNd hi) (ids:=ids) (by omega)) λu ⟨u1,u2⟩=>ae ⟨u1.mono (by omega) (by omega),u2⟩
theorem Fs{N:Nat}{s:Gp}(h:J N s):Gv (ot s) λl=>l.length≤12:=by
 have hn:=h.n
 exact ab (u3 (by omega) (λ_ _=>rfl) λk hk l hl=>by dsimp only;rw[aA hk,IY];exact ab (P:=λ_=>True) (af (λ_=>ai _) λ_=>ai _) λ_ _=>one hl) λl hl=>ae (by omega)
theorem CQ{N:Nat}{s:Gp}(h:J N s):Gv (lR s) λl=>l.length≤16:=by
 have ha:=h.a;unfold lR
 refine ab (aJ (λ(p:List Ko×List Int) i=>(p.1,p.2,i)) s.I9.length (λk p=>p.2.length≤k) (step:=iL s) (Q:=λl=>l.length≤16) (by omega) (λk hk p hp=>?_) (λp hp=>?_) (s:=([],[])) (by simp)) λl hl=>ae hl
 ·unfold iL;dsimp only;rw[ay hk,cond_true,aA hk,IY]
  refine ab (P:=λq=>q.2.length≤k+1) (aG (af (λ_=>af (λ_=>ai _) λ_=>ai _) λ_=>ai _) λb=>af (λ_=>?_) λ_=>ae (by dsimp only;omega)) λq hq=>ae (.inl ⟨(_,_),rfl,hq⟩)
  rw[bi (by simp;omega) (by omega)]
  exact ae (by simp;omega)
 ·exact aw (a:=.inr p.2) (by unfold iL;dsimp only;rw[az];rfl) ⟨_,rfl,by omega⟩
theorem HY{N:Nat}{t:Step}(h:J N t.s)(hN:N≤400000):Gv (fR t) (OS λs=>J (N+6200) s∧Sub t.s s):=by
 have hk:=h.k;have hL:∀{M:Nat}{s u:Gp},J M s→Sub t.s s→LS s u→Sub t.s u:=λ_ h g=>h.trans g.sub;have hV:∀{M:Nat}{s u:Gp},J M s→Sub t.s s→NS s u→Sub t.s u:=λ_ h g=>h.trans g.sub;unfold fR
 refine aG (af (λ_=>ai _) λ_=>ai _) λ_=>af (λ_=>fb (by omega) t) λ_=>af (λ_=>fb (by omega) t) λ_=>?_
 unfold ef
 rw[bh (by omega) (by omega),IY]
 have h1:J N { t.s with Now:=Jd (t.s.Now+t.x.N) }:=⟨h.c,h.n,h.a,h.ad,h.ak,h.k,h.kk,h.l,h.p,h.e,h.b,h.nk⟩
 refine ab (Fs h1) λns hns=>ab (aJ (λ(u:Step) i=>(u,i)) ns.length (λk u=>J (N+k*200) u.s∧Sub t.s u.s) (step:=dQ ns) (Q:=λu=>J (N+2400) u.s∧Sub t.s u.s) (by omega) (λk hk u ⟨hu,hs⟩=>?_) (λu ⟨hu,hs⟩=>?_) ⟨by simpa using h1,Sub.of rfl⟩) λt2 ⟨h2,s2⟩=>ab (CQ h2) λbs has=>ab (aJ (λ(u:Step) i=>(u,i)) bs.length (λk u=>J (N+2400+k*200) u.s∧Sub t.s u.s) (step:=dV bs) (Q:=λu=>J (N+5600) u.s∧Sub t.s u.s) (by omega) (λk hk u ⟨hu,hs⟩=>?_) (λu ⟨hu,hs⟩=>?_) (s:=t2) ⟨by simpa using h2,s2⟩) λt4 ⟨h4,s4⟩=>?_
 ·unfold dQ;dsimp only;rw[ay hk,cond_true,aH hk,IY,IZ hk,IY]
  exact ab (GN hL (λh=>h.trans (Sub.of rfl)) (by omega) hu hs _) λv ⟨v1,v2⟩=>ae (.inl ⟨v,rfl,by rw[Nat.add_one_mul,← PD];exact v1,v2⟩)
 ·exact aw (a:=.inr u) (by unfold dQ;dsimp only;rw[az];rfl) ⟨u,rfl,hu.mono (by omega) (by omega),hs⟩
 ·unfold dV;dsimp only;rw[ay hk,cond_true,aH hk,IY,IZ hk,IY]
  exact ab (Be hu _) λids hl=>ab (ta hu (Sub t.s) hL hs (ids:=ids) (by omega)) λv ⟨v1,v2⟩=>ae (.inl ⟨_,rfl,v1.mono (by omega) (by omega),v2⟩)
 ·exact aw (a:=.inr u) (by unfold dV;dsimp only;rw[az];rfl) ⟨u,rfl,hu.mono (by omega) (by omega),hs⟩
 ·have hp:=h4.p
  rw[amC t4.s.Jq (by omega) (λp=>decide (p.Until≤t4.s.Now)) λx=>rfl,IY]
  refine ab (D4 hL hV (by omega) (h4.plans (MP (Uv _ _) hp)) (s4.trans (Sub.of rfl))) λx ⟨x1,x2⟩=>ab (aJ (λ(o:Output) i=>(o,i)) t.s.I6.length (λk o=>o.Gone.length≤k) (step:=d4 t.s.I6 t4 x) (Q:=λ_=>True) (by omega) (λk hk o ho=>?_) (λo ho=>?_) (by simp)) λo _=>ae (.inr ⟨x1,x2⟩)
  ·unfold d4;dsimp only;rw[ay hk,cond_true,aH hk,IY,IZ hk,IY]
   refine ab (P:=λo=>o.Gone.length≤k+1) (ab (vP (t:=⟨x.1,t4.x⟩) x1 (ids:=[t.s.I6[k].Id]) (by simp)) λ_ _=>af (λ_=>?_) λ_=>ae (by omega)) λo ho=>ae (.inl ⟨o,rfl,ho⟩)
   rw[bi (by simp;omega) (by omega)]
   exact ae (by simp;omega)
  ·exact aw (a:=.inr o) (by unfold d4;dsimp only;rw[az];rfl) ⟨o,rfl,trivial⟩
set_option linter.unusedVariables false
set_option linter.unusedSimpArgs false
theorem ab4(c:UInt8):∀l:List UInt8,Lib.indexByte l c<l.length
 | []=>by simp[Lib.indexByte]
 | b::l=>by
  have:=ab4 c l;unfold Lib.indexByte;simp only[P8];split
  ·omega
  ·split<;>omega
theorem yw{s:Str}{c:UInt8}(hs:s.length≤1000000):Gv (gH s [c]) λm=>-1≤m∧m<s.length:=by
 unfold gH fP
 refine ab (ab (P:=λq=>q=true→s = [c]) (af (λh=>by simp at h) λ_=>ae λe=>by simpa using Eq.symm (by simpa using e:[c]=s)) λq hq=>af (λe=>ae ?_) λ_=>?_) λm hm=>ae hm
 ·rw[hq e];simp
 ·show Gv ((du s (c.toNat:Int)).bind λx=>some x) _;unfold du ixb;exact ae ⟨Lib.indexByte_ge _ _,ab4 _ _⟩
def PW(s:Str)(x:Str):Prop:=x.length≤s.length∧∀b∈x,b∈s
theorem C2{s x:Str}(hx:PW s x){a b:Int}(h0:0≤a)(h1:a≤b)(h2:b≤x.length):Gv (slc x a b) λm=>PW s m∧(m.length:Int)=b - a:=by refine nH (qh h0 h1 h2) λm ⟨m1,m2⟩=>⟨⟨?_,λb hb=>hx.2 b (m2 b hb)⟩,m1⟩;have:=hx.1;omega
theorem uh{s:Str}(hs:s.length≤100000)(c:UInt8):Gv (e_ s [c]) λl=>1≤l.length∧l.length≤s.length+1∧∀x∈l,PW s x:=by
 have hc:List.count c s≤s.length:=List.count_le_length;unfold e_ jz;refine ab ?_ λl hl=>ae hl
 refine af (λh=>by simp at h) λ_=>af (λh=>by simp at h) λ_=>ab (P:=λn=>n=((List.count c s+1:Nat):Int)) ?_ ?_
 ·refine af (λ_=>?_) λh=>by simp at h
  unfold mK cnt1 Lib.countByte
  rw[IY,Rm (by omega)]
  exact ae rfl
 ·rintro _ rfl;dsimp only
  rw[Rm (by omega),show Oj ((List.count c s+1:Nat):Int) ((s.length+1:Nat):Int)=((List.count c s+1:Nat):Int)by unfold Oj;rw[if_neg (by omega)],j7 (by omega) (by omega),IY]
  refine ab (gP (λt:Str×List Str×Int=>PW s t.1∧t.2.1.length=List.count c s+1∧(∀x∈t.2.1,PW s x)∧0≤t.2.2∧t.2.2≤(List.count c s:Int)) (λt=>(List.count c s+1 - t.2.2).toNat) (Q:=λt:Str×List Str×Int=>PW s t.1∧t.2.1.length=List.count c s+1∧(∀x∈t.2.1,PW s x)∧0≤t.2.2∧t.2.2≤(List.count c s:Int)) (λt ⟨h1,h2,h3,h4,h5⟩=>?_) ⟨⟨KC _,λ_ h=>h⟩,by simp,λx hx=>?_,by simp,by simp⟩) λt ⟨h1,h2,h3,h4,h5⟩=>ab (dj h4 (by omega)) λi hi=>ab (db (by omega)) λx _=>?_
  ·unfold kW;refine af (λe=>?_) λ_=>ae (.inr ⟨_,rfl,h1,h2,h3,h4,h5⟩);have e:=of_decide_eq_true e
   rw[aF (by omega) (by omega)]at e
   have hl:=h1.1
   refine ab (yw (by omega)) λm ⟨m1,m2⟩=>af (λ_=>ae (.inr ⟨_,rfl,h1,h2,h3,h4,h5⟩)) λe2=>?_
   have e2:=of_decide_eq_false e2
   rw[aF (x:=m+0) (by omega) (by omega),aF (x:=m+([c].length:Int)) (by simp;omega) (by simp;omega),aF (x:=t.2.2+1) (by omega) (by omega)]
   refine ab (C2 h1 (by omega) (by omega) (by omega)) λs1 ⟨p1,_⟩=>ab (dj h4 (by omega)) λi hi=>ab (db (by omega)) λx2 _=>ab (C2 h1 (by simp;omega) (by simp;omega) (by omega)) λs2 ⟨p2,_⟩=>ae (.inl ⟨_,rfl,⟨p2,by simpa using h2,λx hx=>(SX hx).elim (h3 x) λe=>e▸p1,by dsimp only;omega,by dsimp only;omega⟩,by dsimp only;omega⟩)
  ·rw[(QeX.1 hx).2]
   exact⟨by simp,by simp⟩
  ·rw[aF (x:=t.2.2+1) (by omega) (by omega)]
   refine ab (ir (by omega) (by omega) (by rw[RJ];omega)) λp hp=>?_
   subst hp;refine ae ⟨?_,?_,λx hx=>(SX (Uu hx)).elim (h3 x) λe=>e▸h1⟩
   ·simp;omega
   ·simp;omega
section
variable{f:Js fam [.str]→Option Bool}
theorem wIx(s:List Str)(hn:s.length≤1000000)(p:Str→Bool)(hf:∀x,f (x,())=some (p x)):aX s f=some (fx p s):=Uq hn λt=>by simp[bJ,hf]
theorem ak7(s:List Str)(hn:s.length≤1000000)(p:Str→Bool)(hf:∀x,f (x,())=some (p x)):bk s f=some (s.filter λx=>!p x):=by
 unfold bk;rw[wIx s hn p hf]
 exact dlf _ hn λt=>by simp[cT,hf]
end
theorem FE{s:Str}(hs:s.length≤100000):Gv (ni s) λl=>l.length≤s.length+1∧∀x∈l,PW s x:=by
 unfold ni;refine ab (uh hs 32) λl ⟨_,h1,h2⟩=>?_
 rw[ak7 l (by omega) (λw=>w == []) λx=>rfl]
 exact ae ⟨MP (Uv _ _) h1,λx hx=>h2 x (WX.1 hx).1⟩
set_option linter.unusedVariables false
set_option linter.unusedSimpArgs false
def As(s:Str):Prop:=∀b∈s,b.toNat<128
theorem Ch{s:Str}(h:As s):T (jD s):=by
 unfold jD Sq
 rw[Oe.2 λb hb=>by simpa using h b hb,cond_true]
 exact ai _
theorem ak6{f:Js fam [.str]→Option Bool}(s:List Str)(hn:s.length≤1000000)(p:Str→Bool)(hf:∀x∈s,f (x,())=some (p x)):aX s f=some (fx p s):=Uq hn λt=>by
 unfold bJ
 cases e:idx s t with
 | none=>rfl
 | some x=>
  have:x∈s:=by
   unfold idx at e;split at e
   ·exact Rq e
   ·cases e
  simp[hf x this]
theorem CI{s:Str}(h:As s)(hl:s.length≤2000):Gv (mb s) λb=>b=true→s≠[]:=by
 unfold mb
 refine ab (uh (by omega) 46) λl ⟨h1,h2,h3⟩=>ab (dj (by omega) (by omega)) λi hi=>ab (db (by omega)) λx ⟨hx,_⟩=>af (λe=>af (λ_=>?_) λ_=>ae (by simp)) λ_=>ae (by simp)
 have hs:s≠[]:=by
  rintro rfl;have:=(h3 x hx).1
  have e:x = [114,111,111,116]:=by simpa using e
  rw[e]at this;simp at this
 unfold bO
 rw[ak6 l (by omega) (λx=>(gG x).getD false) λx hx=>by obtain⟨b,e,_⟩:=Ch (s:=x) λb hb=>h b ((h3 x hx).2 b hb);show gG x=_;unfold gG;rw[e];rfl]
 exact ae λ_=>hs
theorem D3{l:List Str}(hl:l.length≤3)(h:∀x∈l,As x):T (lO l):=by
 unfold lO
 refine ab (P:=λ_=>True) (aQ (λ(m:List Jf) i=>(m,i)) l.length (λ_=>True) (by omega) (λk hk m _=>?_) (λm _=>?_) trivial) ?_
 ·have hn:=Ch (h _ (K_ hk));unfold lJ;dsimp only;rw[ay hk,cond_true,aA hk,IY];exact aG (af (λ_=>af (λ_=>ai _) λ_=>af (λ_=>ab hn λ_ _=>ai _) λ_=>ai _) λ_=>af (λ_=>ab hn λ_ _=>ai _) λ_=>ai _) λ_=>af (λ_=>ae (.inr ⟨_,rfl,trivial⟩)) λ_=>ae (.inl ⟨_,rfl,trivial⟩)
 ·exact aw (a:=.inr (.inr m)) (by unfold lJ;dsimp only;rw[az];rfl) ⟨_,rfl,trivial⟩
 ·rintro(q | q) _
  ·exact ai _
  ·exact af (λ_=>ai _) λ_=>ai _
theorem Gm{l:List Cap}(hl:l.length≤1000):Gv (oW l) λb=>b=true→∀x∈l,x.LB≤10000∧x.Most≤10000:=by
 unfold oW nT
 have e:oF l (λa'=>jf a'.1)=some (fx (λc:Cap=>decide (c.LB<0)||(decide (c.Most>10000)||decide (c.LB>c.Most))) l):=Uq (by omega) λt=>by
  have:∀c,jf c=some (decide (c.LB<0)||(decide (c.Most>10000)||decide (c.LB>c.Most))):=λc=>by unfold jf;cases decide (c.LB<0)<;>cases decide (c.Most>10000)<;>rfl
  simp only[pw,this,IY]
 rw[e];refine ae λh x hx=>?_
 have h:¬ fx (λc:Cap=>decide (c.LB<0)||(decide (c.Most>10000)||decide (c.LB>c.Most))) l≥0:=by simpa using h
 have:=(cJ (SN.1 h)).2.2 x hx;simp only[UU,decide_eq_false_iff_not]at this;omega
def QK(c:Jc)(q:Ja):Prop:=q.Kh≠[]∧q.KZ.length=c.Je.length∧∀x∈q.KZ,x.LB≤10000∧x.Most≤10000
structure PC(c:Jc):Prop where
 l:∀x∈c.Je,As x
 q:∀q∈c.I8,As q.Kh∧q.Kh.length≤2000∧q.KZ.length≤1000
theorem CV{c:Jc}(h:PC c)(hq:c.I8.length≤16):Gv (lN c) λe=>e=0→(∀q∈c.I8,QK c q)∧c.I8.Pairwise λa b=>Op.bytesLess a.Kh b.Kh=true:=by
 unfold lN
 refine ab (P:=λr=>match r with | .inl e=>e≠0 | .inr _=>(∀q∈c.I8,QK c q)∧c.I8.Pairwise λa b=>Op.bytesLess a.Kh b.Kh=true) (aJ (λ(p:List Jf×Str) i=>(p.1,p.2,i)) c.I8.length (λk p=>(∀q∈c.I8.take k,QK c q)∧((c.I8.take k).Pairwise λa b=>Op.bytesLess a.Kh b.Kh=true)∧∀q∈c.I8.take k,q.Kh=p.2∨Op.bytesLess q.Kh p.2=true) (step:=iK c) (by omega) (λk hk p ⟨h1,h2,h3⟩=>?_) (λp ⟨h1,h2,_⟩=>?_) (s:=([],[])) ⟨by simp,by simp,by simp⟩) ?_
 ·obtain⟨a1,a2,a3⟩:=h.q _ (K_ hk);unfold iK;dsimp only;rw[ay hk,cond_true,aA hk,IY]
  refine ab (ur (by omega)) λx1 _=>ab (CI a1 a2) λx2 hx2=>af (λ_=>ae (.inr ⟨_,rfl,by simp⟩)) λe2=>ab (P:=λq=>q=false→0<k→OH c.I8[k].Kh p.2=false) (af (λ_=>ae λe _=>e) λe=>ae λ_ h0=>by have:=of_decide_eq_false e;omega) λq hq1=>af (λ_=>ae (.inr ⟨_,rfl,by simp⟩)) λeq1=>aG (af (λ_=>ai _) λ_=>ai _) λq1=>af (λ_=>ae (.inr ⟨_,rfl,by simp⟩)) λ_=>ab (P:=λq=>q=false→c.I8[k].KZ.length=c.Je.length∧∀x∈c.I8[k].KZ,x.LB≤10000∧x.Most≤10000) ?_ λq2 hq2=>af (λ_=>ae (.inr ⟨_,rfl,by simp⟩)) λe3=>ae (.inl ⟨(_,_),rfl,?_⟩)
  ·exact af (λ_=>ae (by simp)) λ_=>af (λ_=>ae (by simp)) λ_=>af (λ_=>ae (by simp)) λe=>ab (Gm a3) λb hb=>ae λe2=>⟨Int.ofNat_inj.1 (by simpa using e),hb (by simpa using e2)⟩
  ·have hlt:∀q∈c.I8.take k,Op.bytesLess q.Kh c.I8[k].Kh=true:=λq hq=>by
    have hk0:0<k:=by
     cases k with
     | zero=>simp at hq
     | succ k=>omega
    have hs:=hq1 eq1 hk0;unfold OH at hs;simp only[UU,beq_eq_false_iff_ne]at hs;have hl:=uL hs.1 hs.2;rcases h3 q hq with e | e
    ·rw[e];exact hl
    ·exact qs e hl
   have et:=Ux hk;refine⟨λq hq=>?_,?_,λq hq=>?_⟩
   ·rw[et]at hq
    exact(Mr.1 hq).elim (h1 q) λe=>by rw[I4.1 e];exact⟨hx2 (by simpa using e2),hq2 e3⟩
   ·rw[et]
    exact List.pairwise_append.2 ⟨h2,List.pairwise_singleton _ _,λa ha b hb=>by rw[I4.1 hb];exact hlt a ha⟩
   ·rw[et]at hq
    exact(Mr.1 hq).elim (λhq=>.inr (hlt q hq)) λe=>.inl (by rw[I4.1 e])
 ·refine aw (a:=.inr (.inr ())) (by unfold iK;dsimp only;rw[az];rfl) ⟨_,rfl,?_⟩
  rw[SL]at h1 h2;exact⟨h1,h2⟩
 ·rintro(e | _) hq
  ·exact ae λe=>absurd e hq
  ·exact ae λ_=>hq
theorem H8{c:Jc}(h:JC c)(hc:∀q∈c.I8,q.KZ.length=c.Je.length):T (pj c):=by
 have hq:=h.q;have hl:=h.l;unfold pj
 refine ab (gO (by omega) (by omega)) λx ⟨hx,_⟩=>ab (P:=λ_=>True) (aQ (σ:=Unit) (λ_ i=>i) x.KZ.length (λ_=>True) (by have:=hc x hx;omega) (λk hk _ _=>?_) (λ_ _=>?_) (s:=()) trivial) ?_
 ·unfold nU;rw[ay hk,cond_true,aA hk,IY];exact aG (af (λ_=>ai _) λ_=>ai _) λ_=>af (λ_=>ae (.inr ⟨_,rfl,trivial⟩)) λ_=>ae (.inl ⟨(),rfl,trivial⟩)
 ·exact aw (a:=.inr (.inr ())) (by unfold nU;rw[az];rfl) ⟨_,rfl,trivial⟩
 ·rintro(q | _) _
  ·exact ai _
  ·refine ab (P:=λ_=>True) (aQ (σ:=Unit) (λ_ i=>i) c.I8.length (λ_=>True) (by omega) (λk hk _ _=>?_) (λ_ _=>?_) (s:=()) trivial) ?_
   ·unfold ol;rw[ay hk,cond_true,aA hk,IY]
    refine ab (sI h _) λks hks=>ab (P:=λ_=>True) (aQ (σ:=Unit) (λ_ i=>i) c.Je.length (λ_=>True) (by omega) (λi hi _ _=>?_) (λ_ _=>?_) (s:=()) trivial) ?_
    ·have hkl:=(xZ h hks).1;unfold oS;rw[ay hi,cond_true]
     refine ab (P:=λ_=>True) (aQ (λ(m:Int) i=>(m,i)) ks.length (λ_=>True) (by omega) (λj hj m _=>?_) (λm _=>?_) trivial) λm _=>aG (af (λ_=>ai _) λ_=>ai _) λ_=>af (λ_=>ae (.inr ⟨_,rfl,trivial⟩)) λ_=>ae (.inl ⟨(),rfl,trivial⟩)
     ·obtain⟨q,hq,eq⟩:=Oz.1 (hks.mem (K_ hj));unfold oz;dsimp only;rw[ay hj,cond_true,aH hj,IY,IZ hj,IY,oj h,IY]
      cases e:Zp c ks[j]with
      | none=>have:=QdT.1 e q hq;simp[eq]at this
      | some y=>
       have:=hc y (vV e).1;dsimp only[Option.elim]
       exact ab (dj (by omega) (by omega)) λi1 hi1=>ab (db (by omega)) λ_ _=>ae (.inl ⟨_,rfl,trivial⟩)
     ·exact aw (a:=.inr m) (by unfold oz;dsimp only;rw[az];rfl) ⟨_,rfl,trivial⟩
    ·exact aw (a:=.inr (.inr ())) (by unfold oS;rw[az];rfl) ⟨_,rfl,trivial⟩
    ·rintro(q | _) _
     ·exact ae (.inr ⟨_,rfl,trivial⟩)
     ·exact ae (.inl ⟨(),rfl,trivial⟩)
   ·exact aw (a:=.inr (.inr ())) (by unfold ol;rw[az];rfl) ⟨_,rfl,trivial⟩
   ·rintro(q | _) _<;>exact ai _
theorem DI{c:Jc}(h:PC c):Gv (jX c) λe=>e=0→JC c:=by
 unfold jX
 refine ab (P:=λq=>q=false→(1≤c.Je.length∧c.Je.length≤3)∧c.I8.length≤16) (af (λ_=>ae (by simp)) λh0=>af (λ_=>ae (by simp)) λh1=>ae λh2=>?_) λq hq=>af (λ_=>ae (by omega)) λe=>?_
 ·have h0:(c.Je.length:Int)≠0:=by simpa using h0
  have h1:=of_decide_eq_false h1;have h2:=of_decide_eq_false h2;omega
 ·obtain⟨l1,l2⟩:=hq e
  refine ab (D3 l1.2 h.l) λe _=>af (λe=>ae λe2=>by subst e2;simp at e) λ_=>ab (P:=λq=>q=false→1≤c.I8.length) (af (λ_=>ae (by simp)) λh0=>?_) λq hq=>af (λ_=>ae (by omega)) λe=>ab (CV h l2) λe1 h1=>af (λe=>ae λe2=>by subst e2;simp at e) λe2=>?_
  ·have h0:(c.I8.length:Int)≠0:=by simpa using h0
   exact ab (gO (by omega) (by omega)) λ_ _=>ae λ_=>by omega
  ·obtain⟨k1,k2⟩:=h1 (by simpa using e2)
   have hj:JC c:=⟨l1,⟨hq e,l2⟩,List.pairwise_map.2 (k2.imp λ{a b} h e=>by rw[e,ph]at h;cases h),λq hq=>⟨by have:=(k1 q hq).2.1;omega,⟨(h.q q hq).2.1,(k1 q hq).1⟩,(k1 q hq).2.2⟩⟩
   exact ab (H8 hj λq hq=>(k1 q hq).2.1) λ_ _=>ae λ_=>hj
theorem bs{α : Type}(m:Option α):(m.bind λx=>some x)=m:=by cases m<;>rfl
theorem OZ:∀{l:List UInt8}{n:Nat},l.all Ol=true→∃m,Lib.decFrom n l=some m
 | [],n,_=>⟨n,rfl⟩
 | b::l,n,h=>by
  simp only[TB,KV]at h
  have hb:48≤b.toNat∧b.toNat≤57:=by simpa[Ol]using h.1
  unfold Lib.decFrom Lib.digitVal;rw[if_pos hb];exact OZ h.2
theorem uo(s:Str):T (gR s):=by
 unfold gR Vl;refine af (λh=>?_) λ_=>ai _
 cases s with
 | nil=>cases h
 | cons b r=>
  simp only[isNum,KV]at h
  have hb:48≤b.toNat∧b.toNat≤57:=by simpa[Ol]using h.1.2
  obtain⟨m,e⟩:=OZ (l:=b::r) (n:=0) (by rw[TB,h.1.2,h.2];rfl)
  have h1:(b == 45)=false:=by rw[beq_eq_false_iff_ne];rintro rfl;exact absurd hb.1 (by decide)
  have h2:(b == 43)=false:=by rw[beq_eq_false_iff_ne];rintro rfl;exact absurd hb.1 (by decide)
  unfold Lib.atoi Lib.decNat;dsimp only
  rw[if_neg (by simp[h1]),if_neg (by simp[h2]),if_neg (by simp),e]
  exact ai _
theorem Gw{w:Str}(hw:w.length≤1000000):T (nr w):=by
 have hI:=yw (c:=47) hw;unfold gH at hI;rw[bs]at hI;unfold nr pF kD;refine ab (P:=λ_=>True) (ab (P:=λ_=>True) (ab hI λi ⟨h1,h2⟩=>af (λe=>?_) λ_=>ai _) λ_ _=>ai _) λx _=>ab (uo _) λ_ _=>ab (uo _) λ_ _=>af (λ_=>af (λ_=>ai _) λ_=>ai _) λ_=>ai _;have e:=of_decide_eq_true e
 rw[aF (x:=i+(([47]:Str).length:Int)) (by simp;omega) (by simp;omega)]
 exact ab (uR (by omega) (by omega) (by omega)) λ_ _=>ab (uR (by simp;omega) (by simp;omega) (by omega)) λ_ _=>ai _
structure RK(s:Str)(r:Reader):Prop where
 ll:r.c.Je.length≤3
 l:∀x∈r.c.Je,PW s x
 ql:r.c.I8.length≤16
 q:∀q∈r.c.I8,PW s q.Kh∧q.KZ.length≤1000
section
variable{s:Str}(hs:s.length≤2000){r:Reader}(h:RK s r){w:List Str}(hl:w.length≤2001)(hw:∀x∈w,PW s x)
include hs h hl hw
omit hl in
theorem EF:Gv (fM r w) λq=>RK s q.2:=by
 have h3:=h.ll;unfold fM;refine af (λ_=>ae h) λe1=>af (λ_=>ae h) λe2=>?_;have e1:=of_decide_eq_false e1
 have e2:(w.length:Int)=Jd (3+(r.c.Je.length:Int)):=by simpa using e2
 rw[aF (by omega) (by omega)]at e2
 refine ab (gO (by omega) (by omega)) λx _=>ab (uo x) λx1 _=>ab (gO (by omega) (by omega)) λx2 ⟨hx2,_⟩=>ab (qh (by omega) (by omega) (by omega)) λl ⟨l1,l2⟩=>ab (aJ (λ(p:Bool×Ja) i=>(p.1,p.2,i)) l.length (λk p=>p.2.Kh=x2∧p.2.KZ.length≤k) (step:=dW l) (Q:=λp=>p.2.Kh=x2∧p.2.KZ.length≤1000) (by omega) (λk hk p ⟨p1,p2⟩=>?_) (λp ⟨p1,p2⟩=>?_) (s:=(x1.2,_)) ⟨rfl,by simp⟩) λq ⟨q1,q2⟩=>af (λ_=>ae h) λ_=>?_
 ·have:=(hw _ (l2 _ (K_ hk))).1;unfold dW;dsimp only;rw[ay hk,cond_true,aA hk,IY]
  refine ab (Gw (by omega)) λx4 _=>aG (af (λ_=>ai _) λ_=>ai _) λok=>?_
  rw[bi (by simp;omega) (by omega),IY]
  exact ae (.inl ⟨(_,_),rfl,p1,by simp;omega⟩)
 ·exact aw (a:=.inr (p.1,p.2)) (by unfold dW;dsimp only;rw[az];rfl) ⟨_,rfl,p1,by dsimp only;omega⟩
 ·rw[bi (by simp;omega) (by omega),IY]
  exact ae ⟨h3,h.l,by simp;omega,λq hq=>(Mr.1 hq).elim (h.q q) λe=>by rw[I4.1 e,q1];exact⟨hw _ hx2,q2⟩⟩
theorem GJ:Gv (gA r w) λq=>RK s q.2:=by
 unfold gA;refine af (λ_=>ae h) λe0=>?_
 have e0:(w.length:Int)≠0:=by simpa using e0
 refine aG (af (λ_=>ab (gO (by omega) (by omega)) λ_ _=>ai _) λ_=>ai _) λ_=>af (λ_=>af (λ_=>ae ⟨h.ll,h.l,h.ql,h.q⟩) λe1=>?_) λ_=>aG (af (λ_=>ai _) λ_=>ab (gO (by omega) (by omega)) λ_ _=>ai _) λ_=>af (λ_=>ae h) λ_=>ab (EF hs h hw) λq hq=>ae hq
 have e1:=of_decide_eq_false e1
 rw[j7 (by omega) (by omega),IY]
 refine ab (ir (by omega) (by simp;omega) (by omega)) λp hp=>ab (qh (by omega) (by omega) (by omega)) λl1 ⟨m1,m2⟩=>?_
 subst hp;refine ae ⟨?_,λx hx=>?_,h.ql,h.q⟩
 ·show(LP _ _ _ _).length≤3
  rw[aaw (by simp;omega)]
  simp;omega
 ·have hx:x∈LP (List.replicate w.length ([]:Str)) (1:Int).toNat (((List.replicate w.length ([]:Str)).length:Int).toNat - (1:Int).toNat) l1:=hx;unfold LP at hx;simp only[Mr]at hx
  have h0:∀x∈List.replicate w.length ([]:Str),PW s x:=λx hx=>by rw[(QeX.1 hx).2];exact⟨by simp,by simp⟩
  rcases hx with(hx | hx) | hx
  ·exact h0 x (Uu hx)
  ·exact hw x (m2 x (Uu hx))
  ·exact h0 x (XJ hx)
end
theorem Im{l:List Ja}(hl:l.length≤16){f:Js fam [.st 2,.st 2]→Option Int}(hf:∀x y,T (f (x,y,()))):Gv (iJ l f) (SM l):=by
 unfold iJ lG
 rw[cR,show iT (l.length:Int) f (l,0,20)=some (.inr (l,0))by unfold iT;dsimp only;rw[decide_eq_false (by omega)];rfl]
 dsimp only;rw[IY];refine ab (ab (P:=SM l) ?_ λr hr=>?_) λ_ h=>ae h
 ·unfold iC
  exact ab (ab5 (s:=l) (φ:=λx y=>f (x,y,())) hf (by omega) (λt=>rfl) λt=>rfl) λr hr=>ae hr
 ·rw[cR,show iS (l.length:Int) f (r,20)=some (.inr r)by unfold iS;dsimp only;rw[decide_eq_false (by omega)];rfl]
  exact ae hr
theorem FK{s:Str}(ha:As s):Gv (nB s) λr=>r.2=0→PC r.1:=by
 unfold nB
 refine af (λ_=>ae (by simp)) λe=>?_
 have hs:s.length≤2000:=by have:=of_decide_eq_false e;omega
 refine ab (uh (by omega) 10) λx ⟨_,x1,x2⟩=>ab (P:=λr=>match r with | .inl q=>q.2≠0 | .inr q=>RK s q.2) (aQ (λ(p:Jc×Reader) i=>(p.1,p.2,i)) x.length (λp=>RK s p.2) (step:=js x) (by omega) (λk hk p hp=>?_) (λp hp=>?_) (s:=(_,_)) ⟨by simp,by simp,by simp,by simp⟩) ?_
 ·have hx:=x2 _ (K_ hk);have:=hx.1;unfold js;dsimp only;rw[ay hk,cond_true,aH hk,IY,IZ hk,IY]
  refine ab (FE (by omega)) λw ⟨w1,w2⟩=>ab (GJ hs hp (by omega) λy hy=>⟨MP (w2 y hy).1 hx.1,λb hb=>hx.2 b ((w2 y hy).2 b hb)⟩) λe he=>af (λe=>ae (.inr ⟨_,rfl,by simpa using e⟩)) λ_=>ae (.inl ⟨(_,_),rfl,he⟩)
 ·exact aw (a:=.inr (.inr (p.1,p.2))) (by unfold js;dsimp only;rw[az];rfl) ⟨_,rfl,hp⟩
 ·rintro(q | ⟨c,r⟩) hq
  ·exact ae λe=>absurd e hq
  ·have hr:RK s r:=hq
   refine af (λ_=>ae (by simp)) λ_=>ab (Im hr.ql λx y=>?_) λl ⟨l1,l2⟩=>ab (P:=λr=>match r with | .inl q=>q.2≠0 | .inr _=>True) (aQ (λ(p:Jc) i=>(p,i)) l.length (λ_=>True) (step:=jr l) (by have:=hr.ql;omega) (λk hk p _=>?_) (λp _=>?_) trivial) ?_
   ·unfold nM;rw[uj];exact ai _
   ·unfold jr;dsimp only;rw[ay hk,cond_true]
    refine aG (af (λe=>?_) λ_=>ai _) λ_=>af (λ_=>ae (.inr ⟨_,rfl,by simp⟩)) λ_=>ae (.inl ⟨_,rfl,trivial⟩)
    have e:=of_decide_eq_true e;have:=hr.ql
    rw[aF (x:=(k:Int) - 1) (by omega) (by omega)]
    exact ab (dj (by omega) (by omega)) λi hi=>ab (db (by omega)) λ_ _=>ab (dj (by omega) (by omega)) λj hj=>ab (db (by omega)) λ_ _=>ai _
   ·exact aw (a:=.inr (.inr p)) (by unfold jr;dsimp only;rw[az];rfl) ⟨_,rfl,trivial⟩
   ·rintro(q | q) hq
    ·exact ae λe=>absurd e hq
    ·exact ae λ_=>⟨λx hx b hb=>ha b ((hr.l x hx).2 b hb),λq hq=>by have:=hr.q q (l2 q hq);exact⟨λb hb=>ha b (this.1.2 b hb),MP this.1.1 hs,this.2⟩⟩
theorem zK{N:Nat}{t:Step}(h:J N t.s)(ht:As t.x.Text):Gv (cU t) (OS λs=>J N s∧Sub t.s s):=by
 unfold cU
 refine ab (FK ht) λx hx=>ab (P:=λe=>e=0→JC x.1) (af (λe=>ab (DI (hx (by simpa using e))) λe he=>ae he) λe=>ae λe2=>by rw[e2]at e;simp at e) λe1 he=>af (λe=>ae (.inl (by simpa using e))) λe=>?_
 have hc:=he (by simpa using e)
 have hl:=h.c.l;have hl2:=hc.l;have ha:=h.a
 refine aG (af (λ_=>ai _) λe=>?_) λ_=>af (λ_=>fb (by omega) t) λ_=>ab (P:=λr=>match r with | .inl o=>o.Err≠0 | .inr _=>True) (aQ (λ(o:Output) i=>(o,i)) t.s.I9.length (λ_=>True) (step:=cm t x) (by omega) (λk hk o _=>?_) (λo _=>?_) trivial) ?_
 ·have e:=of_decide_eq_false e
  refine ab (ir (by omega) (by omega) (by omega)) λp hp=>ab (P:=λ_=>True) ?_ λ_ _=>ai _
  unfold cK
  refine af (λ_=>ai _) λe2=>ab (P:=λ_=>True) (aQ (σ:=Unit) (λ_ i=>i) t.s.Jc.Je.length (λ_=>True) (by omega) (λk hk _ _=>?_) (λ_ _=>?_) (s:=()) trivial) ?_
  ·have e2:(t.s.Jc.Je.length:Int)=(sub x.1.Je p.1 p.2).length:=by simpa using e2
   unfold ce;rw[ay hk,cond_true,aA hk,IY]
   exact ab (gO (by omega) (by omega)) λ_ _=>af (λ_=>ae (.inr ⟨_,rfl,trivial⟩)) λ_=>ae (.inl ⟨(),rfl,trivial⟩)
  ·exact aw (a:=.inr (.inr ())) (by unfold ce;rw[az];rfl) ⟨_,rfl,trivial⟩
  ·rintro(q | _) _<;>exact ai _
 ·unfold cm;dsimp only;rw[ay hk,cond_true,aA hk,IY,iI,IY]
  exact aG (af (λ_=>ab (AY hc _) λ_ _=>ai _) λ_=>ai _) λ_=>af (λ_=>ae (.inr ⟨_,rfl,by simp⟩)) λ_=>ae (.inl ⟨_,rfl,trivial⟩)
 ·exact aw (a:=.inr (.inr o)) (by unfold cm;dsimp only;rw[az];rfl) ⟨_,rfl,trivial⟩
 ·rintro(o | o) hq
  ·exact ae (.inl hq)
  ·exact ae (.inr ⟨⟨hc,h.n,h.a,h.ad,h.ak,h.k,h.kk,h.l,h.p,h.e,h.b,h.nk⟩,Sub.of rfl⟩)
set_option linter.unusedVariables false
set_option linter.unusedSimpArgs false
theorem Ho{I1 I2:Gp→Prop}{N:Nat}{t:Step}(hL:∀{M:Nat}{s t:Gp},J M s→I1 s→LS s t→I1 t)(hNd:∀{s:Gp}{l},I1 s→I1 { s with Jh:=l })(h12:∀s,I1 s→I2 s)
  (hM:∀{M:Nat}{s t:Gp},J M s→I2 s→MS s t→I2 t) (hH:∀{M:Nat}{s t:Gp},J M s→I2 s→HS s t→I2 t) (hG:∀{M:Nat}{s u:Gp},J M s→I2 s→GS t.x.Id s u→I2 u)
  (h:J N t.s) (hi:I1 t.s) (hN:N≤400000) (Lv:t.x.Ids.length≤200):Gv (fN t) (OS λs=>J (N+208) s∧I2 s):=by
 have hn:=h.n;unfold fN
 rw[uv (by omega),IY]
 refine aG (af (λ_=>af (λ_=>ai _) λ_=>ai _) λ_=>ai _) λ_=>af (λ_=>ab (xG h _) λ_ _=>ae (.inr ⟨h.mono (by omega) (by omega),h12 _ hi⟩)) λ_=>ab (Fl h _ _) λr ⟨r1,r2⟩=>af (λe=>fb (by simpa using e) t) λe=>?_
 obtain⟨e1,l,e2,_⟩:=r2 (by simpa using e)
 obtain⟨n,e3⟩:=QeZ.1 e1
 have hid:n.Id=t.x.Id:=by unfold Xz at e3;simpa using QeN e3
 rw[e3];dsimp only[Option.elim];refine ab (xG h _) λhere hh=>?_;unfold bS
 rw[bh (by omega) (by omega),IY]
 have hc:∀x,eL x here=some (!decide (0≤fx (λy=>x == y) here)):=λx=>by
  unfold eL dD
  rw[Cp (by omega)];rfl
 rw[ab7 t.x.Ids (by omega) (λx=>!decide (0≤fx (λy=>x == y) here)) hc,IY]
 have hf:=Uv (λx=>!!decide (0≤fx (λy=>x == y) here)) t.x.Ids
 refine ab (ta r1 I1 hL (by rw[e2];exact hNd hi) (by omega)) λu ⟨u1,u2⟩=>ab (ER (n:=n.Id) hM hH (by rw[hid];exact hG) (by omega) u1 (h12 _ u2)) λv ⟨v1,v2⟩=>ab (xG (t:=⟨v.1,t.x⟩) v1 _) λ_ _=>ae (.inr ⟨v1.mono (by omega) (by omega),v2⟩)
structure IK(x:Input):Prop where
 i:x.Ids.length≤200
 a:x.Jy.length≤1000
 t:As x.Text
theorem HG{I1 I2:Gp→Prop}{N:Nat}{s:Gp}{x:Input}(hL:∀{M:Nat}{s t:Gp},J M s→I1 s→LS s t→I1 t)(hNd:∀{s:Gp}{l},I1 s→I1 { s with Jh:=l })(h12:∀s,I1 s→I2 s)
  (hM:∀{M:Nat}{s t:Gp},J M s→I2 s→MS s t→I2 t) (hH:∀{M:Nat}{s t:Gp},J M s→I2 s→HS s t→I2 t) (hG:∀{M:Nat}{s u:Gp},J M s→I2 s→GS x.Id s u→I2 u)
  (h:J N s) (hi:I1 s) (hN:N≤400000) (hx:IK x):Gv (ga s x) λr=>J (N+6200) r.1∧(x.Kind=3→I2 r.1)∧(x.Kind≠3→Sub s r.1):=by
 have up:∀{M:Nat}{u:Gp},J M u→M≤N+6200→J (N+6200) u:=λh hm=>h.mono hm (by omega)
 unfold ga;rw[il h,IY]
 refine ab (P:=λr=>OS (λu=>J (N+6200) u∧(x.Kind=3→I2 u)∧(x.Kind≠3→Sub s u)) r) ?_ λr hr=>af (λ_=>ae ⟨up h (by omega),λ_=>h12 _ hi,λ_=>Sub.of rfl⟩) λe=>?_
 ·have ne:∀{k:Int}{u:Gp},(x.Kind == k)=true→k≠3→J (N+6200) u→Sub s u→J (N+6200) u∧(x.Kind=3→I2 u)∧(x.Kind≠3→Sub s u):=λe hk hj hs=>⟨hj,λe2=>absurd ((beq_iff_eq.1 e).symm.trans e2) hk,λ_=>hs⟩;have lift:∀{k:Int}{M:Nat}{m:Option (Output×Step)},(x.Kind == k)=true→k≠3→M≤N+6200→Gv m (OS λu=>J M u∧Sub s u)→Gv (m.bind λy=>some (y.1,y.2)) (OS λu=>J (N+6200) u∧(x.Kind=3→I2 u)∧(x.Kind≠3→Sub s u)):=λe hk hm g=>ab g λr hr=>ae (hr.imp_right λ⟨a,b⟩=>ne e hk (up a hm) b)
  have plain:∀{k:Int}{t:Step}{u:Gp}{e:Int},(x.Kind == k)=true→k≠3→J N u∧u.I6=s.I6→Gv ((de t u e).bind λy=>some (y.1,y.2)) (OS λu=>J (N+6200) u∧(x.Kind=3→I2 u)∧(x.Kind≠3→Sub s u)):=λe hk hu=>lift e hk (show N≤N+6200 by omega) (af (λe=>ae (.inl (by simpa using e))) λ_=>ae (.inr ⟨hu.1,Sub.of hu.2⟩))
  unfold kL
  refine af (λe=>lift e (by omega) (show N≤N+6200 by omega) (zK h hx.t)) λ_=>af (λe=>ab (Ag h _) λr hr=>plain e (by omega) hr) λ_=>af (λe=>?_) λ_=>af (λe=>ab (CK h _) λr hr=>plain e (by omega) hr) λ_=>af (λe=>lift e (by omega) (show N≤N+6200 by omega) (Dx h hN (by have:=hx.i;dsimp only;omega) (by have:=hx.a;dsimp only;omega))) λ_=>af (λe=>lift e (by omega) (show N≤N+6200 by omega) (A9 h _)) λ_=>af (λe=>lift e (by omega) (show N≤N+6200 by omega) (A9 h _)) λ_=>af (λe=>lift e (by omega) (KC _) (HY h hN)) λ_=>af (λe=>lift e (by omega) (show N≤N+6200 by omega) ?_) λ_=>af (λe=>ab (HJ h _) λr hr=>plain e (by omega) hr) λ_=>af (λe=>lift e (by omega) (show N≤N+6200 by omega) ?_) λ_=>ae (.inl (by simp))
  ·have e:x.Kind=3:=by simpa using e
   exact ab (Ho hL hNd h12 hM hH hG h hi hN hx.i) λr hr=>ae (hr.imp_right λ⟨a,b⟩=>⟨up a (by omega),λ_=>b,λe2=>absurd e e2⟩)
  ·unfold fZ
   exact ab (Gh h _ _) λr hr=>af (λe=>fb (by simpa using e) _) λ_=>ae (.inr ⟨hr.1,Sub.of hr.2⟩)
  ·unfold ic
   refine af (λ_=>fb (by omega) _) λe=>ae (.inr ⟨⟨h.c,h.n,h.a,h.ad,h.ak,h.k,λc hc=>?_,h.l,h.p,?_,h.b,h.nk⟩,Sub.of rfl⟩)
   ·obtain⟨⟨k1,k2⟩,k3⟩:=h.kk c hc;have⟨⟨p1,p2⟩,p3,p4⟩:=h.e;have e:=of_decide_eq_false e;refine⟨⟨k1,?_⟩,k3⟩;dsimp only at e ⊢
    rw[aF (x:=s.Jz+1) (by omega) (by omega)]
    omega
   ·have⟨⟨p1,p2⟩,p3,p4⟩:=h.e;have e:=of_decide_eq_false e;dsimp only at e ⊢
    rw[aF (x:=s.Jz+1) (by omega) (by omega)]
    omega
 ·have hr:=hr.resolve_left (by simpa using e)
  rw[il hr.1,IY];exact ae hr
def mx(s:Gp):Int:=s.Jz*1048576+s.Seq
def nw(m:Int)(cs:List Cont)(i:Int):Int:=((cs.filter λc=>decide (m<c.Id)&&(c.App == i&&!c.Jb)).length:Int)
structure RA(s0:Gp)(cs:List Cont)(a0 a:App):Prop where
 id:a.Id=a0.Id
 ms:a.Jb=a0.Jb
 ky:∀x∈a.Jy,(∃y∈a0.Jy,ky y=ky x)∨(ky x=(0,0,a0.Jb)∧a.Gp=1)
 ct:((∃m∈s0.I6,m.App=a0.Id∧m.Jb=true)∧∀c∈cs,c.App=a0.Id→mx s0<c.Id)∨(a0.Gp=2→a.Gp=2∧cnt a.Jy+nw (mx s0) cs a0.Id=cnt a0.Jy)
def NC(n:Int)(s0:Gp)(c:Cont):Prop:=mx s0<c.Id∧c.Node=n∧∃a0∈s0.I9,a0.Id=c.App∧((∃y∈a0.Jy,ky y=(c.J6,c.Ji,c.Ku))∨(c.Jb=true∧(c.J6,c.Ji,c.Ku)=(0,0,a0.Jb)))
structure W2(n:Int)(s0 s:Gp):Prop where
 e:s.Jz=s0.Jz∧s0.Seq≤s.Seq
 l:s.I9.length=s0.I9.length
 a:∀i (h0:i<s0.I9.length) (h:i<s.I9.length),RA s0 s.I6 s0.I9[i] s.I9[i]
 c:∀c∈s.I6,c∈s0.I6∨NC n s0 c
def W1(n:Int)(s0 s:Gp):Prop:=W2 n s0 s∧∀c∈s.I6,c∈s0.I6
theorem Dm{m:Int}{cs:List Cont}{i:Int}(h:∀c∈cs,c.Id≤m):nw m cs i=0:=by
 unfold nw
 rw[QfF.2 λc hc=>by have:=h c hc;simp;omega]
 rfl
theorem Cf{m:Int}{cs:List Cont}{i:Int}{k:Nat}{c:Cont}(h:m<c.Id):nw m (cs.take k++[c]++cs.drop k) i=nw m cs i+if c.App=i∧c.Jb=false then 1 else 0:=by
 unfold nw
 conv=>rhs;rw[← Uw k cs]
 simp only[XH,I3,WH,List.filter_nil]
 by_cases h2:c.App=i<;>cases h3:c.Jb<;>simp[h,h2]<;>omega
theorem Ir{l m:List Ask}(e:l.map kc=m.map kc):cnt l=cnt m:=by have:=congrArg (λl:List ((Int×Int×Vec)×Int)=>(l.map (·.2)).sum) e;simpa[cnt,List.map_map,Function.comp_def,kc]using this
section
variable{n:Int}{s0:Gp}{N0:Nat}(h0:J N0 s0)
include h0
theorem W1.refl:W1 n s0 s0:=⟨⟨⟨rfl,Int.le_refl _⟩,rfl,λi h1 h2=>⟨rfl,rfl,λx hx=>.inl ⟨x,hx,rfl⟩,.inr λhs=>⟨hs,by rw[Dm (m:=mx s0) λc hc=>(h0.kk c hc).1.2];omega⟩⟩,λc hc=>.inl hc⟩,λc hc=>hc⟩
theorem W1.ls{M:Nat}{s t:Gp}(h:J M s)(w:W1 n s0 s)(g:LS s t):W1 n s0 t:=by
 have old:∀{cs:List Cont},(∀c∈cs,c∈s0.I6)→∀i,nw (mx s0) cs i=0:=λhc i=>Dm λc hm=>(h0.kk c (hc c hm)).1.2;obtain⟨w,hc⟩:=w
 have keep:∀{cs:List Cont}{a0 a b:App},(∀c∈cs,c∈s.I6)→RA s0 s.I6 a0 a→b.Id=a.Id→b.Jb=a.Jb→b.Jy=a.Jy→b.Gp=a.Gp→RA s0 cs a0 b:=λhcs r e1 e2 e3 e4=>⟨e1.trans r.id,e2.trans r.ms,by rw[e3,e4];exact r.ky,r.ct.imp (λ⟨p,q⟩=>⟨p,λc hc=>q c (hcs c hc)⟩) λq hs=>by
  rw[e3,e4,old λc hm=>hc c (hcs c hm)];have:=q hs
  rwa [old hc]at this⟩
 rcases g with rfl | ⟨i,hi,j,hj,hid,⟨hm,rfl⟩ | ⟨_,g,q,_,_,rfl⟩⟩
 ·exact⟨w,hc⟩
 ·have hs:∀c∈(Oh { s with I9:=s.I9.set j (Uo s s.I9[j]) } s.I6[i].App).I6,c∈s.I6:=λc hc=>(WX.1 hc).1
  refine⟨⟨w.e,by simpa[Oh]using w.l,λk h0 h=>?_,λc hc2=>w.c c (hs c hc2)⟩,λc hc2=>hc c (hs c hc2)⟩
  have hk:k<s.I9.length:=by simpa[Oh]using h
  have r:=w.a k h0 hk;by_cases e:j=k
  ·subst e
   have e5:(Oh { s with I9:=s.I9.set j (Uo s s.I9[j]) } s.I6[i].App).I9[j]=Uo s s.I9[j]:=by simp[Oh]
   rw[e5]
   refine⟨r.id,r.ms,λx hx=>?_,.inl ⟨⟨_,hc _ (K_ hi),by rw[← hid,r.id],hm⟩,λc hc e=>?_⟩⟩
   ·rw[I4.1 hx]
    exact .inr ⟨by rw[← r.ms];rfl,rfl⟩
   ·have:=(WX.1 hc).2;rw[← r.id,hid]at e;simp[e]at this
  ·have e5:(Oh { s with I9:=s.I9.set j (Uo s s.I9[j]) } s.I6[i].App).I9[k]=s.I9[k]:=by simp[Oh,QdN e]
   rw[e5];exact keep hs r rfl rfl rfl rfl
 ·have hs:∀c∈s.I6.take i++s.I6.drop (i+1),c∈s.I6:=λc hc=>(sU _ i).mem hc
  refine⟨⟨w.e,by simpa using w.l,λk h0 h=>?_,λc hc2=>w.c c (hs c hc2)⟩,λc hc2=>hc c (hs c hc2)⟩
  have hk:k<s.I9.length:=by simpa using h
  have r:=w.a k h0 hk;by_cases e:j=k
  ·subst e;simp only[QdU];exact keep hs r rfl rfl rfl rfl
  ·simp only[QdN e];exact keep hs r rfl rfl rfl rfl
omit h0 in
theorem W1.nd{s:Gp}{l:List Node}(w:W1 n s0 s):W1 n s0 { s with Jh:=l }:=⟨⟨w.1.e,w.1.l,w.1.a,w.1.c⟩,w.2⟩
omit h0 in
theorem W2.hs{s t:Gp}(w:W2 n s0 s)(g:HS s t):W2 n s0 t:=by obtain⟨l,_,rfl⟩:=g;exact⟨w.e,w.l,w.a,w.c⟩
omit h0 in
theorem W2.ms{s t:Gp}(w:W2 n s0 s)(g:MS s t):W2 n s0 t:=by
 obtain⟨j,hj,l,e,rfl⟩:=g
 refine⟨w.e,by simpa using w.l,λk h0 h=>?_,w.c⟩
 have hk:k<s.I9.length:=by simpa using h
 have r:=w.a k h0 hk;by_cases e2:j=k
 ·subst e2;simp only[QdU]
  refine⟨r.id,r.ms,λx hx=>?_,r.ct.imp id λq hs=>⟨(q hs).1,by rw[Ir e];exact(q hs).2⟩⟩
  have:kc x∈s.I9[j].Jy.map kc:=e▸ZE hx;obtain⟨y,hy,e3⟩:=Oz.1 this;have e3:ky y=ky x:=(Prod.mk.inj e3).1;rw[← e3];exact r.ky y hy
 ·simp only[QdN e2];exact r
omit h0 in
theorem W2.gs{M:Nat}{s t:Gp}(h:J M s)(w:W2 n s0 s)(g:GS n s t):W2 n s0 t:=by
 obtain⟨j,hj,x,b,c,i,hx,hv,g,e1,e2,e3,e4,e5,rfl⟩:=g
 have hm:mx s0<c.Id:=by have:=w.e;unfold mx;rw[e1,this.1];omega
 have hj0:j<s0.I9.length:=by rw[← w.l];exact hj
 have rj:=w.a j hj0 hj
 refine⟨⟨w.e.1,by have:=w.e.2;dsimp only;omega⟩,by simpa using w.l,λk h0k hk'=>?_,λd hd=>?_⟩
 ·have hk:k<s.I9.length:=by simpa using hk'
  have r:=w.a k h0k hk;have left:(∀d∈s.I6,d.App=s0.I9[k].Id→mx s0<d.Id)→∀d∈s.I6.take i++[c]++s.I6.drop i,d.App=s0.I9[k].Id→mx s0<d.Id:=λq d hd e=>(nJ hd).elim (λhd=>q d hd e) λe=>e▸hm;by_cases e6:j=k
  ·subst e6;simp only[QdU]
   have hb:b.Id=s.I9[j].Id∧b.Jb=s.I9[j].Jb:=by rcases g with⟨_,rfl⟩ | ⟨_,l,_,_,_,rfl⟩<;>exact⟨rfl,rfl⟩
   refine⟨hb.1.trans r.id,hb.2.trans r.ms,λy hy=>?_,r.ct.imp (λ⟨p,q⟩=>⟨p,left q⟩) λq hs=>?_⟩
   ·rcases g with⟨_,rfl⟩ | ⟨g1,l,_,_,g2,rfl⟩
    ·cases hy
    ·obtain⟨z,hz,e7⟩:=g2 y hy;rw[← e7];exact .inl ((r.ky z hz).resolve_right λh=>g1 h.2)
   ·obtain⟨q1,q2⟩:=q hs;rcases g with⟨g1,_⟩ | ⟨g1,l,_,g3,_,rfl⟩
    ·omega
    ·refine⟨q1,?_⟩
     rw[Cf hm,if_pos ⟨by rw[e2,r.id],by rw[e5,beq_eq_false_iff_ne];exact g1⟩]
     dsimp only;omega
  ·simp only[QdN e6];refine⟨r.id,r.ms,r.ky,r.ct.imp (λ⟨p,q⟩=>⟨p,left q⟩) λq hs=>?_⟩;rw[Cf hm,if_neg,Int.add_zero]
   ·exact q hs
   ·rintro⟨e7,_⟩;rw[e2,← r.id]at e7
    exact e6 ((ZA h.ad (h₀:=by simpa using hj) (h₁:=by simpa using hk)).1 (by simpa using e7))
 ·rcases nJ hd with hd | rfl
  ·exact w.c d hd
  ·refine .inr ⟨hm,e3,s0.I9[j],K_ hj0,by rw[e2,rj.id],?_⟩
   rw[e4]
   exact(rj.ky x hx).imp id λ⟨p,q⟩=>⟨by rw[e5,q];rfl,p⟩
theorem Ii{N:Nat}{x:Input}(h:J N s0)(hN:N≤400000)(hx:IK x):Gv (ga s0 x) λr=>J (N+6200) r.1∧(x.Kind=3→W2 x.Id s0 r.1)∧(x.Kind≠3→Sub s0 r.1):=
 HG (I1:=W1 x.Id s0) (I2:=W2 x.Id s0) (λh w g=>W1.ls h0 h w g) (λw=>w.nd) (λ_ w=>w.1) (λ_ w g=>w.ms g) (λ_ w g=>w.hs g) (λh w g=>w.gs h g) h (W1.refl h0) hN hx
end
set_option linter.unusedVariables false
set_option linter.unusedSimpArgs false
theorem fE(a:Int){n:Int}(h0:0<n)(h1:n≤1000000000000):Gv (aU a n) λk=>0≤k∧k<n:=by
 have h2:=Int.lt_tmod_of_pos a h0;have h3:=Int.tmod_lt_of_pos a h0;unfold aU
 rw[A0 (by omega),IY]
 refine ab (P:=λk=>0≤k∧k<n) (af (λh=>ae ?_) λh=>ae ?_) λk hk=>ae hk
 ·have h:=of_decide_eq_true h
  rw[aF (by omega) (by omega)]
  omega
 ·have h:=of_decide_eq_false h;omega
theorem fm(a:Int){n:Int}(h0:0<n)(h1:n≤1000000000000):Gv (am a n) λk=>0≤k∧k<n:=fE a h0 h1
theorem Ci{p:Str}(hp:p.length≤2000):Gv (fu p) λr=>r.length≤p.length∧(p≠[]→r.length<p.length):=by
 unfold fu;dsimp only
 rw[aF (by omega) (by omega)]
 refine ab (P:=λi:Int=>-1≤i∧i<p.length) (gP (λi:Int=>-1≤i∧i<p.length) (λi=>(i+1).toNat) (λi ⟨h1,h2⟩=>?_) (by omega)) λi ⟨h1,h2⟩=>af (λ_=>ae ⟨by simp,λh=>by simpa using QeU.2 h⟩) λh=>?_
 ·refine ab (P:=λq=>q=true→0≤i) (af (λh=>ab (gO (of_decide_eq_true h) h2) λ_ _=>ae λ_=>of_decide_eq_true h) λ_=>ae (by simp)) λq hq=>af (λe=>ae (.inl ⟨_,rfl,?_⟩)) λ_=>ae (.inr ⟨_,rfl,h1,h2⟩)
  have:=hq e
  rw[aF (by omega) (by omega)]
  omega
 ·have h:=of_decide_eq_false h
  refine ab (qh (by omega) (by omega) (by omega)) λm ⟨h3,_⟩=>ae ⟨?_,λ_=>?_⟩<;>omega
structure QS(c:Jc):Prop where
 q:c.I8.length≤16
 p:∀q∈c.I8,q.Kh.length≤2000∧q.KZ.length≤1000
theorem ym{c:Jc}(h:QS c)(p:Str):Gv (dG c p) λl=>l.length≤c.I8.length∧((∀q∈c.I8,q.Kh.length≤p.length)→l = []):=by
 have hq:=h.q;unfold dG
 refine ab (aJ (λ(l:List Str) i=>(l,i)) c.I8.length (λk l=>l.length≤k∧((∀q∈c.I8,q.Kh.length≤p.length)→l = [])) (step:=dP c p) (by omega) (λk hk l ⟨l1,l2⟩=>?_) (λl hl=>?_) (s:=[]) (by simp)) λx hx=>ae hx
 ·have hp:=(h.p _ (K_ hk)).1;unfold dP;dsimp only;rw[ay hk,cond_true,aA hk,IY]
  refine ab (P:=λm=>m.length≤k+1∧((∀q∈c.I8,q.Kh.length≤p.length)→m = [])) (ab (P:=λq=>q=true→¬ ∀q∈c.I8,q.Kh.length≤p.length) (af (λe=>ab (Ci hp) λr ⟨r1,r2⟩=>ae λe2 a=>?_) λ_=>ae (by simp)) λq hq=>af (λe=>?_) λ_=>ae ⟨by omega,l2⟩) λm hm=>ae (.inl ⟨m,rfl,hm⟩)
  ·have a:=a _ (K_ hk)
   have e:p≠[]:=by simpa using e
   have e2:r=p:=by simpa using e2
   subst e2;by_cases h3:c.I8[k].Kh = []
   ·rw[h3]at r1
    exact e (List.length_eq_zero_iff.1 (by simpa using r1))
   ·have:=r2 h3;omega
  ·rw[IY,bi (by simp;omega) (by omega)]
   exact ae ⟨by simp;omega,λa=>absurd a (hq e)⟩
 ·refine aw (a:=.inr l) (by unfold dP;dsimp only;rw[az];rfl) ⟨l,rfl,hl⟩
theorem sP(ns:List Int)(hl:ns.length≤1000000){i:Int}(hi:0≤i):T (bV ns i):=by
 unfold bV;refine af (λ_=>ai _) λh=>?_
 have h:(ns.length:Int)≠0:=by simpa using h
 rw[A0 h,IY]
 exact ab (gO (Int.tmod_nonneg _ hi) (Int.tmod_lt_of_pos i (by omega))) λ_ _=>ai _
def Sm(n:Nat)(s:Str):Prop:=s.length≤n∧As s
structure QB(L:Nat)(q:Ja):Prop where
 p:Sm 20 q.Kh
 u:0≤q.User∧q.User≤1000000
 c:q.KZ.length=L
 k:∀x∈q.KZ,(0≤x.LB∧x.LB≤1000000)∧0≤x.Most∧x.Most≤1000000
structure CB(L Q:Nat)(c:Jc):Prop where
 l:c.Je.length=L
 s:∀x∈c.Je,Sm 20 x
 n:c.I8.length=Q
 q:∀q∈c.I8,QB L q
theorem jM{α β : Type}{l:List α}{k:Int}{f:α→Option β}{P:α→Prop}{Q:β→Prop}(h:0≤k∧k<l.length)(hl:∀x∈l,P x)(g:∀a,P a→Gv (f a) Q):Gv ((Kk k l.length).bind λi=>(l[i]?).bind f) Q:=
 ab (dj h.1 h.2) λi hi=>ab (db (by omega)) λx hx=>g x (hl x hx.1)
section
variable{L Q:Nat}(hL:L≤2)(hQ:Q≤10){ns:List Int}(hns:ns.length≤1000)
include hQ
theorem Bc{kids:List Str}{t3:Jc×Int}{k:Nat}(hk:t3.2=(k:Int))(hkL:k<L){t4:Jc×Int×Int}{j:Nat}(hj:t4.2.2=(j:Int))(hjk:j<kids.length){n UK:Int}(hn:0≤n∧n≤1000000)(hx:0≤UK∧UK≤1000000){c:Jc}(hc:CB L Q c) :
  Gv (loop (cq kids t3 t4 n UK) (c,0)) (CB L Q):=by
 refine aQ (λ(c:Jc) i=>(c,i)) Q (CB L Q) (step:=cq kids t3 t4 n UK) (by omega) (λm hm c hc=>?_) (λc hc=>?_) hc
 ·have hmq:m<c.I8.length:=by rw[hc.n];exact hm
  have hq:=hc.q _ (K_ hmq)
  have hkc:k<c.I8[m].KZ.length:=by rw[hq.c];exact hkL
  unfold cq;dsimp only;rw[ay hmq,cond_true,hj,hk];simp only[aH hmq,aH hjk,IY,IZ hmq,IZ hjk];refine ab (P:=CB L Q) (af (λ_=>?_) λ_=>ae hc) λc hc=>ae (.inl ⟨c,rfl,hc⟩);rw[aH hkc,IY,IZ hkc,IY]
  refine ae ⟨hc.l,hc.s,by simpa using hc.n,λq hq'=>(SX hq').elim (hc.q q) ?_⟩
  rintro rfl
  refine⟨hq.p,hq.u,by simpa using hq.c,λx hx'=>(SX hx').elim (hq.k x) ?_⟩
  rintro rfl;exact⟨hn,hx⟩
 ·exact aw (a:=.inr c) (by unfold cq;dsimp only;rw[hc.n,az];rfl) ⟨c,rfl,hc⟩
include hns hL
theorem BS{t2:Jc×Int}{i:Nat}(hi:t2.2=(i:Int))(hib:i≤100){kids:List Str}(hkids:kids.length≤10){t3:Jc×Int}{k:Nat}(hk:t3.2=(k:Int))(hkL:k<L)(hc:CB L Q t3.1) :
  Gv (loop (cx ns t2 kids t3) (t3.1,10000,0)) (CB L Q):=by
 refine aQ (λ(p:Jc×Int) i=>(p.1,p.2,i)) kids.length (λp=>CB L Q p.1∧0≤p.2∧p.2≤10000) (step:=cx ns t2 kids t3) (by omega) ?_ (λp ⟨hc,_⟩=>?_) (s:=(t3.1,10000)) ⟨hc,by dsimp only;omega⟩
 ·rintro j hj ⟨c,left⟩ ⟨hc,h1,h2⟩;dsimp only at hc h1 h2;unfold cx;dsimp only;rw[ay hj,cond_true,hi,hk]
  have hij:0≤(i:Int)*(j:Int)∧(i:Int)*(j:Int)≤100*10:=vL (by omega) (by omega) (by omega) (by omega)
  rw[aF (x:=(i:Int)*j) (by omega) (by omega),aF (x:=2*(j:Int)) (by omega) (by omega),aF (x:=(i:Int)+j) (by omega) (by omega)]
  rw[aF (x:=(kids.length:Int) - 1) (by omega) (by omega),aF (x:=(i:Int)+j+k) (by omega) (by omega),aF (x:=(i:Int)*j+k) (by omega) (by omega),aF (x:=(j:Int)+k) (by omega) (by omega),aF (x:=(i:Int)+2*j) (by omega) (by omega),aF (x:=left+1) (by omega) (by omega)]
  refine ab (P:=λn=>0≤n∧n≤left) (af (λ_=>?_) λ_=>ae (by omega)) ?_
  ·refine ab (sP ns (by omega) (by omega)) λx8 _=>ab (fE x8 (n:=left+1) (by omega) (by omega)) λx9 hx9=>ab (sP ns (by omega) (by omega)) λx10 _=>ab (fE x10 (n:=4) (by omega) (by omega)) λNg anG=>jM (P:=λn=>0≤n∧n≤left) anG ?_ λ_ h=>ae h
   have hdiv:Int.tdiv left 2=left / 2:=QeR h1
   have:=aF (x:=left / 2) (by omega) (by omega)
   simp[hdiv,this];omega
  ·rintro n ⟨n1,n2⟩
   rw[aF (x:=10000 - n) (by omega) (by omega),aF (x:=10000 - n+1) (by omega) (by omega)]
   refine ab (sP ns (by omega) (by omega)) λPw _=>ab (fE Pw (n:=10000 - n+1) (by omega) (by omega)) λN7 hx14=>ab (sP ns (by omega) (by omega)) λRP _=>ab (fE RP (n:=3) (by omega) (by omega)) λUY hx16=>jM (P:=λm=>0≤m∧m≤1000000) hx16 ?_ λUK Z6=>ab (Bc hQ hk hkL (t4:=(c,left,(j:Int))) rfl hj (by omega) Z6 hc) λc2 hc2=>ae (.inl ⟨(c2,Jd (left - n)),rfl,hc2,?_⟩)
   ·have:=aF (x:=n+N7) (by omega) (by omega)
    simp[this];omega
   ·rw[aF (x:=left - n) (by omega) (by omega)]
    dsimp only;omega
 ·exact aw (a:=.inr p.1) (by unfold cx;dsimp only;rw[az];rfl) ⟨_,rfl,hc⟩
theorem BY{x2:List Str}(hx2:x2.length≤10){c:Jc}(hc:CB L Q c):Gv (loop (cF ns x2) (c,0)) (CB L Q):=by
 refine aQ (λ(c:Jc) i=>(c,i)) x2.length (CB L Q) (step:=cF ns x2) (by omega) (λi hi c hc=>?_) (λc hc=>?_) hc
 ·unfold cF;dsimp only;rw[ay hi,cond_true,aA hi,IY];have hqs:=hc.n
  refine ab (ym ⟨by omega,λq hq=>?_⟩ _) λl ⟨l1,_⟩=>ab (P:=CB L Q) (aQ (λ(c:Jc) i=>(c,i)) L (CB L Q) (step:=dO ns (c,(i:Int)) l) (by omega) (λk hk c' hc'=>?_) (λc' hc'=>?_) hc) λc hc=>ae (.inl ⟨c,rfl,hc⟩)
  ·have h1:=(hc.q q hq).p.1;have h2:=(hc.q q hq).c;omega
  ·unfold dO;dsimp only;rw[hc'.l,ay hk,cond_true]
   exact ab (BS hL hQ hns (t2:=(c,(i:Int))) rfl (by omega) (by omega) (t3:=(c',(k:Int))) rfl hk hc') λc hc=>ae (.inl ⟨c,rfl,hc⟩)
  ·exact aw (a:=.inr c') (by unfold dO;dsimp only;rw[hc'.l,az];rfl) ⟨_,rfl,hc'⟩
 ·exact aw (a:=.inr c) (by unfold cF;dsimp only;rw[az];rfl) ⟨_,rfl,hc⟩
omit hQ hns
theorem Bd{x2:List Str}(hx2:x2.length≤10)(hp:∀p∈x2,Sm 20 p){lab:List Str}(hl:lab.length=L)(hls:∀x∈lab,Sm 20 x) :
  Gv (loop (cz ns x2) ((⟨lab,[]⟩:Jc),0)) (CB L x2.length):=by
 refine aJ (λ(c:Jc) i=>(c,i)) x2.length (λk c=>CB L k c) (step:=cz ns x2) (by omega) (λi hi c hc=>?_) (λc hc=>?_) (s:=(⟨lab,[]⟩:Jc)) ⟨hl,hls,rfl,by simp⟩
 ·unfold cz;dsimp only;rw[ay hi,cond_true,aA hi,IY];have hpi:=hp _ (K_ hi)
  refine ab (P:=QB 0) (ab (P:=λb=>b=true→i<ns.length) (af (λh=>?_) λ_=>ae (by simp)) λb hb=>af (λhbt=>?_) λ_=>ae ⟨hpi,by dsimp only;omega,rfl,by simp⟩) λq1 hq1=>ab (P:=QB L) (aJ (λ(q:Ja) i=>(q,i)) L (λk q=>QB k q) (step:=d6 (c,(i:Int))) (by omega) (λk hk q hq=>?_) (λq hq=>?_) (s:=q1) hq1) λq2 hq2=>?_
  ·have hlt:i<ns.length:=by have:=of_decide_eq_true h;omega
   rw[aA hlt,IY];exact ae λ_=>hlt
  ·rw[aA (hb hbt),IY]
   refine ab (fE _ (n:=20000) (by omega) (by omega)) λx6 hx6=>ae ⟨hpi,?_,rfl,by simp⟩
   rw[aF (x:=1+x6) (by omega) (by omega)]
   dsimp only;omega
  ·unfold d6;dsimp only
   rw[hc.l,ay hk,cond_true,bi (by have:=hq.c;simp;omega) (by omega),IY]
   refine ae (.inl ⟨_,rfl,hq.p,hq.u,by simp[hq.c],λx hx=>(Mr.1 hx).elim (hq.k x) λhx=>?_⟩)
   rw[I4.1 hx];dsimp only;omega
  ·exact aw (a:=.inr q) (by unfold d6;dsimp only;rw[hc.l,az];rfl) ⟨_,rfl,hq⟩
  ·rw[bi (by have:=hc.n;simp;omega) (by omega),IY]
   exact ae (.inl ⟨_,rfl,hc.l,hc.s,by simp[hc.n],λq hq=>(Mr.1 hq).elim (hc.q q) λhq=>I4.1 hq▸hq2⟩)
 ·exact aw (a:=.inr c) (by unfold cz;dsimp only;rw[az];rfl) ⟨_,rfl,hc⟩
end
theorem Hj(shape:Int){ns:List Int}(hns:ns.length≤1000):Gv (fT shape ns) λc=>∃L Q,L≤2∧Q≤10∧CB L Q c:=by
 unfold fT
 refine ab (fE _ (n:=2) (by omega) (by omega)) λx hx=>?_
 rw[aF (by omega) (by omega)]
 refine ab (ir (by omega) (by omega) (by simp;omega)) λp hp=>ab (fE shape (n:=5) (by omega) (by omega)) λx1 hx1=>jM (P:=λl=>l.length≤10∧∀p∈l,Sm 20 p) hx1 (by unfold Sm As;decide +kernel) λx2 ⟨h1,h2⟩=>?_
 subst hp
 have hL:(sub [([]:List UInt8),([103,112,117]:List UInt8)] (0:Int).toNat ((1+x).toNat - (0:Int).toNat)).length≤2:=by simp[sub];omega
 have hs:∀y∈[([]:List UInt8),([103,112,117]:List UInt8)],Sm 20 y:=by unfold Sm As;decide +kernel
 exact ab (Bd hL h1 h2 rfl λy hy=>hs y (XJ (Uu hy))) λc hc=>ab (BY hL h1 hns h1 hc) λc hc=>ae ⟨_,_,hL,h1,hc⟩
set_option linter.unusedVariables false
set_option linter.unusedSimpArgs false
theorem Dt{s t:Str}(hs:As s)(ht:As t):As (s++t):=λb hb=>(Mr.1 hb).elim (hs b) (ht b)
theorem B3:∀(d m:Nat)(n:Int),d≤m→0≤n→n<10 ^ (d+1)→d≤6→Gv (bw (m+1) n) (Sm (2 ^ d)):=by
 have dg:∀(k:Nat)(n:Int),1≤k→0≤n→n<10→Gv (some (List.map toB [IntKind.u8.wrap (Jd (48+n))])) (Sm k):=λk n hk h0 h1=>ae ⟨by simpa using hk,by
  have:n=0∨n=1∨n=2∨n=3∨n=4∨n=5∨n=6∨n=7∨n=8∨n=9:=by omega
  unfold As
  rcases this with rfl | rfl | rfl | rfl | rfl | rfl | rfl | rfl | rfl | rfl<;>decide +kernel⟩
 intro d
 induction d with
 | zero=>
  intro m n _ h0 h1 _;show Gv (b_ (bw m) n) _;unfold b_
  have h1:n<10:=by simpa using h1
  rw[decide_eq_false (by omega),cond_false,decide_eq_false (by omega),cond_false]
  exact dg _ n (by decide) h0 h1
 | succ d ih=>
  intro m n hm h0 h1 hd
  obtain⟨m,rfl⟩:∃k,m=k+1:=⟨m - 1,by omega⟩
  show Gv (b_ (bw (m+1)) n) _;unfold b_
  rw[decide_eq_false (by omega:¬ n<0),cond_false]
  refine af (λh10=>?_) λh10=>dg _ n (Nat.one_le_pow _ _ (by omega)) h0 (by have:=of_decide_eq_false h10;omega)
  have h10:=of_decide_eq_true h10
  have hp:(10:Int) ^ (d+1+1)=10 ^ (d+1)*10:=by rw[Int.pow_succ]
  have hb:(10:Int) ^ (d+1)≤10 ^ 7:=by exact_mod_cast Qe_ (n:=10) (by omega) (by omega:d+1≤7)
  have h10p:(10:Int)≤10 ^ (d+1):=by exact_mod_cast Qe_ (n:=10) (by omega) (by omega:1≤d+1)
  rw[QeR h0,Int.tmod_eq_emod_of_nonneg h0,aF (by omega) (by omega)]
  refine ab (ih m (n / 10) (by omega) (by omega) (by omega) (by omega)) λx1 hx1=>ab (ih m (n % 10) (by omega) (by omega) (by omega) (by omega)) λx2 hx2=>?_
  have h1:=hx1.1;have h2:=hx2.1
  have hpow:2 ^ d≤2 ^ 6:=Qe_ (by omega) (by omega)
  rw[ue (by omega),IY]
  exact ae ⟨by rw[I3,Nat.pow_succ];omega,Dt hx1.2 hx2.2⟩
theorem zu{n:Int}(h:0≤n∧n≤1000000):Gv (cI n) (Sm 64):=B3 6 63 n (by omega) h.1 (by omega) (by omega)
theorem gL{β : Type}{n m k:Nat}{s t:Str}{f:Str→Option β}{P:β→Prop}(hs:Sm n s)(ht:Sm m t)(hb:n+m≤k∧k≤1000000)(g:∀x,Sm k x→Gv (f x) P):Gv ((cat s t).bind f) P:=by
 have h1:=hs.1;have h2:=ht.1
 rw[ue (by omega),IY]
 exact g _ ⟨by rw[I3];omega,Dt hs.2 ht.2⟩
theorem Sm.mono{n m:Nat}{s:Str}(h:Sm n s)(k:n≤m):Sm m s:=⟨MP h.1 k,h.2⟩
theorem HK{L Q:Nat}(hL:L≤2)(hQ:Q≤10){c:Jc}(hc:CB L Q c):Gv (fO c) As:=by
 have lit:∀{s:Str},(s.all λb=>decide (b.toNat<128))=true→Sm s.length s:=λh=>⟨KC _,λb hb=>of_decide_eq_true (Oe.1 h b hb)⟩;have hl:=hc.l;have hn:=hc.n;unfold fO
 refine ab (P:=Sm 1000) (gP (λt:Str×Int=>1≤t.2∧t.2≤3∧Sm (6+30*t.2.toNat) t.1) (λt=>(3 - t.2).toNat) (λt ⟨h1,h2,h3⟩=>?_) ⟨by simp,by simp,(lit rfl).mono (by simp)⟩) λs hs=>?_
 ·unfold kK
  refine af (λh=>?_) λ_=>ae (.inr ⟨_,rfl,h3.mono (by omega)⟩)
  have h:=of_decide_eq_true h
  refine gL h3 (lit rfl) (k:=7+30*t.2.toNat) (by simp;omega) λs h=>ab (gO (by omega) (by omega)) λx hx=>gL h (hc.s x hx.1) (k:=27+30*t.2.toNat) (by omega) λs h=>ae (.inl ⟨_,rfl,?_,?_⟩)
  ·rw[aF (x:=t.2+1) (by omega) (by omega)]
   exact⟨by dsimp only;omega,by dsimp only;omega,h.mono (by dsimp only;omega)⟩
  ·rw[aF (x:=t.2+1) (by omega) (by omega)]
   dsimp only;omega
 ·refine gL hs (lit rfl) (k:=1001) (by simp) λs hs=>ab (P:=As) (aJ (λ(s:Str) i=>(s,i)) c.I8.length (λk=>Sm (1001+k*3000)) (step:=dS c) (by omega) (λk hk s hs=>?_) (λs hs=>?_) (hs.mono (by omega))) λ_ h=>ae h
  ·have hq:=hc.q _ (K_ hk);have hcl:=hq.c;unfold dS;dsimp only;rw[ay hk,cond_true,aA hk,IY]
   refine gL hs (lit rfl) (k:=1010+k*3000) (by simp;omega) λs hs=>gL hs hq.p (k:=1040+k*3000) (by omega) λs hs=>gL hs (lit rfl) (k:=1041+k*3000) (by simp;omega) λs hs=>ab (zu hq.u) λx hx=>gL hs hx (k:=1200+k*3000) (by omega) λs hs=>ab (P:=Sm (2000+k*3000)) (aJ (λ(s:Str) i=>(s,i)) c.I8[k].KZ.length (λj=>Sm (1200+k*3000+j*200)) (step:=dR c.I8[k]) (by omega) (λj hj m hm=>?_) (λm hm=>?_) (hs.mono (by omega))) λm hm=>gL hm (lit rfl) (k:=2001+k*3000) (by simp;omega) λs hs=>ae (.inl ⟨_,rfl,hs.mono (by omega)⟩)
   ·have hcap:=hq.k _ (K_ hj);unfold dR;dsimp only;rw[ay hj,cond_true];simp only[aA hj,IY]
    exact gL hm (lit rfl) (k:=1201+k*3000+j*200) (by simp;omega) λs hs=>ab (zu hcap.1) λx hx=>gL hs hx (k:=1265+k*3000+j*200) (by omega) λs hs=>gL hs (lit rfl) (k:=1266+k*3000+j*200) (by simp;omega) λs hs=>ab (zu hcap.2) λx hx=>gL hs hx (k:=1330+k*3000+j*200) (by omega) λs hs=>ae (.inl ⟨_,rfl,hs.mono (by omega)⟩)
   ·exact aw (a:=.inr m) (by unfold dR;dsimp only;rw[az];rfl) ⟨_,rfl,hm.mono (by omega)⟩
  ·exact aw (a:=.inr s) (by unfold dS;dsimp only;rw[az];rfl) ⟨_,rfl,hs.2⟩
theorem Az:∀l:List Ja,l≠[]→∃(k:Nat)(hk:k<l.length),∀x∈l,x.Kh.length≤l[k].Kh.length
 | [],h=>absurd rfl h
 | q::l,_=>by
  by_cases hl:l = []
  ·exact⟨0,by simp,by simp[hl]⟩
  obtain⟨k,hk,h⟩:=Az l hl;by_cases hq:q.Kh.length≤l[k].Kh.length
  ·exact⟨k+1,by simpa using hk,λx hx=>(Lr.1 hx).elim (λe=>e▸hq) (h x)⟩
  ·exact⟨0,by simp,λx hx=>(Lr.1 hx).elim (λe=>by simp[e]) λhx=>by have:=h x hx;simp;omega⟩
theorem BA{α β : Type}(l:List α)(p:α→Bool)(f:α→β)(z:β)(hn:l.length≤1000000){step:β×Int→Option ((β×Int) ⊕ ((β×Bool) ⊕ β))}(h1:∀k (hk:k<l.length),step (z,(k:Int))=some (if p l[k]=true then .inr (.inl (f l[k],true))else .inl (z,Jd ((k:Int)+1))))(h2:step (z,(l.length:Int))=some (.inr (.inr z))) :
  loop step (z,0)=some ((l.find? p).elim (.inr z) λx=>.inl (f x,true)):=by
 refine(λ⟨r,e,hr⟩=>e.trans (congrArg some hr):Gv (loop step (z,0)) (λr=>r=(l.find? p).elim (.inr z) λx=>.inl (f x,true))→_) (aJ (λ(_:Unit) i=>(z,i)) l.length (λk _=>∀j (hj:j<l.length),j<k→p l[j]=false) (by omega) (λk hk _ h=>aw (h1 k hk) ?_) (λ_ h=>aw h2 ⟨_,rfl,?_⟩) (s:=()) λj _ h=>absurd h (by omega))
 ·by_cases hp:p l[k]=true
  ·rw[if_pos hp];refine .inr ⟨_,rfl,?_⟩
   rw[QeM.2 ⟨hp,k,hk,rfl,λj hj=>by simp[h j (by omega) hj]⟩]
   rfl
  ·rw[if_neg hp];refine .inl ⟨(),rfl,λj hj hlt=>?_⟩;by_cases e:j=k
   ·subst e;simpa using hp
   ·exact h j hj (by omega)
 ·rw[QdT.2 λx hx=>by obtain⟨j,hj,rfl⟩:=List.mem_iff_getElem.1 hx;simp[h j hj hj]]
  rfl
section
variable{c:Jc}(h:JC c)
include h
theorem jqs:QS c:=⟨h.q.2,λq hq=>⟨(h.k q hq).2.1.1,by have:=(h.k q hq).1;omega⟩⟩
theorem Ek{k:Nat}(hk:k<c.I8.length):Gv (fW c c.I8[k].Kh) λb=>(∀x∈c.I8,x.Kh.length≤c.I8[k].Kh.length)→b=true:=by
 have hq:=h.q;unfold fW iW
 rw[BA c.I8 (λq=>q.Kh == c.I8[k].Kh) id _ (by omega) (λj hj=>?_) (by unfold gu;dsimp only;rw[az];rfl),IY]
 ·cases e:c.I8.find? λq=>q.Kh == c.I8[k].Kh with
  | none=>have:=QdT.1 e _ (K_ hk);simp at this
  | some q=>
   dsimp only[Option.elim];rw[IY,cond_true]
   exact ab (ym (jqs h) _) λl ⟨_,hl⟩=>ae λa=>by rw[hl a];rfl
 ·have:=(h.k _ (K_ hj)).1;unfold gu;dsimp only
  rw[ay hj,cond_true,aA hj,IY,IY,bh (by omega) (by omega),IY]
  cases c.I8[j].Kh == c.I8[k].Kh<;>rfl
theorem B7:Gv (eI c) λl=>1≤l.length∧l.length≤16:=by
 have hq:=h.q
 obtain⟨m,hm,hd⟩:=Az c.I8 λe=>by simp[e]at hq
 unfold eI
 refine ab (aJ (λ(l:List Str) i=>(l,i)) c.I8.length (λk l=>l.length≤k∧(m<k→1≤l.length)) (step:=cW c) (by omega) (λk hk l ⟨l1,l2⟩=>?_) (λl ⟨l1,l2⟩=>?_) (s:=[]) ⟨by simp,λh=>absurd h (by omega)⟩) λx hx=>ae hx
 ·unfold cW;dsimp only;rw[ay hk,cond_true];simp only[aA hk,IY]
  refine ab (P:=λl=>l.length≤k+1∧(m<k+1→1≤l.length)) (ab (Ek h hk) λb hb=>af (λ_=>?_) λe=>ae ⟨by omega,λ_=>l2 ?_⟩) λl hl=>ae (.inl ⟨l,rfl,hl⟩)
  ·rw[bi (by simp;omega) (by omega)]
   exact ae ⟨by simp;omega,λ_=>by simp⟩
  ·rcases Nat.lt_or_ge m k with h | h
   ·exact h
   ·have h:m=k:=by omega
    subst h;rw[hb hd]at e;cases e
 ·exact aw (a:=.inr l) (by unfold cW;dsimp only;rw[az];rfl) ⟨_,rfl,l2 hm,by omega⟩
end
theorem uE(n:Int):T (dK n):=ab (fm n (n:=5) (by omega) (by omega)) λx hx=>jM (P:=λ_=>True) hx (λ_ _=>trivial) λ_ _=>ai _
def IQ(k:Nat)(i:Input):Prop:=i.Ids.length≤k∧i.Jy.length≤1000∧As i.Text
theorem IQ.k{k:Nat}{i:Input}(h:IQ k i)(hk:k≤200):IK i:=⟨MP h.1 hk,h.2.1,h.2.2⟩
section
variable{N:Nat}{s:Gp}(h:J N s)(a:Act)
include h
theorem BO:Gv (cM a s) IK:=by
 have ha:=h.a;have hk:=h.k;have hl:=h.c.l
 have w:∀(x:Int){n:Int},0<n→n≤1000000→T (am x n):=λx n h0 h1=>vS (fm x h0 (by omega))
 have as0:As []:=λb hb=>by cases hb
 unfold cM
 refine af (λ_=>ae ⟨by simp,by simp,as0⟩) λhz=>?_
 have hz:(s.I9.length:Int)≠0:=by simpa using hz
 refine ab (fm a.A (n:=s.I9.length) (by omega) (by omega)) λx hx=>ab (vS (gO hx.1 hx.2)) λx1 _=>ab (w a.B (n:=8) (by omega) (by omega)) λx2 _=>ab (P:=IQ 0) (af (λ_=>?_) λ_=>ae ⟨by simp,by simp,as0⟩) λi0 hi0=>ab (P:=IK) (aJ (λ(i:Input) k=>(i,k)) s.I6.length IQ (step:=ca a s x1) (by omega) (λk hk i ⟨q1,q2⟩=>?_) (λi q=>?_) hi0) λi hi=>ae hi
 ·refine ab (w a.B (n:=5) (by omega) (by omega)) λx3 _=>ab (w a.C (n:=s.Jc.Je.length) (by omega) (by omega)) λx4 _=>ab (uE a.D) λx5 _=>ab (w a.D (n:=7) (by omega) (by omega)) λx6 _=>ab (P:=λ_=>True) (af (λ_=>ab (w a.C (n:=3) (by omega) (by omega)) λ_ _=>ai _) λ_=>ai _) λk _=>ab (P:=λ_=>True) (af (λ_=>ab (w a.C (n:=3) (by omega) (by omega)) λ_ _=>ab (w a.B (n:=6) (by omega) (by omega)) λ_ _=>ai _) λ_=>ai _) λk1 _=>ae ⟨by simp,by simp,as0⟩
 ·unfold ca;dsimp only;rw[ay hk,cond_true];simp only[aA hk,IY]
  refine ab (P:=IQ (k+1)) (aG (af (λ_=>ab (w _ (n:=11) (by omega) (by omega)) λ_ _=>ai _) λ_=>ai _) λq=>af (λ_=>?_) λ_=>ae ⟨by omega,q2⟩) λi hi=>ae (.inl ⟨i,rfl,hi⟩)
  rw[bi (by simp;omega) (by omega),IY]
  exact ae ⟨by simp;omega,q2⟩
 ·exact aw (a:=.inr i) (by unfold ca;dsimp only;rw[az];rfl) ⟨_,rfl,q.k (by omega)⟩
theorem FN:Gv (cY a s) IK:=by
 have hn:=h.n;have hk:=h.k;have hl:=h.c.l
 have w:∀(x:Int){n:Int},0<n→n≤1000000→T (am x n):=λx n h0 h1=>vS (fm x h0 (by omega))
 have as0:As []:=λb hb=>by cases hb
 have ok:∀{i:Input},i.Ids = []→i.Jy = []→i.Text = []→IK i:=λe1 e2 e4=>⟨by rw[e1];simp,by rw[e2];simp,by rw[e4];exact as0⟩
 have tst:∀(c b d:Bool),T (bif c then some b else some d):=λc b d=>by cases c<;>exact ai _
 unfold cY
 refine ab (w a.A (n:=6) (by omega) (by omega)) λLi _=>ab (B7 h.c) λlv hlv=>ab (w a.B (n:=4) (by omega) (by omega)) λx _=>ab (P:=IK) (ab (w a.Kind (n:=16) (by omega) (by omega)) λx1 _=>?_) λi hi=>ae hi
 refine ab (tst _ _ _) λq _=>af (λ_=>ab (w a.B (n:=s.Jc.Je.length) (by omega) (by omega)) λx2 _=>ab (w a.C (n:=3) (by omega) (by omega)) λx3 _=>ab (w a.D (n:=12) (by omega) (by omega)) λx4 _=>
   ab (w a.D (n:=8) (by omega) (by omega)) λx5 _=>ae (ok rfl rfl rfl)) λ_=>?_
 refine aG (by repeat' (first | exact ai _ | refine af (λ_=>?_) λ_=>?_)) λq1=>af (λ_=>?_) λ_=>?_
 ·refine ab (P:=IQ 0) (aQ (λ(i:Input) k=>(i,k)) s.Jh.length (IQ 0) (step:=ck a s Li) (by omega) (λk hk i hi=>?_) (λi hi=>?_) (s:=_) ⟨by simp,by simp,as0⟩) λi0 hi0=>ab (P:=IK) (aJ (λ(i:Input) k=>(i,k)) s.I6.length IQ (step:=co a s Li) (by omega) (λk hk i ⟨q1,q2⟩=>?_) (λi q=>?_) hi0) λi hi=>ae hi
  ·unfold ck;dsimp only;rw[ay hk,cond_true];simp only[aA hk,IY]
   exact ab (P:=IQ 0) (af (λ_=>ab (w a.B (n:=8) (by omega) (by omega)) λ_ _=>ae hi) λ_=>ae hi) λi hi=>ae (.inl ⟨i,rfl,hi⟩)
  ·exact aw (a:=.inr i) (by unfold ck;dsimp only;rw[az];rfl) ⟨_,rfl,hi⟩
  ·unfold co;dsimp only;rw[ay hk,cond_true];simp only[aA hk,IY]
   refine ab (P:=IQ (k+1)) (aG (af (λ_=>ab (w _ (n:=9) (by omega) (by omega)) λ_ _=>ai _) λ_=>ai _) λq=>af (λ_=>?_) λ_=>ae ⟨by omega,q2⟩) λi hi=>ae (.inl ⟨i,rfl,hi⟩)
   rw[bi (by simp;omega) (by omega),IY]
   exact ae ⟨by simp;omega,q2⟩
  ·exact aw (a:=.inr i) (by unfold co;dsimp only;rw[az];rfl) ⟨_,rfl,q.k (by omega)⟩
 refine ab (tst _ _ _) λq3 _=>af (λ_=>ab (w a.A (n:=20) (by omega) (by omega)) λUY _=>ab (fm a.B (n:=lv.length) (by omega) (by omega)) λUK Z6=>jM (P:=λ_=>True) Z6 (λ_ _=>trivial) λx18 _=>ab (w a.C (n:=3) (by omega) (by omega)) λx19 _=>ab (w a.D (n:=3) (by omega) (by omega)) λx20 _=>ab (uE _) λx21 _=>ae (ok rfl rfl rfl)) λ_=>?_
 refine aG (by repeat' (first | exact ai _ | refine af (λ_=>?_) λ_=>?_)) λq4=>af (λ_=>ab (BO h a) λi hi=>ae hi) λ_=>?_
 refine af (λ_=>ab (fm a.B (n:=2) (by omega) (by omega)) λx23 hx=>jM (l:=([6,7]:List Int)) (P:=λ_=>True) hx (λ_ _=>trivial) λx24 _=>ab (w a.A (n:=20) (by omega) (by omega)) λx25 _=>ae (ok rfl rfl rfl)) λ_=>?_
 refine ab (tst _ _ _) λq5 _=>af (λ_=>ab (w a.A (n:=5) (by omega) (by omega)) λx26 _=>ae (ok rfl rfl rfl)) λ_=>?_
 refine af (λ_=>ab (fm a.D (n:=3) (by omega) (by omega)) λx27 hx=>jM (l:=([9,9,10]:List Int)) (P:=λ_=>True) hx (λ_ _=>trivial) λx28 _=>ab (w a.B (n:=s.Jc.Je.length) (by omega) (by omega)) λx29 _=>ab (w a.C (n:=5) (by omega) (by omega)) λx30 _=>ab (uE _) λx31 _=>
   ab (w a.C (n:=12) (by omega) (by omega)) λx32 _=>ae (ok rfl rfl rfl)) λ_=>?_
 refine af (λ_=>ab (fm a.A (n:=3) (by omega) (by omega)) λx33 hx=>jM (l:=([11,1,1]:List Int)) (P:=λ_=>True) hx (λ_ _=>trivial) λx34 _=>ab (Hj a.B (ns:=[a.C,a.D]) (by simp)) λc ⟨L,Q,hL,hQ,hc⟩=>ab (HK hL hQ hc) λx36 h36=>ae ⟨by simp,by simp,h36⟩) λ_=>ae (ok rfl rfl rfl)
end
set_option linter.unusedVariables false
set_option linter.unusedSimpArgs false
theorem aiP:Gv lS (J 0):=by
 refine ae ⟨⟨by simp,by simp,by simp,?_⟩,?_,?_,?_,?_,?_,?_,?_,?_,?_,by omega,?_⟩<;>simp
section
variable{N:Nat}{s:Gp}(h:J N s)
include h
theorem Hv(i:Int):Gv (ft s i) λr=>r.2=s.I6.any λc=>c.Id == i:=by
 have hk:=h.k;unfold ft
 rw[BA s.I6 (λc=>c.Id == i) id _ (by omega) (λj hj=>?_) (by unfold gc;dsimp only;rw[az];rfl),IY]
 ·cases e:s.I6.find? λc=>c.Id == i with
  | none=>exact ae (Eq.symm (QfC.2 (QdT.1 e)))
  | some q=>exact ae (Eq.symm (List.any_eq_true.2 ⟨q,QdI e,by simpa using QeN e⟩))
 ·unfold gc;dsimp only;rw[ay hj,cond_true,aA hj,IY,IY]
  cases s.I6[j].Id == i<;>rfl
theorem IE{k:Nat}(hk:k<s.I9.length){i:Int}(e:s.I9[k].Id=i):fk s i=some (s.I9[k],true):=by
 have ha:=h.a;unfold fk
 rw[BA s.I9 (λc=>c.Id == i) id _ (by omega) (λj hj=>?_) (by unfold gf;dsimp only;rw[az];rfl),IY]
 ·rw[QeM.2 ⟨by simpa using e,k,hk,rfl,λj hj=>?_⟩]
  ·rfl
  ·have hj2:j<s.I9.length:=by omega
   have:s.I9[j].Id≠i:=λe2=>by
    have:=(ZA h.ad (h₀:=by simpa using hj2) (h₁:=by simpa using hk)).1 (by simpa using e2.trans e.symm)
    omega
   simpa using this
 ·unfold gf;dsimp only;rw[ay hj,cond_true,aA hj,IY,IY]
  cases s.I9[j].Id == i<;>rfl
end
theorem Ih(a b c:Bool):T (bif a then some b else some c):=by cases a<;>exact ai _
section
variable{N M:Nat}{s:Gp}{i:Int}{y:Input}{z:Gp×Output}(h:J N s)(hz:J M z.1)(hw:y.Kind=3→W2 y.Id s z.1)(hs:y.Kind≠3→Sub s z.1)
include h hw
theorem G2{c:Cont}(hc:c∈z.1.I6)(e:y.Kind=3):((s.I6.any λd=>d.Id == c.Id)=false↔mx s<c.Id)∧(mx s<c.Id→NC y.Id s c):=by
 have old:∀d∈s.I6,d.Id≤mx s:=λd hd=>(h.kk d hd).1.2
 refine⟨⟨λe2=>?_,λe2=>?_⟩,λe2=>((hw e).c c hc).resolve_left λhd=>by have:=old c hd;omega⟩
 ·exact(((hw e).c c hc).resolve_left λhd=>by simpa using QfC.1 e2 c hd).1
 ·exact QfC.2 λd hd e3=>by have:=old d hd;have:=eq_of_beq e3;omega
include hz hs
omit hw hs in
theorem FL{j:Int}(h1:∃m∈s.I6,m.App=j∧m.Jb=true)(h2:∀c∈z.1.I6,c.App=j→mx s<c.Id):Gv (fU s z.1 j) λr=>r=true:=by
 have hk:=h.k;have hk2:=hz.k;unfold fU
 refine ab (aJ (λ(x:Int) i=>(x,i)) s.I6.length (λk x=>(∃m∈s.I6.take k,m.App=j∧m.Jb=true)→1≤x∧x≤mx s) (Q:=λx=>1≤x∧x≤mx s) (step:=d9 s j) (by omega) (λk hk x hx=>?_) (λx hx=>?_) (s:=0) (by simp)) λx hx=>ab (aQ (λ(x:Int) i=>(x,i)) z.1.I6.length (λx=>x=0∨mx s<x) (Q:=λx=>x=0∨mx s<x) (step:=dZ z.1 j) (by omega) (λk hk x hx=>?_) (λx hx=>?_) (s:=0) (.inl rfl)) λy hy=>ae (by simp;omega)
 ·unfold d9;dsimp only;rw[ay hk,cond_true];simp only[aA hk,IY]
  refine ab (P:=λx=>(∃m∈s.I6.take (k+1),m.App=j∧m.Jb=true)→1≤x∧x≤mx s) (ab (P:=λq=>s.I6[k].App=j∧s.I6[k].Jb=true→q=true) (af (λ_=>ae λe=>e.2) λe=>ae λe2=>by simp[e2.1]at e) λq hq=>af (λ_=>ae λ_=>(h.kk _ (K_ hk)).1) λe=>ae ?_) λx hx=>ae (.inl ⟨x,rfl,hx⟩)
  rw[Ux hk];rintro⟨m,hm,e2⟩;rcases Mr.1 hm with hm | hm
  ·exact hx ⟨m,hm,e2⟩
  ·rw[I4.1 hm]at e2;rw[hq e2]at e;cases e
 ·refine aw (a:=.inr x) (by unfold d9;dsimp only;rw[az];rfl) ⟨_,rfl,?_⟩
  rw[SL]at hx;exact hx h1
 ·unfold dZ;dsimp only;rw[ay hk,cond_true];simp only[aA hk,IY]
  exact ab (P:=λx=>x=0∨mx s<x) (ab (P:=λq=>q=true→z.1.I6[k].App=j) (af (λe=>ae λ_=>eq_of_beq e) λe=>ae (by simp)) λq hq=>af (λe=>ae (.inr (h2 _ (K_ hk) (hq e)))) λe=>ae hx) λx hx=>ae (.inl ⟨x,rfl,hx⟩)
 ·exact aw (a:=.inr x) (by unfold dZ;dsimp only;rw[az];rfl) ⟨_,rfl,hx⟩
omit hs in
theorem cnt3(e:y.Kind=3)(a:App){i j:Int}:Gv (loop (bN (s,i) (z.1,j) a) (0,0)) λx=>x=nw (mx s) z.1.I6 a.Id:=by
 have hk2:=hz.k
 refine aJ (λ(x:Int) i=>(x,i)) z.1.I6.length (λk x=>x=nw (mx s) (z.1.I6.take k) a.Id) (step:=bN (s,i) (z.1,j) a) (by omega) (λk hk x hx=>?_) (λx hx=>?_) (s:=0) (by simp[nw])
 ·have hb:nw (mx s) (z.1.I6.take k) a.Id≤200∧0≤nw (mx s) (z.1.I6.take k) a.Id:=by
   have h1:=Uv (λc:Cont=>decide (mx s<c.Id)&&(c.App == a.Id&&!c.Jb)) (z.1.I6.take k);have h2:=List.length_take_le k z.1.I6;unfold nw;omega
  unfold bN;dsimp only;rw[ay hk,cond_true];simp only[aA hk,IY];refine ab (P:=λx=>x=nw (mx s) (z.1.I6.take (k+1)) a.Id) (ab (Hv h _) λr hr=>ab (P:=λq=>q=(decide (mx s<z.1.I6[k].Id)&&(z.1.I6[k].App == a.Id&&!z.1.I6[k].Jb))) ?_ λq hq=>?_) λx hx=>ae (.inl ⟨x,rfl,hx⟩)
  ·have on:=(G2 h hw (K_ hk) e).1;rw[← hr]at on;by_cases h1:mx s<z.1.I6[k].Id
   ·rw[on.2 h1,decide_eq_true h1]
    exact af (λ_=>af (λe=>ae (by simp[e])) λe=>ae (by simp[e])) λe=>by cases e
   ·cases e2:r.2
    ·exact absurd (on.1 e2) h1
    ·rw[decide_eq_false h1];exact ae rfl
  ·have e:nw (mx s) (z.1.I6.take (k+1)) a.Id=nw (mx s) (z.1.I6.take k) a.Id+if q=true then 1 else 0:=by
    rw[Ux hk,hq];unfold nw;rw[XH,I3,WH,List.filter_nil]
    split<;>simp
   rw[e];refine af (λe=>ae ?_) λe=>ae ?_
   ·rw[if_pos e,hx,aF (by omega) (by omega)]
   ·rw[if_neg (by simp[e]),hx,Int.add_zero]
 ·refine aw (a:=.inr x) (by unfold bN;dsimp only;rw[az];rfl) ⟨_,rfl,?_⟩
  rwa [SL]at hx
end
theorem yP{l:List Ask}(h:∀x∈l,1≤x.Ky∧x.Ky≤50){k:Nat}(hk:k<l.length):cnt (l.take (k+1))=cnt (l.take k)+l[k].Ky:=by rw[Ux hk];unfold cnt;rw[SQ,List.sum_append];simp
theorem uV:∀{l:List Ask}(h:∀x∈l,1≤x.Ky∧x.Ky≤50),0≤cnt l∧cnt l≤50*(l.length:Int)
 | [],_=>by simp[cnt]
 | x::l,h=>by
  have h1:=uV λy hy=>h y (PG _ hy)
  have h2:=h x (by simp)
  have:cnt (x::l)=x.Ky+cnt l:=by simp[cnt]
  simp only[P8];omega
theorem aoR{N:Nat}{a:App}(h:JA N a):Gv (loop (bM a) (0,0)) λx=>x=cnt a.Jy:=by
 have hl:=h.al
 refine aJ (λ(x:Int) i=>(x,i)) a.Jy.length (λk x=>x=cnt (a.Jy.take k)) (step:=bM a) (by omega) (λk hk x hx=>?_) (λx hx=>?_) (s:=0) (by simp[cnt])
 ·have h1:=uV (l:=a.Jy.take k) λx hx=>h.ak x (Uu hx);have h2:=h.ak _ (K_ hk);have h3:=List.length_take_le k a.Jy;unfold bM;dsimp only
  rw[ay hk,cond_true,aA hk,IY,hx,aF (by omega) (by omega),← yP h.ak hk]
  exact ae (.inl ⟨_,rfl,rfl⟩)
 ·refine aw (a:=.inr x) (by unfold bM;dsimp only;rw[az];rfl) ⟨_,rfl,?_⟩
  rwa [SL]at hx
theorem aoQ{N:Nat}{a:App}(h:JA N a){m:Int}(hm:0≤m∧m≤1000):Gv (loop (bL (a,true)) (m,0)) λx=>x=m - cnt a.Jy:=by
 have hl:=h.al
 refine aJ (λ(x:Int) i=>(x,i)) a.Jy.length (λk x=>x=m - cnt (a.Jy.take k)) (step:=bL (a,true)) (by omega) (λk hk x hx=>?_) (λx hx=>?_) (s:=m) (by simp[cnt])
 ·have h1:=uV (l:=a.Jy.take k) λx hx=>h.ak x (Uu hx);have h2:=h.ak _ (K_ hk);have h3:=List.length_take_le k a.Jy;unfold bL;dsimp only
  rw[ay hk,cond_true,aA hk,IY,hx,aF (by omega) (by omega)]
  exact ae (.inl ⟨_,rfl,by rw[yP h.ak hk];omega⟩)
 ·refine aw (a:=.inr x) (by unfold bL;dsimp only;rw[az];rfl) ⟨_,rfl,?_⟩
  rwa [SL]at hx
section
variable{N M:Nat}{s:Gp}{i:Int}{y:Input}{z:Gp×Output}(h:J N s)(hz:J M z.1)(hw:y.Kind=3→W2 y.Id s z.1)
include h hz hw
theorem cnt2:Gv (loop (bH (s,i) y) (z.1,0)) λr=>r = .inr z.1:=by
 have ha:=h.a
 refine aQ (λ(_:Unit) i=>(z.1,i)) s.I9.length (λ_=>True) (step:=bH (s,i) y) (by omega) (λk hk _ _=>?_) (λ_ _=>aw (a:=.inr (.inr z.1)) (by unfold bH;dsimp only;rw[az];rfl) ⟨_,rfl,rfl⟩) (s:=()) trivial
 unfold bH;dsimp only;rw[ay hk,cond_true,IY];refine af (λe=>?_) λ_=>ae (.inr ⟨_,rfl,rfl⟩)
 have e:y.Kind=3:=by simpa using e
 have w:=hw e
 have hk2:k<z.1.I9.length:=by rw[w.l];exact hk
 have r:=w.a k hk hk2;rw[aA hk,IY,IE hz hk2 r.id,IY];have j1:=h.ak _ (K_ hk);have j2:=hz.ak _ (K_ hk2)
 refine ab (P:=λr=>r = .inl ()) (ab (P:=λq=>q=false→s.I9[k].Gp=2∧z.1.I9[k].Gp=2) (af (λ_=>ae (by simp)) λe1=>af (λ_=>ae (by simp)) λe2=>nH (Ih _ _ _) λ_ _ _=>⟨by simpa using e1,by simpa using e2⟩) λq hq=>af (λ_=>ae rfl) λe4=>?_) λr hr=>by subst hr;exact ae (.inl ⟨(),rfl,trivial⟩)
 have⟨s1,s2⟩:=hq e4;have b1:=uV j1.ak;have l1:=j1.al
 refine ab (cnt3 h hz hw e _) λm hm=>ab (aoR j1) λx hx=>ab (aoQ j2 (m:=x) (by omega)) λx2 hx2=>ab (P:=λq=>q=false) ?_ λq hq=>by subst hq;exact ae rfl
 rcases r.ct with⟨p1,p2⟩ | p
 ·exact af (λ_=>ab (FL h hz p1 p2) λb hb=>ae (by rw[hb];rfl)) λ_=>ae rfl
 ·have:=(p s1).2
  exact af (λe=>absurd (show m=x2 by omega) (by simpa using e)) λ_=>ae rfl
end
theorem H5(x:Script):T (eU x):=af (λ_=>ai _) λ_=>ai _
theorem Ei{n:Nat}:(bif decide (((min n 50:Nat):Int)<(n:Int))then some (decide (((min n 50:Nat):Int)<50))else some false)=some false:=by
 by_cases h:n≤50
 ·rw[Nat.min_eq_left h,az];rfl
 ·rw[Nat.min_eq_right (by omega),ay (by omega)]
  rfl
theorem yes{m:Option Bool}(h:Gv m λb=>b=true):m=some true:=by obtain⟨_,e,rfl⟩:=h;exact e
theorem E9:iU=some true:=by kernel_rfl
set_option linter.unusedVariables false
set_option linter.unusedSimpArgs false
theorem wh(a0:Script)(w0:Us fam (.st 12) a0):dA a0=some true:=by
 refine yes ?_;unfold dA;rw[E9,IY]
 refine af (λe=>by cases e) λ_=>ab (H5 a0) λ_ _=>af (λ_=>ae rfl) λ_=>ab aiP λs0 h0=>ab (aJ (λ(s:Gp) i=>(s,i)) (min a0.Vr.length 50) (λk s=>J (6200*k) s) (Q:=λr=>∃u,r = .inr u) (step:=cC a0) (by omega) (λk hk s h=>?_) (λs h=>aw (a:=.inr (.inr ())) (by unfold cC;dsimp only;rw[Ei];rfl) ⟨_,rfl,_,rfl⟩) h0) λr ⟨_,e⟩=>by subst e;exact ae rfl
 unfold cC;dsimp only
 rw[ay (by omega),cond_true,decide_eq_true (by omega),IY,cond_true,aA (by omega),IY]
 exact ab (FN h _) λy hy=>ab (Ii h h (by omega) hy) λz ⟨z1,z2,z3⟩=>ab (cnt2 h z1 z2) λr e=>by subst e;exact ae (.inl ⟨_,rfl,z1.mono (by omega) (by omega)⟩)
end Go.Fx.D
