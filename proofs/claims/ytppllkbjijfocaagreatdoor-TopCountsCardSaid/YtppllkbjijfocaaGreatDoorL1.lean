/-
  The manager: what holds of its state behind every step, first part. Conditions: none.
-/
import Derived.Test.YtppllkbjijfocaaGreatDoorFxC
import Derived.Test.YtppllkbjijfocaaGreatDoorD
import Derived.Lib.Mul64
namespace Go.Fx
open Go
set_option linter.unusedVariables false
def Gv{α : Type}(m:Option α)(P:α→Prop):Prop:=∃a,m=some a∧P a
section
variable{α β τ σ ρ : Type}
theorem ae{P:α→Prop}{a:α}(h:P a):Gv (some a) P:=⟨a,rfl,h⟩
theorem aw{P:α→Prop}{m:Option α}{a:α}(h:m=some a)(k:P a):Gv m P:=⟨a,h,k⟩
theorem ab{m:Option α}{f:α→Option β}{P:α→Prop}{Q:β→Prop}(h:Gv m P)(k:∀a,P a→Gv (f a) Q):Gv (m.bind f) Q:=by obtain⟨a,rfl,ha⟩:=h;exact k a ha
theorem nH{m:Option α}{P Q:α→Prop}(h:Gv m P)(k:∀a,P a→Q a):Gv m Q:=by obtain⟨a,e,ha⟩:=h;exact⟨a,e,k a ha⟩
theorem af{b:Bool}{x y:Option α}{P:α→Prop}(h:b=true→Gv x P)(k:b=false→Gv y P):Gv (cond b x y) P:=by
 cases b
 ·exact k rfl
 ·exact h rfl
theorem aG{m:Option Bool}{f:Bool→Option β}{Q:β→Prop}(h:Gv m λ_=>True)(k:∀b,Gv (f b) Q):Gv (m.bind f) Q:=ab h λb _=>k b
theorem vS{m:Option α}{P:α→Prop}(h:Gv m P):Gv m λ_=>True:=nH h λ_ _=>trivial
theorem gO{l:List α}{i:Int}(h0:0≤i)(h:i<l.length):Gv (idx l i) λx=>x∈l∧l[i.toNat]? = some x:=by
 have hk:i.toNat<l.length:=by omega
 refine⟨l[i.toNat],?_,K_ hk,IZ hk⟩;unfold idx;rw[if_pos h0,IZ hk]
theorem dj{n:Nat}{i:Int}(h0:0≤i)(h:i<n):Gv (Kk i n) λk=>k=i.toNat:=by
 refine⟨i.toNat,?_,rfl⟩;unfold Kk
 rw[if_pos ⟨h0,by omega⟩]
theorem db{l:List α}{k:Nat}(h:k<l.length):Gv (l[k]?) λx=>x∈l∧l[k]? = some x:=
 ⟨l[k],IZ h,K_ h,IZ h⟩
theorem ir{a b:Int}{n:Nat}(h0:0≤a)(h1:a≤b)(h2:b≤n):Gv (Ms a b n) λp=>p=(a.toNat,b.toNat - a.toNat):=by refine⟨_,?_,rfl⟩;unfold Ms;rw[if_pos ⟨h0,h1,h2⟩]
theorem uR{l:List α}{a b:Int}(h0:0≤a)(h1:a≤b)(h2:b≤l.length):Gv (slc l a b) λm=>m=(l.take b.toNat).drop a.toNat:=by refine⟨_,?_,rfl⟩;unfold slc;rw[if_pos ⟨h0,h1,h2⟩]
theorem qh{l:List α}{a b:Int}(h0:0≤a)(h1:a≤b)(h2:b≤l.length):Gv (slc l a b) λm=>(m.length:Int)=b - a∧∀x∈m,x∈l:=by
 refine nH (uR h0 h1 h2) ?_;rintro m rfl
 refine⟨by rw[Nh,Lj];omega,λx hx=>Uu (XJ hx)⟩
theorem Ee{b:Nat}{l m:List α}(h:l.length+m.length≤100000000)(hb:b≤1000):app b l m=some (l++m):=by
 unfold app;rw[if_pos];have e:(l++m).length=l.length+m.length:=I3
 have:(l++m).length*b≤100000000*1000:=WW (by omega) hb
 unfold maxLen;omega
theorem ue{l m:List UInt8}(h:l.length+m.length≤1000000000):cat l m=some (l++m):=by unfold cat;rw[if_pos];rw[WG];omega
theorem A0{x:Int}(h:x≠0):nz x=some ():=by unfold nz;rw[if_pos h]
theorem gP(I:τ→Prop)(m:τ→Nat){step:τ→Option (τ ⊕ ρ)}{Q:ρ→Prop}
  (h:∀t,I t→Gv (step t) λr=>(∃t',r = .inl t'∧I t'∧m t'<m t)∨∃x,r = .inr x∧Q x) {t:τ} (h0:I t):Gv (loop step t) Q:=by
 generalize hn:m t=n
 induction n using Nat.strongRecOn generalizing t with
 | _ n ih=>
  obtain⟨r,e,hr⟩:=h t h0;rw[cR,e];rcases hr with⟨t',rfl,h1,h2⟩ | ⟨x,rfl,hx⟩
  ·exact ih (m t') (by omega) h1 rfl
  ·exact⟨x,rfl,hx⟩
theorem aJ(mk:σ→Int→τ)(n:Nat)(Inv:Nat→σ→Prop){step:τ→Option (τ ⊕ ρ)}{Q:ρ→Prop}(hn:n<1000000000)
  (h1:∀k,k<n→∀s,Inv k s→Gv (step (mk s (k:Int))) λr=>(∃s',r = .inl (mk s' (Jd ((k:Int)+1)))∧Inv (k+1) s')∨∃x,r = .inr x∧Q x)
  (h2:∀s,Inv n s→Gv (step (mk s (n:Int))) λr=>∃x,r = .inr x∧Q x) {s:σ} (h0:Inv 0 s):Gv (loop step (mk s 0)) Q:=by
 have key:∀(m k:Nat),m+k=n→∀s,Inv k s→Gv (loop step (mk s (k:Int))) Q:=by
  intro m
  induction m with
  | zero=>
   intro k hk s hs
   have hk:k=n:=by omega
   subst hk;obtain⟨r,e,x,rfl,hx⟩:=h2 s hs;rw[cR,e];exact⟨x,rfl,hx⟩
  | succ m ih=>
   intro k hk s hs
   obtain⟨r,e,hr⟩:=h1 k (by omega) s hs
   rw[cR,e];rcases hr with⟨s',rfl,hs'⟩ | ⟨x,rfl,hx⟩
   ·have:Jd ((k:Int)+1)=((k+1:Nat):Int):=by
     simp only[Jd,IntKind.wrap,IntKind.bits,IntKind.signed];simp;omega
    rw[this]
    exact ih (k+1) (by omega) s' hs'
   ·exact⟨x,rfl,hx⟩
 exact key n 0 rfl s h0
theorem C3(mk:σ→Int→τ)(l:List α)(f:σ→α→σ)(Inv:Nat→σ→Prop)(fin:σ→ρ){step:τ→Option (τ ⊕ ρ)}(hn:l.length<1000000000)
  (h1:∀k (hk:k<l.length) s,Inv k s→step (mk s (k:Int))=some (.inl (mk (f s l[k]) (Jd ((k:Int)+1))))∧Inv (k+1) (f s l[k]))
  (h2:∀s,Inv l.length s→step (mk s (l.length:Int))=some (.inr (fin s))) {s:σ} (h0:Inv 0 s):loop step (mk s 0)=some (fin (l.foldl f s))∧Inv l.length (l.foldl f s):=by
 have h:=aJ (Q:=λx=>x=fin (l.foldl f s)∧Inv l.length (l.foldl f s)) mk l.length (λk s'=>s'=(l.take k).foldl f s∧Inv k s') (step:=step) hn ?_ ?_ (s:=s) ⟨by simp,h0⟩
 ·obtain⟨x,e,rfl,hx⟩:=h;exact⟨e,hx⟩
 ·rintro k hk s' ⟨rfl,hs⟩;obtain⟨e,hi⟩:=h1 k hk _ hs;refine aw e (.inl ⟨_,rfl,?_,hi⟩);rw[Ux hk,List.foldl_append];rfl
 ·rintro s' ⟨rfl,hs⟩;have e:=h2 _ hs;rw[SL]at hs e;rw[SL];exact aw e ⟨_,rfl,rfl,hs⟩
theorem BF(l:List α)(p:α→Bool){step:Int→Option (Int ⊕ Int)}(hn:l.length<1000000000)
  (h1:∀k (hk:k<l.length),step (k:Int)=some (if p l[k]=true then .inl (Jd ((k:Int)+1))else .inr (k:Int))) (h2:step (l.length:Int)=some (.inr (l.length:Int))) :
  loop step 0=some ((l.takeWhile p).length:Int):=by
 have h:=aJ (σ:=Unit) (Q:=λx=>x=((l.takeWhile p).length:Int)) (λ_ i=>i) l.length (λk _=>∀x∈l.take k,p x=true) (step:=step) hn ?_ ?_ (s:=()) (by simp)
 ·obtain⟨x,e,rfl⟩:=h;exact e
 ·intro k hk _ hs;refine aw (h1 k hk) ?_
  cases hp:p l[k]with
  | true=>
   rw[if_pos rfl];refine .inl ⟨(),rfl,?_⟩;rw[Ux hk];intro x hx;rcases Mr.1 hx with hx | hx
   ·exact hs x hx
   ·rw[I4]at hx;subst hx;exact hp
  | false=>
   rw[if_neg (by simp)]
   refine .inr ⟨_,rfl,?_⟩
   have:l.takeWhile p=l.take k:=by
    conv=>lhs;rw[← Uw k l]
    rw[List.takeWhile_append_of_pos hs,QdH hk,List.takeWhile_cons_of_neg (by simp[hp])]
    simp
   rw[this,Lj];omega
 ·intro _ hs;refine aw h2 ⟨_,rfl,?_⟩;rw[SL]at hs;have:=List.takeWhile_append_of_pos (p:=p) (l₂:=[]) hs;rw[XI]at this;rw[this];simp
theorem IM{x:Int}(h1:-9223372036854775808≤x)(h2:x<9223372036854775808):Jd x=x:=by simp only[Jd,IntKind.wrap,IntKind.bits,IntKind.signed];simp;omega
theorem aA{l:List α}{k:Nat}(h:k<l.length):idx l (k:Int)=some l[k]:=by
 unfold idx
 rw[if_pos (by omega),Ut,IZ h]
theorem aH{n k:Nat}(h:k<n):Kk (k:Int) n=some k:=by
 unfold Kk
 rw[if_pos ⟨by omega,by omega⟩,Ut]
theorem ay{k n:Nat}(h:k<n):decide ((k:Int)<(n:Int))=true:=decide_eq_true (by omega)
theorem az{n:Nat}:decide ((n:Int)<(n:Int))=false:=decide_eq_false (by omega)
end
end Go.Fx
namespace Go.Fx.D
open Go Go.Fx
set_option linter.unusedVariables false
set_option linter.unusedSimpArgs false
abbrev Str:=List UInt8
section
variable{α β σ τ ρ : Type}
theorem aF{x:Int}(h1:-9223372036854775808≤x)(h2:x<9223372036854775808):Jd x=x:=IM h1 h2
theorem Rm{k:Nat}(h:k<1000000000):Jd ((k:Int)+1)=((k+1:Nat):Int):=by rw[aF (by omega) (by omega)];omega
def fx(p:α→Bool)(l:List α):Int:=if l.findIdx p<l.length then l.findIdx p else -1
theorem be{p:α→Bool}{l:List α}(h:0≤fx p l):∃(k:Nat)(hk:k<l.length),fx p l=k∧p l[k]=true∧l.find? p=some l[k]∧∀j (hj:j<k),p l[j]=false:=by
 unfold fx at h ⊢;split at h
 ·rename_i hk
  refine⟨_,hk,by rw[if_pos hk],List.findIdx_getElem,?_,λj hj=>by simpa using List.not_of_lt_findIdx hj⟩
  rw[QeM]
  exact⟨List.findIdx_getElem,_,hk,rfl,λj hj=>by simpa using List.not_of_lt_findIdx hj⟩
 ·omega
theorem cJ{p:α→Bool}{l:List α}(h:fx p l<0):fx p l = -1∧l.find? p=none∧∀x∈l,p x=false:=by
 unfold fx at h ⊢;split at h
 ·omega
 ·rename_i hk
  have:=List.findIdx_eq_length.1 (Nat.le_antisymm (List.findIdx_le_length (p:=p) (xs:=l)) (by omega))
  exact⟨by rw[if_neg hk],by simpa using this,by simpa using this⟩
theorem Uq{l:List α}{p:α→Bool}{step:Int→Option (Int ⊕ (Int ⊕ Unit))}(hn:l.length≤1000000)
  (h:∀t:Int,step t=bif decide (t<(l.length:Int))then(idx l t).bind λx=>bif p x then some (.inr (.inl t))else some (.inl (Jd (t+1)))else some (.inr (.inr ()))) :
  ((loop step 0).bind λq0=>match q0 with | .inl q=>some q | .inr _=>some (-1))=some (fx p l):=by
 have h:=aJ (σ:=Unit) (Q:=λx=>x=if 0≤fx p l then .inl (fx p l)else .inr ()) (λ_ i=>i) l.length (λk _=>∀j (hj:j<l.length),j<k→p l[j]=false) (step:=step) (by omega) ?_ ?_ (s:=()) (by simp)
 ·obtain⟨x,e,rfl⟩:=h;rw[e];split
  ·rfl
  ·rw[(cJ (by omega)).1];rfl
 ·intro k hk _ hs;rw[h,ay hk,cond_true,aA hk,IY]
  cases hp:p l[k]
  ·exact ae (.inl ⟨(),rfl,λj hj h=>if e:j=k then by subst e;exact hp else hs j hj (by omega)⟩)
  ·refine ae (.inr ⟨_,rfl,?_⟩)
   have:l.findIdx p=k:=(List.findIdx_eq hk).2 ⟨hp,λj hj=>by simpa using hs j (by omega) hj⟩
   unfold fx
   rw[this,if_pos hk,if_pos (by omega)]
 ·intro _ hs;rw[h,az];refine ae ⟨_,rfl,?_⟩;rw[if_neg];intro h0;obtain⟨k,hk,_,h2,_⟩:=be h0;rw[hs k hk hk]at h2;cases h2
theorem xX{τ ρ σ : Type}(mk:σ→Int→τ)(step:τ→Option (τ ⊕ ρ))(n:Nat)(Inv:Nat→σ→Prop)(fin:σ→ρ)
  (h1:∀k,k<n→∀s,Inv k s→∃s',step (mk s (k:Int))=some (.inl (mk s' ((k+1:Nat):Int)))∧Inv (k+1) s')
  (h2:∀s,Inv n s→step (mk s (n:Int))=some (.inr (fin s))) {s:σ} (h0:Inv 0 s):∃s',loop step (mk s 0)=some (fin s')∧Inv n s':=by
 have key:∀(m k:Nat),m+k=n→∀s,Inv k s→∃s',loop step (mk s (k:Int))=some (fin s')∧Inv n s':=by
  intro m
  induction m with
  | zero=>
   intro k hk s hs
   have hk:k=n:=by omega
   subst hk
   exact⟨s,by rw[cR,h2 s hs],hs⟩
  | succ m ih=>
   intro k hk s hs
   obtain⟨s',e,hs'⟩:=h1 k (by omega) s hs
   rw[cR,e]
   exact ih (k+1) (by omega) s' hs'
 exact key n 0 rfl s h0
theorem qZ{α : Type}{t:List α}{i:Nat}{x:α}(hi:i<t.length):(t.set i x).take (i+1)=t.take i++[x]:=by
 have h:i<(t.set i x).length:=by rw[RJ];exact hi
 rw[Ux h,QdU,List.take_set_of_le (KC i)]
theorem GK{α : Type}{s t:List α}{j:Nat}(h:t.drop j=s.drop j)(hs:j<s.length)(ht:j<t.length):t[j]=s[j]:=by rw[QdH ht,QdH hs]at h;exact(List.cons.inj h).1
theorem xw{α : Type}{s t:List α}{j:Nat}(h:t.drop j=s.drop j):t.drop (j+1)=s.drop (j+1):=by rw[← Zy,← Zy,h]
theorem Xr{α σ τ ρ : Type}(p:α→Bool)(acc:σ→α→σ)(I:Nat→σ→Prop)(mk:List α→σ→Int→Int→τ)(fin:List α→σ→Int→ρ){step:τ→Option (τ ⊕ ρ)}{s:List α}
  (h1:∀(t:List α)(a:σ)(i j:Nat)(hi:i<t.length) (hj:j<t.length),t.length=s.length→I j a→step (mk t a (i:Int) (j:Int))=some (.inl (mk (if p t[j]=true then t else t.set i t[j]) (acc a t[j]) ((if p t[j]=true then i else i+1:Nat):Int) ((j+1:Nat):Int)))∧I (j+1) (acc a t[j]))
  (h2:∀(t:List α)(a:σ)(i:Nat),t.length=s.length→step (mk t a (i:Int) (s.length:Int))=some (.inr (fin t a i))) :
  ∀(m j:Nat),m+j=s.length→∀(t:List α)(a:σ)(i:Nat),i<j→t.length=s.length→I j a→t.take i=(s.take j).filter (λx=>!p x)→t.drop j=s.drop j→
   ∃(t':List α)(i':Nat),loop step (mk t a (i:Int) (j:Int))=some (fin t' ((s.drop j).foldl acc a) i')∧t'.length=s.length∧i'≤s.length∧t'.take i'=s.filter (λx=>!p x)∧I s.length ((s.drop j).foldl acc a)
 | 0,j,hm,t,a,i,hij,hl,ha,ht,hd=>by
  have hj:j=s.length:=by omega
  subst hj;rw[SL]at ht
  refine⟨t,i,?_,hl,by omega,ht,?_⟩
  ·rw[cR,h2 t a i hl,QeE];rfl
  ·rw[QeE];exact ha
 | m+1,j,hm,t,a,i,hij,hl,ha,ht,hd=>by
  have hj:j<s.length:=by omega
  have hjt:j<t.length:=by omega
  obtain⟨e,ha'⟩:=h1 t a i j (by omega) hjt hl ha
  have hx:t[j]=s[j]:=GK hd hj hjt;rw[hx]at e ha';rw[cR,e,QdH hj,List.foldl_cons];dsimp only
  cases hp:p s[j]with
  | true=>
   rw[if_pos rfl,if_pos rfl]
   refine Xr p acc I mk fin h1 h2 m (j+1) (by omega) t _ i (by omega) hl ha' ?_ (xw hd)
   rw[Ux hj,XH,ht];simp[hp]
  | false=>
   rw[if_neg (by simp),if_neg (by simp)]
   refine Xr p acc I mk fin h1 h2 m (j+1) (by omega) _ _ (i+1) (by omega) (by rw[RJ];exact hl) ha' ?_ ?_
   ·rw[qZ (by omega),Ux hj,XH,ht]
    simp[hp]
   ·rw[List.drop_set_of_lt (by omega)]
    exact xw hd
theorem yR{α : Type}{t:List α}{i:Nat}(h:i≤t.length)(z:α){β : Type}(f:List α→Option β):((Ms (i:Int) (t.length:Int) t.length).bind λp=>(Ms 0 (i:Int) (LP t p.1 p.2 (List.replicate p.2 z)).length).bind λq=>f (List.take q.2 (LP t p.1 p.2 (List.replicate p.2 z))))=f (t.take i):=by
 have e1:Ms (i:Int) (t.length:Int) t.length=some (i,t.length - i):=by
  unfold Ms
  rw[if_pos (by omega)]
  simp
 rw[e1,IY];dsimp only
 have e2:LP t i (t.length - i) (List.replicate (t.length - i) z)=t.take i++List.replicate (t.length - i) z:=by
  unfold LP
  rw[List.length_replicate,Nat.min_self,List.take_replicate,Nat.min_self,show i+(t.length - i)=t.length by omega,QeE,XI]
 rw[e2]
 have e3:Ms 0 (i:Int) (t.take i++List.replicate (t.length - i) z).length=some (0,i):=by
  unfold Ms
  rw[if_pos (by simp;omega)]
  simp
 rw[e3,IY];show f (List.take i (t.take i++_))=_
 rw[List.take_append_of_le_length (by rw[Lj];omega),List.take_take,Nat.min_self]
theorem bi{α : Type}{b:Nat}{l m:List α}(h:(l++m).length≤1000000)(hb:b≤100000):app b l m=some (l++m):=by unfold app;rw[if_pos];have:(l++m).length*b≤1000000*100000:=WW h hb;unfold maxLen;omega
theorem bh{α : Type}{b:Nat}{l:List α}(h:l.length≤1000000)(hb:b≤100000):app b [] l=some l:=by
 have:=bi (b:=b) (l:=[]) (m:=l) (by simpa using h) hb
 simpa using this
theorem j7{α : Type}{b:Nat}{n:Nat}{z:α}(h:n≤1000000)(hb:b≤100000):P7 b (n:Int) (n:Int) z=some (List.replicate n z):=by
 unfold P7;rw[if_pos]
 ·simp
 ·have:b*n≤100000*1000000:=WW hb h
  refine⟨by omega,by omega,?_,?_⟩<;>simp only[Ut]<;>unfold maxLen at * <;> omega
theorem Ak{α : Type}{l m:List α}(h:l.length=m.length):LP l 0 l.length m=m:=by unfold LP;rw[h,SL,Nat.min_self,← h];simp
theorem aQ(mk:σ→Int→τ)(n:Nat)(I:σ→Prop){step:τ→Option (τ ⊕ ρ)}{Q:ρ→Prop}(hn:n≤1000000)
  (h1:∀k,k<n→∀s,I s→Gv (step (mk s (k:Int))) λr=>(∃s',r = .inl (mk s' (Jd ((k:Int)+1)))∧I s')∨∃x,r = .inr x∧Q x)
  (h2:∀s,I s→Gv (step (mk s (n:Int))) λr=>∃x,r = .inr x∧Q x) {s:σ} (h0:I s):Gv (loop step (mk s 0)) Q:=
 aJ mk n (λ_=>I) (by omega) (λk hk s hs=>h1 k hk s hs) (λs hs=>h2 s hs) h0
abbrev T{α : Type}(m:Option α):Prop:=Gv m λ_=>True
theorem ai(a:α):T (some a):=⟨a,rfl,trivial⟩
theorem t_eq{m:Option α}{a:α}(h:m=some a):T m:=⟨a,h,trivial⟩
end
set_option linter.unusedVariables false
set_option linter.unusedSimpArgs false
structure JA(N:Nat)(a:App):Prop where
 al:a.Jy.length≤8
 ak:∀x∈a.Jy,1≤x.Ky∧x.Ky≤50
 g:a.Kj.length≤N
 ki:a.KJ.length≤N
 to:a.Told.length≤N
 lo:a.Lm.length≤N
 q:a.Ja≠[]∧a.Ja.length≤2000
structure JC(c:Jc):Prop where
 l:1≤c.Je.length∧c.Je.length≤3
 q:1≤c.I8.length∧c.I8.length≤16
 d:(c.I8.map (·.Kh)).Nodup
 k:∀q∈c.I8,q.KZ.length≤3∧(q.Kh.length≤2000∧q.Kh≠[])∧∀x∈q.KZ,x.LB≤10000∧x.Most≤10000
def VB(n:Int)(v:Vec):Prop:=(0≤v.Mem∧v.Mem≤n)∧0≤v.I_∧v.I_≤n
def live(a:App):Bool:=a.Gp == 1||a.Gp == 2
structure J(N:Nat)(s:Gp):Prop where
 c:JC s.Jc
 n:s.Jh.length≤12
 a:s.I9.length≤16
 ad:(s.I9.map (·.Id)).Nodup
 ak:∀a∈s.I9,JA N a
 k:s.I6.length≤200
 kk:∀c∈s.I6,(1≤c.Id∧c.Id≤s.Jz*1048576+s.Seq)∧∃a∈s.I9,a.Id=c.App∧live a=true
 l:s.Jr.length≤N
 p:s.Jq.length≤12
 e:(0≤s.Jz∧s.Jz≤1048576)∧0≤s.Seq∧s.Seq≤1048575
 b:N≤1000000
 nk:∀n∈s.Jh,VB 1073741824 n.Cap
theorem sX{l:List Int}(h:l.length≤1000000):iu l=some l:=by
 unfold iu
 rw[j7 (by omega) (by omega),IY,Ak (by simp)]
theorem nS{N:Nat}{a:App}(h:JA N a)(b:N≤1000000):ie a=some a:=by
 have⟨h1,_,h2,h3,h4,h5,_⟩:=h;unfold ie lq
 rw[bh (by omega) (by omega),sX (by omega),sX (by omega),sX (by omega),sX (by omega)]
 rfl
theorem Xt:∀k:Nat,Nat.ble k k=true
 | 0=>rfl
 | k+1=>Xt k
theorem FW{α : Type}(l:List α){step:List α×Nat×Int→Option ((List α×Nat×Int) ⊕ (List α×Nat×Int))}(hn:l.length≤1000000)
  (h1:∀k (hk:k<l.length),step (l,k,(k:Int))=some (.inl (l.set k l[k],k+1,Jd ((k:Int)+1)))) (h2:step (l,l.length,(l.length:Int))=some (.inr (l,l.length,(l.length:Int)))):loop step (l,0,0)=some (l,l.length,(l.length:Int)):=by
 obtain⟨x,e,hx⟩:=xX (λ(v:List α)(k:Int)=>(v,k.toNat,k)) step l.length (λ_ v=>v=l) (λv=>(v,l.length,(l.length:Int))) (by
  rintro k hk v rfl
  exact⟨v,by rw[Ut,h1 k hk,Rm (by omega),QeQ,Ut],rfl⟩) (by
  rintro v rfl;exact h2) (s:=l) rfl
 rw[← hx];exact hx▸e
theorem FP{α : Type}(l:List α){step:List α×Int→Option ((List α×Int) ⊕ List α)}(hn:l.length≤1000000)
  (h1:∀k (hk:k<l.length),step (l,(k:Int))=some (.inl (l.set k l[k],Jd ((k:Int)+1)))) (h2:step (l,(l.length:Int))=some (.inr l)):loop step (l,0)=some l:=by
 obtain⟨x,e,rfl⟩:=xX (λ(v:List α)(k:Int)=>(v,k)) step l.length (λ_ v=>v=l) (λv=>v) (by
  rintro k hk v rfl
  exact⟨v,by rw[h1 k hk,Rm (by omega),QeQ],rfl⟩) (by
  rintro v rfl;exact h2) (s:=l) rfl
 exact e
section
variable{N:Nat}{s:Gp}(h:J N s)
include h
theorem vk:oI s=some s:=by
 have⟨⟨c1,c2,_,c3⟩,n,a,_,ak,k,_,l,p,_,b,_⟩:=h;unfold oI aW iN jO ef jC jU lm
 rw[bh (by omega) (by omega),bh (by omega) (by omega),bh (by omega) (by omega),bh (by omega) (by omega),bh (by omega) (by omega),bh (by omega) (by omega),bh (by omega) (by omega)]
 simp only[IY]
 rw[FW s.Jc.I8 (step:=lY s.Jc.I8) (by omega) (λi hk=>by simp[lY,hk,aH hk,Xt,ip,bh (l:=s.Jc.I8[i].KZ) (b:=16) (by have:=c3 _ (K_ hk);omega)];exact QeQ hk) (by simp[lY]),
  FW s.I9 (step:=lZ s.I9) (by omega) (λi hk=>by simp[lZ,hk,aH hk,Xt,nS (ak _ (K_ hk)) b]) (by simp[lZ])]
 simp[Xt]
theorem qK:gp s=some s:=by
 have⟨⟨c1,c2,_,c3⟩,n,a,_,ak,k,_,l,p,_,b,_⟩:=h;unfold gp aW iN jO ef jC jU lm
 rw[bh (by omega) (by omega),bh (by omega) (by omega),bh (by omega) (by omega),bh (by omega) (by omega),bh (by omega) (by omega),bh (by omega) (by omega),bh (by omega) (by omega)]
 simp only[IY]
 rw[FP s.Jc.I8 (step:=gE s.Jc.I8) (by omega) (λi hk=>by simp[gE,hk,aH hk,ip,bh (l:=s.Jc.I8[i].KZ) (b:=16) (by have:=c3 _ (K_ hk);omega)];exact QeQ hk) (by simp[gE]),
  FP s.I9 (step:=eZ s.I9) (by omega) (λi hk=>by simp[eZ,hk,aH hk,nS (ak _ (K_ hk)) b]) (by simp[eZ])]
 rfl
theorem rT:mA s=some s:=by
 rw[← qK h];unfold mA gp;have e1:rK=gE:=rfl
 have e2:nN=eZ:=by funext l t;simp only[nN,eZ,ie,Option.bind_assoc,IY];rfl
 rw[e1,e2]
end
set_option linter.unusedVariables false
set_option linter.unusedSimpArgs false
section
variable{α : Type}{p:α→Bool}
theorem nJ{l:List α}{i j:Nat}{a x:α}(h:x∈l.take i++[a]++l.drop j):x∈l∨x=a:=by simp only[Mr,I4]at h;exact h.elim (·.elim (λh=>.inl (Uu h)) .inr) λh=>.inl (XJ h)
theorem AD{l:List α}{k:Nat}(hk:k<l.length)(hp:p l[k]=true)(h:∀j (hj:j<k),p l[j]=false):(l.take (k+1)).filter (λx=>!p x)=l.take k:=by
 rw[Ux hk,XH,QeV.2]
 ·simp[hp]
 ·intro x hx;obtain⟨j,hj,rfl⟩:=WZ hx
  rw[List.getElem_take,h j (by rw[Lj]at hj;omega)];rfl
theorem dlf{s:List α}(z:α)(hn:s.length≤1000000){step:List α×Int×Int→Option ((List α×Int×Int) ⊕ (List α×Int))}
  (h:∀t,step t=bif decide (t.2.2<(t.1.length:Int))then((Kk t.2.2 t.1.length).bind λi1=>(t.1[i1]?).bind λx=>bif ! p x then(Kk t.2.1 t.1.length).bind λi2=>(t.1[i2]?).bind λx1=>some (List.set t.1 i2 x,Jd (t.2.1+1))else some (t.1,t.2.1)).bind λq=>some (.inl (q.1,q.2,Jd (t.2.2+1)))else some (.inr (t.1,t.2.1))) :
  (bif fx p s == (-1)then some s else(loop step (s,fx p s,Jd (fx p s+1))).bind λq1=>(Ms q1.2 (q1.1.length:Int) q1.1.length).bind λp=>(Ms 0 q1.2 (LP q1.1 p.1 p.2 (List.replicate p.2 z)).length).bind λp1=>some (List.take p1.2 (LP q1.1 p.1 p.2 (List.replicate p.2 z))))=some (s.filter λx=>!p x):=by
 by_cases h0:0≤fx p s
 ·obtain⟨k,hk,e,hp,_,hl⟩:=be h0
  obtain⟨t,i,e1,h1,h2,h3,_⟩:=Xr p (λ(u:Unit) _=>u) (λ_ _=>True) (λt _ i j=>(t,i,j)) (λt _ i=>(t,i)) (step:=step) (s:=s) (λt u i j hi hj hl _=>⟨by
   rw[h]
   cases hq:p t[j]<;>simp[hj,hi,aH,hq,Rm (show j<1000000000 by omega),Rm (show i<1000000000 by omega)],trivial⟩) (λt u i hl=>by rw[h];simp[hl]) (s.length - (k+1)) (k+1) (by omega) s () k (by omega) rfl trivial (AD hk hp hl).symm rfl
  rw[e,show((k:Int) == -1)=false by rw[beq_eq_false_iff_ne];omega,cond_false,Rm (by omega),e1,IY]
  dsimp only
  rw[yR (by omega) _ some,h3]
 ·obtain⟨e,_,h1⟩:=cJ (SN.1 h0)
  rw[e,QeV.2 (λx hx=>by rw[h1 x hx];rfl)]
  rfl
end
section
variable{f:Js fam [.st 7]→Option Bool}{g:Js fam [.st 8]→Option Bool}{e:Js fam [.int .i64]→Option Bool}{d:Js fam [.st 5]→Option Bool}
theorem cIx(s:List Cont)(hn:s.length≤1000000)(p:Cont→Bool)(hf:∀x,f (x,())=some (p x)):eB s f=some (fx p s):=Uq hn λt=>by simp[pe,hf]
theorem sIx(s:List Slot)(hn:s.length≤1000000)(p:Slot→Bool)(hf:∀x,g (x,())=some (p x)):gI s g=some (fx p s):=Uq hn λt=>by simp[oq,hf]
theorem iIx(s:List Int)(hn:s.length≤1000000)(p:Int→Bool)(hf:∀x,e (x,())=some (p x)):bY s e=some (fx p s):=Uq hn λt=>by simp[fd,hf]
theorem aIx(s:List Ask)(hn:s.length≤1000000)(p:Ask→Bool)(hf:∀x,d (x,())=some (p x)):kz s d=some (fx p s):=Uq hn λt=>by simp[pc,hf]
theorem abR(s:List Slot)(hn:s.length≤1000000)(p:Slot→Bool)(hf:∀x,g (x,())=some (p x)):eV s g=some (s.filter λx=>!p x):=by
 unfold eV;rw[sIx s hn p hf]
 exact dlf _ hn λt=>by simp[oO,hf]
theorem ab7(s:List Int)(hn:s.length≤1000000)(p:Int→Bool)(hf:∀x,e (x,())=some (p x)):bn s e=some (s.filter λx=>!p x):=by
 unfold bn;rw[iIx s hn p hf]
 exact dlf _ hn λt=>by simp[eR,hf]
theorem acC(s:List Ask)(hn:s.length≤1000000)(p:Ask→Bool)(hf:∀x,d (x,())=some (p x)):kb s d=some (s.filter λx=>!p x):=by
 unfold kb;rw[aIx s hn p hf]
 exact dlf _ hn λt=>by simp[oV,hf]
end
set_option linter.unusedVariables false
set_option linter.unusedSimpArgs false
theorem DH(c:Cont)(p:Int){l:List Int}(h:l.length≤1000):h_ c p l=some (c.App == p,if(c.App == p)=true then l++[c.Id]else l):=by
 unfold h_
 cases c.App == p<;>simp[bi (b:=8) (l:=l) (m:=[c.Id]) (by simp;omega)]
theorem aoS(s:List Cont)(hn:s.length≤500)(i:Int):∃g,fI s () i []=some (s.filter λc=>!(c.App == i),g):=by
 unfold fI;have e:=aJ (σ:=List Int) (Q:=λx=>(∃k,∃(hk:k<s.length),(s[k].App == i)=true∧(∀j (hj:j<k),(s[j].App == i)=false)∧x=(.inl ([s[k].Id],(k:Int)):(List Int×Int) ⊕ List Int))∨((∀j (hj:j<s.length),(s[j].App == i)=false)∧x = .inr []))
  (λa k=>(a,k)) s.length (λk a=>(∀j (hj:j<s.length),j<k→(s[j].App == i)=false)∧a = []) (step:=fV s i) (by omega) ?_ ?_ (s:=[]) ⟨by simp,rfl⟩
 ·obtain⟨x,e,hx⟩:=e;unfold k_;rw[e];rcases hx with⟨k,hk,b,hl,rfl⟩ | ⟨a,rfl⟩
  ·obtain⟨t,j,e1,h1,h2,h3,_⟩:=Xr (λx:Cont=>x.App == i) (λ(l:List Int) c=>if(c.App == i)=true then l++[c.Id]else l) (λk l=>l.length≤k) (λt l i j=>(t,l,i,j)) (λt l i=>(t,l,i)) (step:=fG i) (s:=s) (λt l j m hj hm hl hlen=>⟨by
    have:=DH t[m] i (l:=l) (by omega)
    cases hq:t[m].App == i<;>simp[fG,hj,hm,aH,this,hq,Rm (show j<1000000000 by omega),Rm (show m<1000000000 by omega)],by grind⟩)
    (λt u i hl=>by simp[fG,hl]) (s.length - (k+1)) (k+1) (by omega) s [s[k].Id] k (by omega) rfl (by simp) (AD (p:=λx:Cont=>x.App == i) hk b hl).symm rfl
   rw[IY,IY];dsimp only
   rw[show((k:Int) == -1)=false by rw[beq_eq_false_iff_ne];omega,cond_false,Rm (by omega),e1,IY]
   dsimp only
   rw[yR (by omega) _ (λx=>some (x,_)),h3]
   exact⟨_,rfl⟩
  ·refine⟨[],?_⟩;rw[QeV.2]
   ·rfl
   ·intro x hx;obtain⟨j,hj,rfl⟩:=WZ hx;rw[a j hj];rfl
 ·rintro k hk _ ⟨hs,rfl⟩;unfold fV;dsimp only
  rw[ay hk,cond_true,aH hk,IY,IZ hk,IY,DH _ _ (by simp),IY]
  cases hq:s[k].App == i with
  | true=>exact ae (.inr ⟨_,rfl,.inl ⟨k,hk,hq,λj hj=>hs j (by omega) hj,rfl⟩⟩)
  | false=>exact ae (.inl ⟨[],rfl,λj hj h=>if e:j=k then by subst e;exact hq else hs j hj (by omega),rfl⟩)
 ·rintro _ ⟨hs,rfl⟩;unfold fV;dsimp only;rw[az];exact ae ⟨_,rfl,.inr ⟨λj hj=>hs j hj hj,rfl⟩⟩
def Oh(s:Gp)(i:Int):Gp:={ s with I6:=s.I6.filter λc=>!(c.App == i),Jr:=s.Jr.filter λx=>!(x.App == i) }
theorem xR{N:Nat}{s:Gp}(h:s.I6.length≤200∧s.Jr.length≤1000000)(i:Int):∃g,j6 s i=some (Oh s i,g):=by
 obtain⟨g,e⟩:=aoS s.I6 (by omega) i
 unfold j6;rw[e,IY,abR s.Jr h.2 (λx=>x.App == i) λx=>rfl];exact⟨g,rfl⟩
theorem BP:n_=j6:=rfl
def ax(s:Gp)(i:Int):Int:=fx (λa:App=>a.Id == i) s.I9
theorem pIx{f:Js fam [.st 6]→Option Bool}(s:List App)(hn:s.length≤1000000)(p:App→Bool)(hf:∀x,f (x,())=some (p x)):jg s f=some (fx p s):=Uq hn λt=>by simp[qg,hf]
theorem th{s:Gp}(h:s.I9.length≤1000000)(i:Int):jW s i=some (ax s i):=by unfold jW;rw[pIx s.I9 h (λa=>a.Id == i) λx=>rfl];rfl
abbrev noA:App:=⟨0,0,[],0,0,⟨0,0⟩,[],0,0,[],[],[],[]⟩
def fnd(s:Gp)(i:Int):Option App:=s.I9.find? λa=>a.Id == i
theorem Ax{N:Nat}{s:Gp}(h:J N s)(i:Int):di s i=some ((fnd s i).elim (noA,false) λa=>(a,true)):=by
 have:=h.a;unfold di fnd
 rw[th (by omega),IY]
 by_cases h0:0≤ax s i
 ·obtain⟨k,hk,e,_,hf,_⟩:=be h0
  rw[show ax s i=k from e,hf]
  simp[aA hk,nS (h.ak _ (K_ hk)) h.b,decide_eq_false (show¬ (k:Int)<0 by omega)]
 ·obtain⟨e,hf,_⟩:=cJ (SN.1 h0)
  rw[show ax s i = -1 from e,hf]
  rfl
theorem me{l:List Ask}(h:l.length≤1000):kY l=some l:=by
 unfold kY
 rw[j7 (by omega) (by omega),IY,Ak (by simp)]
theorem iI(a:App):ci a=some (live a):=by
 unfold ci live
 cases a.Gp == 1<;>rfl
theorem Zn{α : Type}{l:List α}{p:α→Bool}{step:Int→Option (Int ⊕ Int)}(hn:l.length≤1000000)
  (h:∀k:Int,step k=(bif decide (k<(l.length:Int))then(Kk k l.length).bind λi=>(l[i]?).bind λx=>some (p x)else some false).bind λq=>bif q then some (.inl (Jd (k+1)))else some (.inr k)):∃k:Nat,k≤l.length∧loop step 0=some (k:Int):=
 ⟨_,(List.takeWhile_sublist p).length_le,BF l p (by omega) (λk hk=>by rw[h];cases e:p l[k]<;>simp[hk,aH hk,e]) (by rw[h];simp)⟩
def cnt(l:List Ask):Int:=(l.map (·.Ky)).sum
def ky(x:Ask):Int×Int×Vec:=(x.J6,x.Ji,x.Ku)
def kc(x:Ask):(Int×Int×Vec)×Int:=(ky x,x.Ky)
def CO(l:List Ask):Prop:=l.length≤8∧∀x∈l,1≤x.Ky∧x.Ky≤50
theorem aav:∀{l:List Ask}{k:Nat}(hk:k<l.length)(y:Ask),cnt (l.set k y)+l[k].Ky=cnt l+y.Ky∧cnt (l.take k++l.drop (k+1))+l[k].Ky=cnt l
 | x::l,0,_,y=>by simp[cnt];omega
 | x::l,k+1,h,y=>by have:=aav (l:=l) (k:=k) (by simpa using h) y;simp[cnt]at *;omega
theorem uT{l:List Ask}(h:l.length≤1000)(i:Int):p8 l i=some (fx (λx:Ask=>x.J6 == i) l):=by
 unfold p8
 rw[aIx l (by omega) (λx=>x.J6 == i) λx=>rfl]
 rfl
theorem Vm{α β : Type}{f:α→β}{l:List α}{k:Nat}(hk:k<l.length){y:α}(h:f y=f l[k]):(l.set k y).map f=l.map f:=List.ext_getElem (by simp) (by grind)
theorem Hx{l:List Ask}(h:l.length≤8)(i:Int):Gv (pm l i) λr=>r.map kc=l.map kc:=by
 unfold pm
 rw[me (by omega),IY,uT (by omega),IY]
 by_cases h0:0≤fx (λx:Ask=>x.J6 == i) l
 ·obtain⟨k,hk,e,_⟩:=be h0;rw[e];simp[aH hk,hk];exact ae (Vm hk rfl)
 ·rw[(cJ (SN.1 h0)).1];exact ae rfl
theorem Gf{l:List Ask}(h:CO l){x:Ask}(hx:x∈l):Gv (pB l x.J6) λr=>CO r.1∧cnt r.1+1=cnt l∧∀y∈r.1,∃z∈l,ky z=ky y:=by
 have hl:=h.1;unfold pB
 rw[me (by omega),IY,uT (by omega),IY]
 by_cases h0:0≤fx (λy:Ask=>y.J6 == x.J6) l
 ·obtain⟨k,hk,e,_⟩:=be h0;have⟨b1,b2⟩:=h.2 _ (K_ hk)
  rw[e,decide_eq_false (show¬ (k:Int)<0 by omega)]
  simp[aH hk,hk,nZ,Rm (show k<1000000000 by omega),aF (x:=l[k].Ky - 1) (by omega) (by omega)]
  by_cases h1:l[k].Ky - 1≤0
  ·simp[h1,del]
   rw[if_pos (by omega),List.take_set_of_le (KC k),List.drop_set_of_lt (by omega)]
   apply ae;have:=(aav hk x).2
   exact⟨by grind [CO],by grind,by grind⟩
  ·simp[h1];apply ae
   refine⟨by grind [CO],?_,λy hy=>(SX hy).elim (λh=>⟨y,h,rfl⟩) λh=>⟨l[k],K_ hk,by rw[h];rfl⟩⟩
   have:=(aav hk (⟨l[k].J6,l[k].Ji,⟨l[k].Ku.Mem,l[k].Ku.I_⟩,l[k].Ky - 1,l[k].Node,l[k].KL,0⟩:Ask)).1;dsimp only at *;omega
 ·have:=(cJ (SN.1 h0)).2.2 x hx;simp at this
theorem IA{l:List Ask}(h:CO l){a:Ask}(ha:0≤a.Ky∧a.Ky≤50):Gv (la l a) λr=>CO r.1:=by
 have hl:=h.1;unfold la
 rw[me (by omega),IY,acC l (by omega) (λx=>x.J6 == a.J6) λx=>rfl,IY]
 have hf:CO (l.filter λx=>!(x.J6 == a.J6)):=⟨MP (Uv _ _) hl,λx hx=>h.2 x (WX.1 hx).1⟩;revert hf;generalize(l.filter λx=>!(x.J6 == a.J6))=m;intro hf
 refine af (λ_=>ae hf) λh0=>af (λ_=>ae ⟨by simp,by simp⟩) λh8=>?_
 have h8:=of_decide_eq_false h8
 have h0:a.Ky≠0:=by simpa using h0
 obtain⟨k,hk,e⟩:=Zn (l:=m) (p:=λx=>decide (x.J6<a.J6)) (step:=pE a m) (by omega) λk=>rfl
 rw[e,IY];unfold oQ ins
 rw[if_pos ⟨by omega,by omega,rfl,by omega⟩]
 apply ae;have:=hf.2
 refine⟨by simp;omega,λx hx=>?_⟩
 rcases nJ hx with hx | rfl
 ·exact hf.2 x hx
 ·dsimp only;omega
def fst(a:App):Ask:=⟨0,0,⟨a.Jb.Mem,a.Jb.I_⟩,1,-1,-1,0⟩
theorem yv(a:App):j9 a=some [fst a]:=by
 unfold j9 la
 rw[me (by simp),IY,acC [] (by simp) (λx=>x.J6 == 0) λx=>rfl,IY]
 obtain⟨k,hk,e⟩:=Zn (l:=[]) (p:=λx:Ask=>decide (x.J6<0)) (step:=pE (⟨0,0,⟨a.Jb.Mem,a.Jb.I_⟩,1,(-1),(-1),0⟩:Ask) []) (by simp) λk=>rfl
 have:k=0:=by simpa using hk
 subst this
 rw[show(List.filter (λx:Ask=>!(x.J6 == 0)) []) = []from rfl,e]
 rfl
theorem mB(a b:Int){l:List Int}(h:l.length≤1000):eF a b l=some (decide (∀x∈l,a≤x∧x≤b)):=by
 unfold eF bf
 rw[iIx l (by omega) (λn=>decide (n<a)||decide (n>b)) λn=>by simp only[qU];cases decide (n<a)<;>rfl]
 by_cases h0:0≤fx (λn=>decide (n<a)||decide (n>b)) l
 ·obtain⟨k,hk,e,hp,_⟩:=be h0;rw[IY,IY,decide_eq_true h0,decide_eq_false]
  ·rfl
  ·intro hc;have:=hc _ (K_ hk);simp at hp;omega
 ·obtain⟨e,_,hp⟩:=cJ (SN.1 h0);rw[IY,IY,decide_eq_false h0,decide_eq_true]
  ·rfl
  ·intro x hx;have:=hp x hx;simp at this;omega
theorem EN(x:Ask)(n:Int):Gv (nA x n) λe=>e=0→0≤x.Ky∧x.Ky≤50:=by
 unfold nA
 simp only[mB _ _ (show[x.J6].length≤1000 by simp),mB _ _ (show[x.Ji].length≤1000 by simp),mB _ _ (show[x.Ku.Mem,x.Ku.I_].length≤1000 by simp),mB _ _ (show[x.Node].length≤1000 by simp),mB _ _ (show[x.KL].length≤1000 by simp),mB _ _ (show[x.Ky].length≤1000 by simp),IY]
 refine aG ?_ λb=>af (λ_=>ae (by simp)) λ_=>af (λ_=>ae (by simp)) λh=>ae λ_=>by simpa using h
 repeat' (first | exact ae trivial | refine af (λ_=>?_) λ_=>?_)
def Uo(s:Gp)(a:App):App:=⟨a.Id,1,a.Ja,a.User,a.J6,⟨a.Jb.Mem,a.Jb.I_⟩,[fst a],s.Now,0,[],[],[],[]⟩
def LS(s t:Gp):Prop:=t=s∨∃(k:Nat)(hk:k<s.I6.length)(j:Nat)(hj:j<s.I9.length),s.I9[j].Id=s.I6[k].App∧
 ((s.I6[k].Jb=true∧t=Oh { s with I9:=s.I9.set j (Uo s s.I9[j]) } s.I6[k].App)∨
  (s.I6[k].Jb=false∧∃g q:List Int,g.length≤s.I9[j].Kj.length∧q.length≤s.I9[j].KJ.length+1∧t = { s with I9:=s.I9.set j { s.I9[j]with Kj:=g,KJ:=q },I6:=s.I6.take k++s.I6.drop (k+1) }))
theorem mem_set{α : Type}{l:List α}{j:Nat}(hj:j<l.length){a b:α}(h:a∈l):a=l[j]∨a∈l.set j b:=by
 obtain⟨i,hi,rfl⟩:=WZ h;by_cases e:i=j
 ·subst e;exact .inl rfl
 ·exact .inr (List.mem_iff_getElem.2 ⟨i,by simpa using hi,by rw[QdN (Ne.symm e)]⟩)
theorem T_{l:List App}{j:Nat}(hj:j<l.length){y:App}(h:y.Id=l[j].Id)(ad:(l.map (·.Id)).Nodup):((l.set j y).map (·.Id)).Nodup:=by rw[Vm hj h];exact ad
theorem Cp{l:List Int}(h:l.length≤1000000)(i:Int):cN l i=some (fx (λx=>i == x) l):=Uq h λt=>by simp[gF]
section
variable{N:Nat}{s:Gp}(h:J N s)
include h
theorem ajN(hN:N<1000000)(ids:List Int){k:Nat}(hk:k<ids.length)(hkn:k<1000000):Gv (fY ids (s,(k:Int))) λr=>∃t,r = .inl (t,Jd ((k:Int)+1))∧LS s t:=by
 have⟨_,_,a,_,ak,c,kk,l,_,_,b,_⟩:=h;unfold fY;dsimp only
 rw[ay hk,cond_true,aA hk,IY,cIx s.I6 (by omega) (λc=>c.Id == ids[k]) λx=>rfl,IY]
 refine ab (P:=LS s) ?_ λt ht=>ae ⟨t,rfl,ht⟩;by_cases h0:0≤fx (λc:Cont=>c.Id == ids[k]) s.I6
 ·obtain⟨i,hi,e,hp,_⟩:=be h0
  rw[e,decide_eq_false (show¬ (i:Int)<0 by omega),cond_false,aH hi,IY,IZ hi,IY,th (by omega),IY]
  have hx:0≤ax s s.I6[i].App:=by
   by_cases h1:0≤ax s s.I6[i].App
   ·exact h1
   ·obtain⟨_,a,ha,e,_⟩:=kk _ (K_ hi);have:=(cJ (SN.1 h1)).2.2 a ha;simp[e]at this
  obtain⟨j,hj,ej,hp,_⟩:=be hx
  rw[show ax s s.I6[i].App=j from ej,decide_eq_true (show(j:Int)≥0 by omega),cond_true,IY]
  have hid:s.I9[j].Id=s.I6[i].App:=by simpa using hp
  have hj':=ak _ (K_ hj);refine af (λhm=>?_) λhm=>?_
  ·unfold pL;rw[aH hj,IY,IZ hj,IY,yv,IY,IY,WU,cond_true,IZ hj,IY]
   obtain⟨g,e⟩:=xR (N:=N) (s:={ s with I9:=s.I9.set j (Uo s s.I9[j]) }) ⟨c,by dsimp only;omega⟩ s.I9[j].Id
   refine aw (a:=Oh { s with I9:=s.I9.set j (Uo s s.I9[j]) } s.I9[j].Id) (congrArg (λm=>(m.bind λx3:Gp×List Int=>some x3.1).bind λx3=>some x3) e) ?_
   rw[hid];exact .inr ⟨i,hi,j,hj,hid,.inl ⟨hm,rfl⟩⟩
  ·unfold hZ del
   rw[Rm (by omega),if_pos (by omega),IY,decide_eq_false (show¬ (j:Int)<0 by omega),cond_false,aH hj,IY,IZ hj,IY,Cp (by have:=hj'.g;omega),IY]
   refine ab (P:=λa=>∃g q:List Int,g.length≤s.I9[j].Kj.length∧q.length≤s.I9[j].KJ.length+1∧a = { s.I9[j]with Kj:=g,KJ:=q }) ?_ ?_
   ·refine af (λh0=>?_) λ_=>?_
    ·obtain⟨m,hm,e,_⟩:=be (of_decide_eq_true h0);rw[e];unfold eA del
     rw[Rm (by have:=hj'.g;omega),if_pos (by omega)]
     exact ae ⟨_,_,by simp;omega,by omega,rfl⟩
    ·rw[bi (by have:=hj'.ki;simp;omega) (by omega)]
     exact ae ⟨_,_,by omega,by simp,rfl⟩
   ·rintro x ⟨g,q,h1,h2,rfl⟩;rw[IY,WU,cond_true,IZ hj,IY]
    exact ae (.inr ⟨i,hi,j,hj,hid,.inr ⟨by simpa using hm,g,q,h1,h2,rfl⟩⟩)
 ·rw[(cJ (SN.1 h0)).1];exact ae (.inl rfl)
theorem LS.j(hN:N<1000000){t:Gp}(g:LS s t):J (N+1) t:=by
 have⟨c,n,a,ad,ak,k,kk,l,p,e,b,nk⟩:=h
 have hm:∀a∈s.I9,JA (N+1) a:=λa ha=>by have⟨h1,h2,h3,h4,h5,h6,h7⟩:=ak a ha;exact⟨h1,h2,by omega,by omega,by omega,by omega,h7⟩
 rcases g with rfl | ⟨i,hi,j,hj,hid,⟨_,rfl⟩ | ⟨_,g,q,hg,hq,rfl⟩⟩
 ·exact⟨c,n,a,ad,hm,k,kk,by omega,p,e,by omega,nk⟩
 ·have h2:=hm _ (K_ hj)
  refine⟨c,n,by simpa[Oh]using a,T_ hj rfl ad,λx hx=>?_,MP (Uv _ _) k,λx hx=>?_,MP (Uv _ _) (show s.Jr.length≤N+1 by omega),p,e,by omega,nk⟩
  ·rcases SX hx with hx | rfl
   ·exact hm x hx
   ·exact⟨by simp[Uo],by simp[Uo,fst],by simp[Uo],by simp[Uo],by simp[Uo],by simp[Uo],h2.q⟩
  ·have⟨hx1,hx2⟩:=WX.1 hx;obtain⟨hx3,y,hy,h3,h4⟩:=kk x hx1;refine⟨hx3,?_⟩;rcases mem_set hj hy with rfl | hy
   ·simp[← h3,hid]at hx2
   ·exact⟨y,hy,h3,h4⟩
 ·have h2:=hm _ (K_ hj);have h3:=ak _ (K_ hj)
  refine⟨c,n,by simpa using a,T_ hj rfl ad,λx hx=>?_,by simp;omega,λx hx=>?_,by dsimp only;omega,p,e,by omega,nk⟩
  ·rcases SX hx with hx | rfl
   ·exact hm x hx
   ·exact⟨h2.al,h2.ak,by have:=h3.g;dsimp only;omega,by have:=h3.ki;dsimp only;omega,h2.to,h2.lo,h2.q⟩
  ·have hx1:x∈s.I6:=(Mr.1 hx).elim Uu XJ;obtain⟨hx3,y,hy,h4,h5⟩:=kk x hx1;refine⟨hx3,?_⟩;rcases mem_set hj hy with rfl | hy
   ·exact⟨_,List.mem_set hj _,h4,h5⟩
   ·exact⟨y,hy,h4,h5⟩
theorem il:bj s []=some s:=by
 unfold bj
 rw[vk h,IY,cR,show fY [] (s,0)=some (.inr s)from rfl]
 dsimp only;rw[IY,vk h];rfl
theorem ta(I:Gp→Prop)(hI:∀{M:Nat}{s t:Gp},J M s→I s→LS s t→I t)(h0:I s){ids:List Int}(hl:N+ids.length<1000000):Gv (bj s ids) λt=>J (N+ids.length) t∧I t:=by
 unfold bj;rw[vk h,IY]
 refine ab (aJ (λ(s:Gp) i=>(s,i)) ids.length (λk t=>J (N+k) t∧I t) (step:=fY ids) (Q:=λt=>J (N+ids.length) t∧I t) (by omega) ?_ ?_ ⟨h,h0⟩) ?_
 ·rintro k hk t ⟨h1,h2⟩
  exact nH (ajN h1 (by omega) ids hk (by omega)) λr ⟨u,e,g⟩=>.inl ⟨u,e,g.j h1 (by omega),hI h1 h2 g⟩
 ·rintro t ⟨h1,h2⟩
  exact aw (a:=.inr t) (by unfold fY;dsimp only;rw[az];rfl) ⟨t,rfl,h1,h2⟩
 ·rintro t ⟨h1,h2⟩;rw[vk h1];exact ae ⟨h1,h2⟩
end
set_option linter.unusedVariables false
set_option linter.unusedSimpArgs false
def Sub(s t:Gp):Prop:=∀c∈t.I6,∃d∈s.I6,d.Id=c.Id
theorem Sub.of{s t:Gp}(h:t.I6=s.I6):Sub s t:=λc hc=>⟨c,h▸hc,rfl⟩
theorem nIx{f:Js fam [.st 4]→Option Bool}(s:List Node)(hn:s.length≤1000000)(p:Node→Bool)(hf:∀x,f (x,())=some (p x)):ju s f=some (fx p s):=Uq hn λt=>by simp[nV,hf]
def nx(s:Gp)(i:Int):Int:=fx (λn:Node=>n.Id == i) s.Jh
theorem zd{s:Gp}(h:s.Jh.length≤1000000)(i:Int):lL s i=some (nx s i):=by unfold lL;rw[nIx s.Jh h (λn=>n.Id == i) λx=>rfl];rfl
abbrev noN:Node:=⟨0,0,0,⟨0,0⟩,0,0,false⟩
def Xz(s:Gp)(i:Int):Option Node:=s.Jh.find? λn=>n.Id == i
theorem uv{s:Gp}(h:s.Jh.length≤1000000)(i:Int):ff s i=some ((Xz s i).elim (noN,false) λn=>(n,true)):=by
 unfold ff Xz;rw[zd h,IY];by_cases h0:0≤nx s i
 ·obtain⟨k,hk,e,_,hf,_⟩:=be h0
  rw[show nx s i=k from e,hf]
  simp[aA hk,decide_eq_false (show¬ (k:Int)<0 by omega)]
 ·obtain⟨e,hf,_⟩:=cJ (SN.1 h0)
  rw[show nx s i = -1 from e,hf]
  rfl
theorem BM(a b:Int):df a b=some (decide (0≤a∧a≤b)):=by
 unfold df
 by_cases h:0≤a<;>simp[h]
theorem Bt(n a b:Int):er n a b=some (decide (a≤n∧n≤b)):=by
 unfold er
 by_cases h:a≤n<;>simp[h]
theorem J.nodes{N:Nat}{s:Gp}(h:J N s){l:List Node}(hl:l.length≤12)(hk:∀n∈l,VB 1073741824 n.Cap):J N { s with Jh:=l }:=⟨h.c,hl,h.a,h.ad,h.ak,h.k,h.kk,h.l,h.p,h.e,h.b,hk⟩
section
variable{N:Nat}{s:Gp}(h:J N s)
include h
theorem Ag(n:Node):Gv (iB s n) λr=>J N r.1∧r.1.I6=s.I6:=by
 have hn:=h.n;unfold iB
 rw[rT h,IY,zd (by omega),IY]
 simp only[BM,IY];refine ab (P:=λq=>q=false→VB 1073741824 n.Cap) ?_ λq hv=>af (λ_=>ae ⟨h,rfl⟩) λe=>?_
 ·repeat' (first | exact ae (λe=>by cases e) | refine af (λ_=>?_) λ_=>?_)
  refine ae λ_=>?_;simp_all [VB]
 replace hv:=hv e
 have hv2:∀(l:List Node),(∀m∈l,m∈s.Jh∨m.Cap=n.Cap)→∀m∈l,VB 1073741824 m.Cap:=λl h1 m hm=>(h1 m hm).elim (h.nk m) λe=>e▸hv;by_cases h0:0≤nx s n.Id
 ·obtain⟨k,hk,e,_⟩:=be h0
  rw[show nx s n.Id=k from e]
  simp only[decide_eq_true (show(k:Int)≥0 by omega),decide_eq_false (show¬ (k:Int)<0 by omega),cond_true,cond_false,aH hk,IY,IZ hk]
  exact af (λ_=>ae ⟨h,rfl⟩) λ_=>ae ⟨h.nodes (by simpa using hn) (hv2 _ λm hm=>(SX hm).imp_right λe=>by rw[e]),rfl⟩
 ·rw[show nx s n.Id = -1 from(cJ (SN.1 h0)).1]
  refine ab (ae (P:=λb=>b=false) rfl) ?_;rintro _ rfl;refine af (b:=decide ((s.Jh.length:Int)≥12)) (λ_=>ae ⟨h,rfl⟩) λe=>?_;have e:=of_decide_eq_false e
  obtain⟨k,hk,e1⟩:=Zn (l:=s.Jh) (p:=λx=>decide (x.Id<n.Id)) (step:=mW n s) (by omega) λk=>rfl
  rw[show decide ((-1:Int)≥0)=false from rfl,cond_false,e1,IY]
  unfold mH ins
  rw[if_pos ⟨by omega,by omega,rfl,by omega⟩]
  exact ae ⟨h.nodes (by simp;omega) (hv2 _ λm hm=>(nJ hm).imp_right λe=>by rw[e]),rfl⟩
theorem Fl(i b:Int):Gv (m0 s i b) λr=>J N r.1∧(r.2=0→(Xz s i).isSome=true∧∃l,r.1 = { s with Jh:=l }∧l.map (λn=>(n.Id,n.Up))=s.Jh.map λn=>(n.Id,n.Up)):=by
 have hn:=h.n;unfold m0
 rw[rT h,IY,zd (by omega),IY]
 refine af (λ_=>ae ⟨h,by simp⟩) λh0=>?_
 obtain⟨k,hk,e,_,hf,_⟩:=be (p:=λn:Node=>n.Id == i) (l:=s.Jh) (Int.not_lt.1 (of_decide_eq_false h0))
 simp only[show nx s i=k from e,aH hk,IY,IZ hk,RJ]
 refine af (λ_=>ae ⟨h,by simp⟩) λ_=>aG (af (λ_=>ai _) λ_=>ai _) λb=>af (λ_=>ae ⟨h,by simp⟩) λ_=>af (λ_=>ae ⟨h,by simp⟩) λ_=>?_
 simp only[QfD hk,IY,List.set_set]
 refine ae ⟨h.nodes (by simpa using hn) (λm hm=>(SX hm).elim (h.nk m) λe=>by subst e;exact h.nk s.Jh[k] (K_ hk)),λ_=>⟨by unfold Xz;rw[hf];rfl,_,rfl,Vm hk rfl⟩⟩
end
set_option linter.unusedVariables false
set_option linter.unusedSimpArgs false
theorem xH{p:Str}(hp:p.length≤1000000):Gv (iV p [46]) λi=>-1≤i∧i<p.length:=by
 show Gv ((bW p ((46:UInt8).toNat:Int)).bind λx=>some x) _;refine ab ?_ λx hx=>ae hx;unfold bW;dsimp only
 rw[aF (by omega) (by omega)]
 refine ab (P:=λr=>match r with | .inl i=>-1≤i∧i<(p.length:Int) | .inr _=>True) (gP (λi:Int=>-1≤i∧i<p.length) (λi=>(i+1).toNat) (λi ⟨h1,h2⟩=>?_) (by omega)) ?_
 ·refine af (λh=>?_) λh=>ae (.inr ⟨_,rfl,trivial⟩);have h:=of_decide_eq_true h
  refine ab (gO h h2) λx _=>af (λ_=>ae (.inr ⟨_,rfl,by omega⟩)) λ_=>ae (.inl ⟨_,rfl,?_⟩)
  rw[aF (by omega) (by omega)]
  omega
 ·rintro(i | _) h
  ·exact ae h
  ·exact ae (by omega)
theorem ur{p:Str}(hp:p.length≤1000000):Gv (iv p) λr=>r.1.length≤p.length∧(p≠[]→r.1.length<p.length):=by
 unfold iv
 refine ab (xH hp) λi ⟨h1,h2⟩=>af (λ_=>ae ⟨by simp,λh=>by simpa using QeU.2 h⟩) λh=>?_
 have h:=of_decide_eq_false h
 refine ab (qh (by omega) (by omega) (by omega)) λm ⟨h3,_⟩=>ae ⟨?_,λ_=>?_⟩<;>dsimp only<;>omega
theorem FV{p:Str}(hp:p.length≤2000):Gv (qp p) λl=>l.length≤2000∧∀x∈l,x.length≤2000:=by
 unfold qp
 refine ab (gP (λt=>t.1.length+t.2.length≤2000∧t.1.length≤2000∧∀x∈t.2,x.length≤2000) (λt=>t.1.length) (λt ⟨h1,h2,h3⟩=>?_) ⟨by simp;omega,hp,by simp⟩) λx hx=>ae hx
 refine af (λh=>?_) λh=>ae (.inr ⟨_,rfl,by omega,h3⟩)
 have h:t.1≠[]:=by simpa using h
 rw[bi (by simp;omega) (by omega),IY]
 refine ab (ur (by omega)) λr ⟨h4,h5⟩=>ae (.inl ⟨_,rfl,⟨?_,?_,?_⟩,h5 h⟩)
 ·have:=h5 h;simp;omega
 ·dsimp only;omega
 ·intro x hx;rcases Mr.1 hx with hx | hx
  ·exact h3 x hx
  ·rw[I4.1 hx];exact h2
def Zp(c:Jc)(p:Str):Option Ja:=c.I8.find? λq=>q.Kh == p
section
variable{c:Jc}
theorem vV{p:Str}{q:Ja}(e:Zp c p=some q):q∈c.I8∧q.Kh=p:=⟨QdI e,by simpa using QeN e⟩
variable(h:JC c)
include h
theorem oj(p:Str):gm c p=some ((Zp c p).elim (⟨[],[],0⟩,false) λq=>(q,true)):=by
 have hq:=h.q;unfold gm Zp lF
 have e:((loop (iY c.I8 λa'=>ma a'.1 p) 0).bind λq0=>match q0 with | .inl q=>some q | .inr _=>some (-1))=_:=Uq (p:=λq:Ja=>q.Kh == p) (show c.I8.length≤1000000 by omega) λt=>by simp[iY,ma]
 refine(congrArg (λm:Option Int=>m.bind _) e).trans ?_;rw[IY];by_cases h0:0≤fx (λq:Ja=>q.Kh == p) c.I8
 ·obtain⟨k,hk,e,_,hf,_⟩:=be h0;have:=(h.k _ (K_ hk)).1;rw[e,hf]
  simp[aA hk,ip,bh (l:=c.I8[k].KZ) (b:=16) (by omega),decide_eq_false (show¬ (k:Int)<0 by omega)]
 ·obtain⟨e,hf,_⟩:=cJ (SN.1 h0);rw[e,hf];rfl
theorem sI(p:Str):Gv (iq c p) λl=>l.Sublist (c.I8.map (·.Kh)):=by
 have hq:=h.q;unfold iq
 refine ab (aJ (λ(l:List Str) i=>(l,i)) c.I8.length (λk l=>l.Sublist ((c.I8.take k).map (·.Kh))) (step:=kf c p) (by omega) (λk hk l hl=>?_) (λl hl=>?_) (s:=[]) (by simp)) λx hx=>ae hx
 ·have hp:=(h.k _ (K_ hk)).2.1.1;have hl2:=hl.length_le;rw[OD,Lj]at hl2;unfold kf;dsimp only;rw[ay hk,cond_true,aA hk,IY]
  have e:(c.I8.take (k+1)).map (·.Kh)=(c.I8.take k).map (·.Kh)++[c.I8[k].Kh]:=by rw[Ux hk,SQ];rfl
  refine ab (P:=λm=>m.Sublist ((c.I8.take (k+1)).map (·.Kh))) (ab (ur (by omega)) λr _=>aG (af (λ_=>ai _) λ_=>ai _) λb=>af (λ_=>?_) λ_=>?_) λm hm=>ae (.inl ⟨m,rfl,hm⟩)
  ·rw[bi (by simp;omega) (by omega),e]
   exact ae (hl.append (List.Sublist.refl _))
  ·rw[e];exact ae (hl.trans (List.sublist_append_left _ _))
 ·refine aw (a:=.inr l) (by unfold kf;dsimp only;rw[az];rfl) ⟨l,rfl,?_⟩
  rwa [SL]at hl
theorem xZ{l:List Str}(hl:l.Sublist (c.I8.map (·.Kh))):l.length≤16∧l.Nodup∧∀x∈l,x.length≤2000∧x≠[]:=by
 refine⟨MP hl.length_le (by rw[OD];exact h.q.2),hl.nodup h.d,λx hx=>?_⟩
 obtain⟨q,hq,rfl⟩:=Oz.1 (hl.mem hx);exact(h.k q hq).2.1
theorem AY(p:Str):Gv (jL c p) λb=>b=true→∃q∈c.I8,q.Kh=p:=by
 unfold jL;rw[oj h,IY]
 cases e:Zp c p with
 | none=>exact ae (by simp)
 | some q=>exact ab (sI h p) λ_ _=>ae λ_=>⟨q,vV e⟩
end
set_option linter.unusedVariables false
set_option linter.unusedSimpArgs false
theorem vL{n bp N B:Int}(h0:0≤n)(h1:n≤N)(b0:0≤bp)(b1:bp≤B):0≤n*bp∧n*bp≤N*B:=
 ⟨Int.mul_nonneg h0 b0,Int.mul_le_mul h1 b1 b0 (Int.le_trans h0 h1)⟩
theorem abO(x:Int):IntKind.u64.wrap x=x % 18446744073709551616:=by rw[IntKind.wrap_u64]
theorem Oq{x:Int}(h:0≤x)(h2:x<18446744073709551616):IntKind.u64.wrap x=x:=by rw[abO];omega
theorem aga(x:Int):Mi .u64 x 32=x / 4294967296:=by
 show x.fdiv (2 ^ min (32:Int).toNat IntKind.u64.bits)=_
 rw[show(2 ^ min (32:Int).toNat IntKind.u64.bits:Int)=4294967296 from by decide,Int.fdiv_eq_ediv_of_nonneg _ (by decide)]
theorem aoU(a b:Nat)(ha:a<18446744073709551616)(hb:b<18446744073709551616):Pj .u64 (a:Int) (b:Int)=((a &&& b:Nat):Int):=by
 show IntKind.u64.wrap ((BitVec.ofInt 64 (a:Int) &&& BitVec.ofInt 64 (b:Int)).toNat)=_
 have e:((BitVec.ofInt 64 (a:Int) &&& BitVec.ofInt 64 (b:Int)).toNat)=a &&& b:=by
  rw[BitVec.toNat_and,BitVec.toNat_ofInt,BitVec.toNat_ofInt]
  congr 1<;>omega
 rw[e];have:a &&& b≤a:=Nat.and_le_left
 exact Oq (by omega) (by omega)
theorem Wv(a:Nat)(ha:a<18446744073709551616):Pj .u64 (a:Int) 4294967295=((a % 4294967296:Nat):Int):=by
 have:=aoU a 4294967295 ha (by omega)
 rw[show((4294967295:Nat):Int)=4294967295 from rfl]at this
 rw[this,show(4294967295:Nat)=2 ^ 32 - 1 from rfl,Nat.and_two_pow_sub_one_eq_mod]
theorem uk(x y:Nat)(hx:x<18446744073709551616)(hy:y<18446744073709551616) :
  iw (x:Int) (y:Int)=some (((x*y / 18446744073709551616:Nat):Int),((x*y % 18446744073709551616:Nat):Int)):=by
 obtain⟨h1,h2,h3,h4⟩:=Lib.mul64_hi x y hx hy
 have a1:=Lib.half_mul_le (a:=x / 4294967296) (b:=y / 4294967296) (by omega) (by omega)
 have a2:=Lib.half_mul_le (a:=x / 4294967296) (b:=y % 4294967296) (by omega) (by omega)
 have a3:=Lib.half_mul_le (a:=x % 4294967296) (b:=y / 4294967296) (by omega) (by omega)
 have a4:=Lib.half_mul_le (a:=x % 4294967296) (b:=y % 4294967296) (by omega) (by omega)
 have w:∀a:Nat,a<18446744073709551616→IntKind.u64.wrap (a:Int)=(a:Int):=λa ha=>Oq (by omega) (by omega)
 have d:∀a:Nat,(a:Int) / 4294967296=((a / 4294967296:Nat):Int):=λa=>by omega
 have m:∀a b:Nat,(a:Int)*(b:Int)=((a*b:Nat):Int):=λa b=>(QeL a b).symm;have p:∀a b:Nat,(a:Int)+(b:Int)=((a+b:Nat):Int):=λa b=>(Int.natCast_add a b).symm;unfold iw;simp only[aga,d];rw[Wv y hy,Wv x hx];simp only[m,p]
 rw[w _ (QfA a1 (by omega)),w _ (QfA a2 (by omega)),w _ (QfA a3 (by omega)),w _ (QfA a4 (by omega))]
 simp only[d,p];rw[w _ h2];simp only[d,p];rw[Wv _ h2];simp only[p];rw[w _ h3];simp only[d]
 have hq:x*y / 18446744073709551616<18446744073709551616:=by have:x*y<18446744073709551616*18446744073709551616:=Nat.mul_lt_mul_of_lt_of_lt hx hy;omega
 have hs:x / 4294967296*(y / 4294967296)+(x / 4294967296*(y % 4294967296)+x % 4294967296*(y % 4294967296) / 4294967296) / 4294967296<18446744073709551616:=by omega
 rw[w _ hs];simp only[p];rw[h4,w _ hq,abO];simp
theorem AQ{n bp:Int}(h0:0≤n)(h1:n≤1099511627776)(b0:0≤bp)(b1:bp≤1000000):my n bp=some (n*bp / 10000)∧0≤n*bp / 10000∧n*bp / 10000≤109951162777600:=by
 obtain⟨a,rfl⟩:=QdA h0;obtain⟨b,rfl⟩:=QdA b0;have m3:=vL h0 h1 b0 b1;have hm:(a:Int)*(b:Int)=((a*b:Nat):Int):=(QeL a b).symm;rw[hm]at m3 ⊢
 refine⟨?_,by omega,by omega⟩
 unfold my
 rw[Oq (by omega) (by omega),Oq (by omega) (by omega),uk _ _ (by omega) (by omega)]
 generalize a*b=c at m3 ⊢
 have e1:c / 18446744073709551616=0:=by omega
 have e2:c % 18446744073709551616=c:=by omega
 rw[e1,e2];simp only[IY];unfold qR;have n0:nz 10000=some ():=rfl;have c1:((10000:Int) == 0)=false:=rfl;have c2:decide ((10000:Int)≤((0:Nat):Int))=false:=rfl;have c3:(((0:Nat):Int) == 0)=true:=rfl;simp only[c1,c2,c3,n0,cond_true,cond_false,IY]
 rw[QeR (by omega),Oq (by omega) (by omega),aF (by omega) (by omega)]
theorem nG{σ : Type}{n:Nat}{I:σ→Prop}{body:σ→Int→Option σ}{step:σ×Int→Option ((σ×Int) ⊕ σ)}(hn:n≤1000000)(hs:∀s i,step (s,i)=bif decide (i<(n:Int))then(body s i).bind λo=>some (.inl (o,Jd (i+1)))else some (.inr s))
  (hb:∀k,k<n→∀s,I s→Gv (body s (k:Int)) I) {s:σ} (h0:I s):Gv (loop step (s,0)) I:=by
 refine aQ (λ(s:σ) i=>(s,i)) n I hn (λk hk s h=>?_) (λs h=>?_) h0
 ·rw[hs,ay hk];exact ab (hb k hk s h) λo ho=>ae (.inl ⟨o,rfl,ho⟩)
 ·rw[hs,az];exact ae ⟨s,rfl,h⟩
instance (n:Int) (v:Vec):Decidable (VB n v):=by unfold VB;infer_instance
abbrev GV(v:Vec):Prop:=VB 1125899906842624 v
theorem vb0{n:Int}(h:0≤n):VB n ⟨0,0⟩:=⟨⟨by simp,h⟩,by simp,h⟩
theorem iP(v:Vec):bu v=some (decide (GV v)):=by
 unfold bu GV VB
 by_cases h1:v.Mem≥0<;>by_cases h2:v.Mem≤1125899906842624<;>by_cases h3:v.I_≥0<;>by_cases h4:v.I_≤1125899906842624<;>simp[*]
theorem HQ(v:Vec):Gv (hU v) λr=>GV r.1:=by
 unfold hU;rw[iP,IY];by_cases h:GV v
 ·rw[decide_eq_true h];exact ae h
 ·rw[decide_eq_false h];exact ae (vb0 (by omega))
theorem mh(a b:Vec):Gv (cy a b) λr=>GV r.1:=by
 unfold cy;rw[iP,iP]
 refine aG ?_ λq=>af (λ_=>ae (vb0 (by omega))) λ_=>ab (HQ _) λx hx=>ae hx
 exact af (λ_=>ai _) λ_=>ai _
theorem It{a b:Vec}{n m:Int}(ha:VB n a)(hb:VB m b)(h:n+m≤1125899906842624):Gv (cy a b) λr=>VB (n+m) r.1:=by
 unfold VB at ha hb;unfold cy hU
 rw[iP,iP,decide_eq_true (show GV a by unfold GV VB;omega),decide_eq_true (show GV b by unfold GV VB;omega)]
 simp only[IY,Bool.not_true,cond_false]
 rw[aF (by omega) (by omega),aF (by omega) (by omega),iP,decide_eq_true (show GV ⟨a.Mem+b.Mem,a.I_+b.I_⟩by unfold GV VB;dsimp only;omega)]
 exact ae ⟨by dsimp only;omega,by dsimp only;omega⟩
theorem Ik{l:List Vec}(hl:l.length≤12)(h:∀v∈l,VB 1073741824 v):Gv (jJ l) (VB 12884901888):=by
 unfold jJ
 refine ab (aJ (λ(s:Vec) i=>(s,i)) l.length (λk s=>VB (k*1073741824) s) (step:=ez l) (Q:=VB 12884901888) (by omega) (λk hk s hs=>?_) (λs hs=>?_) (vb0 (by omega))) λx hx=>ae hx
 ·unfold ez;dsimp only;rw[ay hk,cond_true,aA hk,IY]
  refine ab (It hs (h _ (K_ hk)) (by omega)) λr hr=>ae (.inl ⟨_,rfl,?_⟩)
  rwa [show((k+1:Nat):Int)*1073741824=k*1073741824+1073741824 by omega]
 ·unfold ez;dsimp only;rw[az];unfold VB at hs
  exact ae ⟨_,rfl,by unfold VB;omega⟩
theorem zq{a:Vec}{n:Int}(ha:VB n a)(hn:n≤1099511627776)(bp:Int):Gv (kH a bp) λr=>(bp≤10000→VB n r.1)∧GV r.1:=by
 have h0:0≤n:=by unfold VB at ha;omega
 unfold VB at ha;unfold kH
 rw[iP,decide_eq_true (show GV a by unfold GV VB;omega)]
 simp only[IY,Bool.not_true,cond_false]
 refine ab (P:=λq=>q=false→0≤bp∧bp≤1000000) ?_ λq hq=>af (λ_=>ae ⟨λ_=>vb0 h0,vb0 (by omega)⟩) λe=>?_
 ·exact af (λ_=>ae (by simp)) λh1=>ae λh2=>by have h1:=of_decide_eq_false h1;have h2:=of_decide_eq_false h2;omega
 ·have⟨b0,b1⟩:=hq e
  obtain⟨e1,p1,p2⟩:=AQ ha.1.1 (by omega) b0 b1
  obtain⟨e2,p3,p4⟩:=AQ ha.2.1 (by omega) b0 b1
  rw[e1,IY,e2,IY];unfold hU
  rw[iP,decide_eq_true (show GV ⟨a.Mem*bp / 10000,a.I_*bp / 10000⟩by unfold GV VB;dsimp only;omega)]
  refine ae ⟨λhb=>⟨⟨p1,?_⟩,p3,?_⟩,⟨p1,by dsimp only;omega⟩,p3,by dsimp only;omega⟩
  ·have:=(vL ha.1.1 ha.1.2 b0 hb).2;dsimp only;omega
  ·have:=(vL ha.2.1 ha.2.2 b0 hb).2;dsimp only;omega
theorem lw(a b:Vec):T (eh a b):=af (λ_=>ai _) λ_=>ai _
theorem FR{v:View}{a:App}(hv:v.Kn.length≤2000):T (gi v a):=by
 unfold gi;refine aG (af (λ_=>ai _) λ_=>?_) λb=>af (λ_=>af (λ_=>ai _) λ_=>ai _) λ_=>ai _
 rw[ue (by simp;omega),IY]
 unfold iZ f_;refine ab (ab (P:=λ_=>True) (af (λh=>?_) λ_=>ai _) λ_ _=>ai _) λ_ _=>ai _;have:=of_decide_eq_true h
 exact ab (uR (by omega) (by omega) (by omega)) λ_ _=>ai _
section
variable{N:Nat}{s:Gp}(h:J N s)
include h
theorem nX(label:Int):Gv (eg s label) (VB 12884901888):=by
 have hn:=h.n;unfold eg
 refine ab (aJ (λ(l:List Vec) i=>(l,i)) s.Jh.length (λk l=>l.length≤k∧∀v∈l,VB 1073741824 v) (step:=iF s label) (Q:=λl=>l.length≤12∧∀v∈l,VB 1073741824 v) (by omega) (λk hk l ⟨h1,h2⟩=>?_) (λl ⟨h1,h2⟩=>?_) ⟨by simp,by simp⟩) λl ⟨h1,h2⟩=>ab (Ik h1 h2) λx hx=>ae hx
 ·unfold iF;dsimp only;rw[ay hk,cond_true,aA hk,IY]
  refine ab (P:=λm=>m.length≤k+1∧∀v∈m,VB 1073741824 v) (aG (af (λ_=>ai _) λ_=>ai _) λb=>af (λ_=>?_) λ_=>ae ⟨by omega,h2⟩) λm hm=>ae (.inl ⟨m,rfl,hm⟩)
  rw[bi (by simp;omega) (by omega)]
  refine ae ⟨by simp;omega,λv hv=>?_⟩
  rcases Mr.1 hv with hv | hv
  ·exact h2 v hv
  ·rw[I4.1 hv];exact h.nk _ (K_ hk)
 ·exact aw (a:=.inr l) (by unfold iF;dsimp only;rw[az];rfl) ⟨l,rfl,by omega,h2⟩
theorem II(label:Int):T (nD s label):=by
 have hn:=h.p;unfold nD
 refine ab (aJ (λ(l:List Vec) i=>(l,i)) s.Jq.length (λk l=>l.length≤k) (step:=jp s label) (Q:=λl=>l.length≤12) (by omega) (λk hk l h1=>?_) (λl h1=>?_) (by simp)) λl h1=>?_
 ·unfold jp;dsimp only;rw[ay hk,cond_true,aA hk,IY]
  refine ab (P:=λm=>m.length≤k+1) (aG (af (λ_=>af (λ_=>ai _) λ_=>ai _) λ_=>ai _) λb=>af (λ_=>?_) λ_=>ae (by omega)) λm hm=>ae (.inl ⟨m,rfl,hm⟩)
  rw[bi (by simp;omega) (by omega)]
  exact ae (by simp;omega)
 ·exact aw (a:=.inr l) (by unfold jp;dsimp only;rw[az];rfl) ⟨l,rfl,by omega⟩
 ·unfold jJ
  refine ab (ab (aQ (λ(s:Vec) i=>(s,i)) l.length (λ_=>True) (step:=ez l) (Q:=λ_=>True) (by omega) (λk hk s _=>?_) (λs _=>?_) trivial) λx hx=>ae hx) λx _=>ai x
  ·unfold ez;dsimp only;rw[ay hk,cond_true,aA hk,IY];exact ab (mh _ _) λr _=>ae (.inl ⟨_,rfl,trivial⟩)
  ·exact aw (a:=.inr s) (by unfold ez;dsimp only;rw[az];rfl) ⟨s,rfl,trivial⟩
theorem A3{p:Str}(hp:p.length≤2000)(label:Int){part:Js fam [.st 1]→Option Int}(hpt:∀x:Cap,x.LB≤10000∧x.Most≤10000→Gv (part (x,())) λn=>n≤10000):Gv (kg s p label part) (VB 12884901888):=by
 unfold kg;refine ab (FV hp) λup ⟨hu,_⟩=>?_;rw[oj h.c,IY]
 refine af (λ_=>ae (vb0 (by omega))) λ_=>ab (nX h label) λv hv=>?_
 dsimp only
 rw[aF (by omega) (by omega)]
 refine ab (P:=λr=>match r with | .inl v=>VB 12884901888 v | .inr q=>VB 12884901888 q.2) (gP (λt:Vec×Vec×Int=>VB 12884901888 t.2.1∧-2≤t.2.2∧t.2.2<up.length) (λt=>(t.2.2+1).toNat) (λt ⟨h1,h2,h3⟩=>?_) ⟨hv,by dsimp only;omega,by dsimp only;omega⟩) ?_
 ·unfold qW;refine af (λh0=>?_) λ_=>ae (.inr ⟨_,rfl,h1⟩);have h0:=of_decide_eq_true h0
  refine ab (dj h0 h3) λi hi=>ab (db (by omega)) λx2 _=>?_
  rw[oj h.c,IY]
  refine ab (P:=λq=>q=false→∃y,Zp s.Jc x2=some y∧0≤label∧label<y.KZ.length) ?_ λq hq=>af (λ_=>ae (.inr ⟨_,rfl,vb0 (by omega)⟩)) λe=>?_
  ·cases hq:Zp s.Jc x2 with
   | none=>exact ae (by simp)
   | some y=>
   show Gv (bif decide (label<0)then some true else some (decide (label≥(y.KZ.length:Int)))) _
   exact af (λ_=>ae (by simp)) λh1=>ae λh2=>⟨y,rfl,by have h1:=of_decide_eq_false h1;omega,by have h2:=of_decide_eq_false h2;omega⟩
  ·obtain⟨y,e,l0,l1⟩:=hq e;rw[e];dsimp only[Option.elim]
   refine ab (dj l0 l1) λi2 hi2=>ab (db (by omega)) λx4 ⟨hx4,_⟩=>ab (hpt x4 ((h.c.k _ (vV e).1).2.2 x4 hx4)) λr hr=>ab (zq h1 (by omega) r) λw hw=>?_
   rw[aF (by omega) (by omega)]
   exact ae (.inl ⟨_,rfl,⟨hw.1 hr,by dsimp only;omega,by dsimp only;omega⟩,by dsimp only;omega⟩)
 ·rintro(v | q) hv<;>exact ae hv
theorem oh{p:Str}(hp:p.length≤2000)(label:Int):Gv (fK s p label) (VB 12884901888):=ab (A3 h hp label λx hx=>ae hx.1) λ_ hx=>ae hx
theorem AA{p:Str}(hp:p.length≤2000)(label:Int):Gv (np s p label) (VB 12884901888):=ab (A3 h hp label λx hx=>ae hx.2) λ_ hx=>ae hx
theorem HZ{p:Str}(hp:p.length≤2000)(label:Int):T (m6 s p label):=by
 unfold m6;rw[oj h.c,IY]
 exact ab (oh h hp label) λv hv=>ab (zq hv (by omega) _) λr _=>ai _
theorem Ht(p:Str)(l u:Int)(c:Cont):T (gC ⟨s,p,l,u⟩ c):=by
 have ha:=h.a;unfold gC
 refine ab (P:=λ_=>True) (aQ (λ(a:App) i=>(a,i)) s.I9.length (λ_=>True) (by omega) (λk hk a _=>?_) (λa _=>?_) trivial) ?_
 ·unfold gV;dsimp only;rw[ay hk,cond_true,aA hk,IY];exact af (λ_=>ae (.inr ⟨_,rfl,trivial⟩)) λ_=>ae (.inl ⟨a,rfl,trivial⟩)
 ·exact aw (a:=.inr (.inr a)) (by unfold gV;dsimp only;rw[az];rfl) ⟨_,rfl,trivial⟩
 ·rintro(q | q) _<;>exact ai _
theorem AU{p:Str}(hp:p.length≤2000)(l u:Int):Gv (fh ⟨s,p,l,u⟩) GV:=by
 have hk:=h.k;unfold fh
 refine ab (nG (n:=s.I6.length) (I:=GV) (by omega) (λ_ _=>rfl) (λk hk v hv=>?_) (vb0 (by omega))) λx hx=>ae hx
 dsimp only;rw[aA hk,IY];exact ab (Ht h p l u _) λx _=>aG (af (λ_=>af (λ_=>ab (FR hp) λ_ _=>ai _) λ_=>ai _) λ_=>ai _) λb=>af (λ_=>ab (mh _ _) λr hr=>ae hr) λ_=>ae hv
theorem jE{p:Str}(hp:p.length≤2000)(l:Int):Gv (cV s p l) GV:=ab (AU h hp l (-1)) λ_ hx=>ae hx
theorem Bh{p:Str}(hp:p.length≤2000)(l u:Int):T (lD s p l u):=af (λ_=>ai _) λ_=>ab (AU h hp l u) λ_ hx=>ai _
theorem xr{p:Str}(hp:p.length≤2000)(label:Int):T (gD s p label):=by
 have ha:=h.a;unfold gD ii
 refine ab (ab (nG (n:=s.I9.length) (I:=λ_=>True) (by omega) (λ_ _=>rfl) (λk hk v _=>?_) trivial) λx hx=>ae hx) λ_ _=>ai _
 dsimp only;rw[aA hk,IY,iI,IY];refine aG (af (λ_=>ab (FR hp) λ_ _=>ai _) λ_=>ai _) λb=>af (λ_=>ab (P:=λ_=>True) ?_ λx _=>ab (mh _ _) λr _=>ai _) λ_=>ai _;have:=(h.ak _ (K_ hk)).al;unfold om
 refine ab (nG (n:=s.I9[k].Jy.length) (I:=λ_=>True) (by omega) (λ_ _=>rfl) (λj hj v _=>?_) trivial) λx hx=>ai _
 dsimp only
 rw[aA hj,IY,mB _ _ (by simp),mB _ _ (by simp)]
 exact aG (af (λ_=>af (λ_=>ai _) λ_=>ai _) λ_=>ai _) λb=>af (λ_=>ai _) λ_=>ai _
theorem H0{p:Str}(hp:p.length≤2000)(label:Int)(size:Vec):T (nt s p label size):=by
 unfold nt
 refine ab (FV hp) λup ⟨hu,hx⟩=>ab (P:=λ_=>True) (aQ (σ:=Unit) (λ_ i=>i) up.length (λ_=>True) (by omega) (λk hk _ _=>?_) (λ_ _=>?_) (s:=()) trivial) ?_
 ·have hl:=hx _ (K_ hk);unfold mU;rw[ay hk,cond_true,aH hk,IY,IZ hk,IY];refine ab (jE h hl label) λx2 _=>ab (mh _ _) λx3 _=>aG (af (λ_=>ai _) λ_=>ab (AA h hl label) λx4 _=>ab (lw _ _) λ_ _=>ai _) λb=>af (λ_=>ae (.inr ⟨_,rfl,trivial⟩)) λ_=>ab (nX h label) λx6 _=>ab (II h label) λx7 _=>aG (af (λ_=>af (λ_=>ab (lw _ _) λ_ _=>ai _) λ_=>ai _) λ_=>ai _) λb=>af (λ_=>ae (.inr ⟨_,rfl,trivial⟩)) λ_=>ae (.inl ⟨(),rfl,trivial⟩)
 ·exact aw (a:=.inr (.inr ())) (by unfold mU;rw[az];rfl) ⟨_,rfl,trivial⟩
 ·rintro(q | q) _<;>exact ai _
theorem IL(i:Int):T (m7 s i):=by
 have hn:=h.n;have hk:=h.k;unfold m7
 rw[uv (by omega),IY]
 refine aG (af (λ_=>ai _) λ_=>ai _) λb=>af (λ_=>ai _) λ_=>ab (P:=λ_=>True) ?_ λx _=>ai _;unfold qN
 refine ab (nG (n:=s.I6.length) (I:=λ_=>True) (by omega) (λ_ _=>rfl) (λk hk v hv=>?_) trivial) λx hx=>ai _
 dsimp only;rw[aA hk,IY];exact af (λ_=>ab (mh _ _) λr hr=>ai _) λ_=>ai _
end
set_option linter.unusedVariables false
set_option linter.unusedSimpArgs false
def Ok(v:Vec):Prop:=0≤v.Mem∧v.Mem≤1125899906842624∧0≤v.I_∧v.I_≤1125899906842624
def Mc(n a m b:Int):Int:=if a=0 then(if b=0 then 0 else 1)else if b=0 then -1 else if n*b<m*a then -1 else if n*b=m*a then 0 else 1
theorem vd(r q:OO)(h1:0≤r.n∧r.n≤1125899906842624)(h2:0≤r.of∧r.of≤1125899906842624)(h3:0≤q.n∧q.n≤1125899906842624)(h4:0≤q.of∧q.of≤1125899906842624) :
  c_ r q=some (Mc r.n r.of q.n q.of):=by
 obtain⟨n,a⟩:=r;obtain⟨m,b⟩:=q;dsimp only at *;obtain⟨n,rfl⟩:=QdA h1.1;obtain⟨a,rfl⟩:=QdA h2.1;obtain⟨m,rfl⟩:=QdA h3.1;obtain⟨b,rfl⟩:=QdA h4.1;unfold c_ Mc;dsimp only
 rw[uk n b (by omega) (by omega),uk m a (by omega) (by omega)]
 by_cases ha:a=0
 ·subst ha;by_cases hb:b=0
  ·subst hb;rfl
  ·have e:(((b:Nat):Int) == 0)=false:=by rw[beq_eq_false_iff_ne];omega
   rw[if_pos (show(((0:Nat):Int))=0 from rfl),if_neg (show¬ ((b:Nat):Int)=0 by omega)]
   simp[e]
 ·have ea:(((a:Nat):Int) == 0)=false:=by rw[beq_eq_false_iff_ne];omega
  rw[if_neg (show¬ ((a:Nat):Int)=0 by omega)]
  by_cases hb:b=0
  ·subst hb
   rw[if_pos (show(((0:Nat):Int))=0 from rfl)]
   simp[ea]
  ·have eb:(((b:Nat):Int) == 0)=false:=by rw[beq_eq_false_iff_ne];omega
   rw[if_neg (show¬ ((b:Nat):Int)=0 by omega)]
   simp only[ea,eb,cond_false,IY];rw[← QeL,← QeL];generalize n*b=X;generalize m*a=Y;rcases Nat.lt_trichotomy X Y with h | h | h
   ·rw[if_pos (by omega)]
    by_cases hh:X / 18446744073709551616<Y / 18446744073709551616
    ·have:decide (((X / 18446744073709551616:Nat):Int)<((Y / 18446744073709551616:Nat):Int))=true:=by rw[decide_eq_true_eq];omega
     simp only[this,cond_true,IY]
    ·have e1:decide (((X / 18446744073709551616:Nat):Int)<((Y / 18446744073709551616:Nat):Int))=false:=by rw[decide_eq_false_iff_not];omega
     have e2:(((X / 18446744073709551616:Nat):Int) == ((Y / 18446744073709551616:Nat):Int))=true:=by rw[beq_iff_eq];omega
     have e3:decide (((X % 18446744073709551616:Nat):Int)<((Y % 18446744073709551616:Nat):Int))=true:=by rw[decide_eq_true_eq];omega
     simp only[e1,e2,e3,cond_true,cond_false,IY]
   ·subst h
    rw[if_neg (by omega),if_pos rfl]
    have e1:∀x:Int,decide (x<x)=false:=λx=>by rw[decide_eq_false_iff_not];omega
    simp only[e1,beq_self_eq_true,cond_true,cond_false,IY]
   ·rw[if_neg (by omega),if_neg (by omega)]
    by_cases hh:Y / 18446744073709551616<X / 18446744073709551616
    ·have e1:decide (((X / 18446744073709551616:Nat):Int)<((Y / 18446744073709551616:Nat):Int))=false:=by rw[decide_eq_false_iff_not];omega
     have e2:(((X / 18446744073709551616:Nat):Int) == ((Y / 18446744073709551616:Nat):Int))=false:=by rw[beq_eq_false_iff_ne];omega
     simp only[e1,e2,cond_true,cond_false,IY]
    ·have e1:decide (((X / 18446744073709551616:Nat):Int)<((Y / 18446744073709551616:Nat):Int))=false:=by rw[decide_eq_false_iff_not];omega
     have e2:(((X / 18446744073709551616:Nat):Int) == ((Y / 18446744073709551616:Nat):Int))=true:=by rw[beq_iff_eq];omega
     have e3:decide (((X % 18446744073709551616:Nat):Int)<((Y % 18446744073709551616:Nat):Int))=false:=by rw[decide_eq_false_iff_not];omega
     have e4:(((X % 18446744073709551616:Nat):Int) == ((Y % 18446744073709551616:Nat):Int))=false:=by rw[beq_eq_false_iff_ne];omega
     simp only[e1,e2,e3,e4,cond_true,cond_false,IY]
def nm(n a:Int):Int:=if n=0 then 1 else a
theorem IC(a p:Vec)(ha:Ok a)(hp:Ok p):lu a p (λa=>kt a.1)=some ⟨a.Mem,nm a.Mem p.Mem⟩:=by
 unfold lu kt nm;simp only[IY];unfold Ok at ha hp;by_cases h:a.Mem=0
 ·rw[if_pos h,(beq_iff_eq.2 h:(a.Mem == 0)=true),h];rfl
 ·rw[if_neg h,(beq_eq_false_iff_ne.2 h:(a.Mem == 0)=false),Oq (by omega) (by omega),Oq (by omega) (by omega)];rfl
theorem E4(a p:Vec)(ha:Ok a)(hp:Ok p):lu a p (λa=>iE a.1)=some ⟨a.I_,nm a.I_ p.I_⟩:=by
 unfold lu iE nm;simp only[IY];unfold Ok at ha hp;by_cases h:a.I_=0
 ·rw[if_pos h,(beq_iff_eq.2 h:(a.I_ == 0)=true),h];rfl
 ·rw[if_neg h,(beq_eq_false_iff_ne.2 h:(a.I_ == 0)=false),Oq (by omega) (by omega),Oq (by omega) (by omega)];rfl
theorem xF{n a:Int}(h:0≤a∧a≤1125899906842624):0≤nm n a∧nm n a≤1125899906842624:=by unfold nm;split<;>omega
def ld(a p:Vec):Int×Int:=if Mc a.Mem (nm a.Mem p.Mem) a.I_ (nm a.I_ p.I_)<0 then(a.I_,nm a.I_ p.I_)else(a.Mem,nm a.Mem p.Mem)
theorem ve{a p:Vec}(ha:Ok a)(hp:Ok p):(0≤(ld a p).1∧(ld a p).1≤1125899906842624)∧(0≤(ld a p).2∧(ld a p).2≤1125899906842624):=by
 have h1:=xF (n:=a.Mem) (a:=p.Mem) ⟨hp.1,hp.2.1⟩;have h2:=xF (n:=a.I_) (a:=p.I_) ⟨hp.2.2.1,hp.2.2.2⟩;unfold ld;unfold Ok at ha;split
 ·exact⟨⟨ha.2.2.1,ha.2.2.2⟩,h2⟩
 ·exact⟨⟨ha.1,ha.2.1⟩,h1⟩
theorem Ai{a p:Vec}(ha:Ok a)(hp:Ok p):mE a p=some ⟨(ld a p).1,(ld a p).2⟩:=by
 unfold mE;rw[IC a p ha hp,E4 a p ha hp];have h1:=xF (n:=a.Mem) (a:=p.Mem) ⟨hp.1,hp.2.1⟩;have h2:=xF (n:=a.I_) (a:=p.I_) ⟨hp.2.2.1,hp.2.2.2⟩;simp only[IY];rw[vd _ _ ⟨ha.1,ha.2.1⟩ h1 ⟨ha.2.2.1,ha.2.2.2⟩ h2];unfold ld;simp only[IY];by_cases h:Mc a.Mem (nm a.Mem p.Mem) a.I_ (nm a.I_ p.I_)<0
 ·rw[if_pos h,decide_eq_true h];rfl
 ·rw[if_neg h,decide_eq_false h];rfl
theorem EY{a p b q:Vec}(h1:Ok a)(h2:Ok p)(h3:Ok b)(h4:Ok q):mZ a p b q=some (Mc (ld a p).1 (ld a p).2 (ld b q).1 (ld b q).2):=by
 have g:∀{v:Vec},Ok v→decide (GV v)=true:=λh=>decide_eq_true (by unfold Ok at h;unfold GV VB;omega)
 unfold mZ;simp only[iP,g h1,g h2,g h3,g h4,IY,Bool.not_true,cond_false];rw[Ai h1 h2,Ai h3 h4];simp only[IY];rw[vd _ _ (ve h1 h2).1 (ve h1 h2).2 (ve h3 h4).1 (ve h3 h4).2];rfl
theorem wc{n a m b:Int}(h1:0≤a)(h2:0≤b):Mc n a m b<0↔(b=0∧a≠0)∨(a≠0∧b≠0∧n*b<m*a):=by
 unfold Mc
 repeat' split
 all_goals omega
theorem xN{n a m b:Int}(h1:0≤a)(h2:0≤b):Mc n a m b≤0↔b=0∨(a≠0∧b≠0∧n*b≤m*a):=by
 unfold Mc
 repeat' split
 all_goals omega
theorem C1{n a m b k c:Int}(ha:0<a)(hb:0<b)(hc:0<c)(h1:n*b≤m*a)(h2:m*c≤k*b):n*c≤k*a∧(n*b<m*a∨m*c<k*b→n*c<k*a)∧(n*b=m*a→m*c=k*b→n*c=k*a):=by
 have e1:n*c*b=n*b*c:=by rw[QeS,Int.mul_comm c b,← QeS]
 have e2:m*a*c=m*c*a:=by rw[QeS,Int.mul_comm a c,← QeS]
 have e3:k*b*a=k*a*b:=by rw[QeS,Int.mul_comm b a,← QeS]
 have l1:n*b*c≤m*a*c:=Int.mul_le_mul_of_nonneg_right h1 (by omega)
 have l2:m*c*a≤k*b*a:=Int.mul_le_mul_of_nonneg_right h2 (by omega)
 refine⟨?_,?_,?_⟩
 ·apply Int.le_of_mul_le_mul_right _ hb;omega
 ·rintro(h | h)
  ·have l3:n*b*c<m*a*c:=Int.mul_lt_mul_of_pos_right h hc;apply Int.lt_of_mul_lt_mul_right _ (Int.le_of_lt hb);omega
  ·have l3:m*c*a<k*b*a:=Int.mul_lt_mul_of_pos_right h ha;apply Int.lt_of_mul_lt_mul_right _ (Int.le_of_lt hb);omega
 ·intro h h'
  have:n*c*b=k*a*b:=by rw[e1,h,e2,h',e3]
  exact Int.eq_of_mul_eq_mul_right (by omega) this
theorem DB{n a m b k c:Int}(h1:0≤a)(h2:0≤b)(h3:0≤c)(x:Mc n a m b≤0)(y:Mc m b k c≤0):Mc n a k c≤0∧(Mc n a k c<0↔Mc n a m b<0∨Mc m b k c<0):=by
 rw[xN h1 h2]at x;rw[xN h2 h3]at y;rw[xN h1 h3,wc h1 h3,wc h1 h2,wc h2 h3];by_cases hc:c=0
 ·subst hc;refine⟨.inl rfl,?_⟩;constructor
  ·rintro(⟨_,h⟩ | ⟨_,h,_⟩)
   ·by_cases hb:b=0
    ·exact .inl (.inl ⟨hb,h⟩)
    ·exact .inr (.inl ⟨rfl,hb⟩)
   ·exact absurd rfl h
  ·rintro((⟨_,h⟩ | ⟨h,_,_⟩) | (⟨_,h⟩ | ⟨_,h,_⟩))
   ·exact .inl ⟨rfl,h⟩
   ·exact .inl ⟨rfl,h⟩
   ·rcases x with x | ⟨x,_⟩
    ·exact absurd x h
    ·exact .inl ⟨rfl,x⟩
   ·exact absurd rfl h
 ·rcases y with y | ⟨y1,_,y2⟩
  ·exact absurd y hc
  ·rcases x with x | ⟨x1,_,x2⟩
   ·exact absurd x y1
   ·obtain⟨k1,k2,k3⟩:=C1 (by omega:0<a) (by omega:0<b) (by omega:0<c) x2 y2
    refine⟨.inr ⟨x1,hc,k1⟩,?_⟩;constructor
    ·rintro(⟨h,_⟩ | ⟨_,_,h⟩)
     ·exact absurd h hc
     ·by_cases e1:n*b<m*a
      ·exact .inl (.inr ⟨x1,y1,e1⟩)
      ·by_cases e2:m*c<k*b
       ·exact .inr (.inr ⟨y1,hc,e2⟩)
       ·have:=k3 (by omega) (by omega)
        omega
    ·rintro((⟨h,_⟩ | ⟨_,_,h⟩) | (⟨h,_⟩ | ⟨_,_,h⟩))
     ·exact absurd h y1
     ·exact .inr ⟨x1,hc,k2 (.inl h)⟩
     ·exact absurd h hc
     ·exact .inr ⟨x1,hc,k2 (.inr h)⟩
structure SO{α : Type}(lt:α→α→Bool)(l:List α):Prop where
 XA:∀x∈l,lt x x=false
 tr:∀x∈l,∀y∈l,∀z∈l,lt x y=true→lt y z=true→lt x z=true
 tot:∀x∈l,∀y∈l,x≠y→lt x y=true∨lt y x=true
theorem SO.asm{α : Type}{lt:α→α→Bool}{l:List α}(h:SO lt l){x y:α}(hx:x∈l)(hy:y∈l)(hl:lt x y=true):lt y x=false:=by
 cases e:lt y x with
 | false=>rfl
 | true=>have h1:=h.tr x hx y hy x hx hl e;rw[h.XA x hx]at h1;exact h1.symm
theorem ph:∀a:Str,Op.bytesLess a a=false
 | []=>rfl
 | x::a=>by
  unfold Op.bytesLess;rw[ph a]
  have:¬ x<x:=by rw[UInt8.lt_iff_toNat_lt];omega
  simp[this]
theorem qs:∀{a b c:Str},Op.bytesLess a b=true→Op.bytesLess b c=true→Op.bytesLess a c=true
 | _,[],_,h,_=>by simp[Op.bytesLess]at h
 | _,_::_,[],_,h=>by simp[Op.bytesLess]at h
 | [],y::b,z::c,_,_=>by simp[Op.bytesLess]
 | x::a,y::b,z::c,h1,h2=>by
  unfold Op.bytesLess at *;simp only[PE,decide_eq_true_eq,KV,beq_iff_eq]at *;simp only[UInt8.lt_iff_toNat_lt]at *;rcases h1 with h1 | ⟨rfl,h1⟩
  ·rcases h2 with h2 | ⟨rfl,h2⟩
   ·left;omega
   ·left;exact h1
  ·rcases h2 with h2 | ⟨rfl,h2⟩
   ·left;exact h2
   ·right;exact⟨rfl,qs h1 h2⟩
theorem uL:∀{a b:Str},Op.bytesLess a b=false→a≠b→Op.bytesLess b a=true
 | [],[],_,h=>absurd rfl h
 | [],_::_,h,_=>by simp[Op.bytesLess]at h
 | _::_,[],_,_=>by simp[Op.bytesLess]
 | x::a,y::b,h,hn=>by
  unfold Op.bytesLess at *;simp only[UU,decide_eq_false_iff_not,QeO,beq_eq_false_iff_ne,PE,decide_eq_true_eq,KV,beq_iff_eq]at *;simp only[UInt8.lt_iff_toNat_lt]at *;by_cases hx:x=y
  ·subst hx;right
   refine⟨rfl,uL ?_ (λe=>hn (by rw[e]))⟩
   rcases h.2 with h | h
   ·exact absurd rfl h
   ·exact h
  ·left;have:x.toNat≠y.toNat:=λe=>hx (UInt8.toNat_inj.1 e);omega
theorem Dc{n a m b:Int}(h1:0≤a)(h2:0≤b):Mc n a m b<0∨Mc m b n a<0∨(Mc n a m b=0∧Mc m b n a=0):=by
 unfold Mc
 repeat' split
 all_goals omega
theorem Dy(n a:Int):Mc n a n a=0:=by
 unfold Mc
 repeat' split
 all_goals omega
theorem Eg{α : Type}{φ : α→α→Option Int}{lt:α→α→Bool}{l:List α}(hφ : ∀x∈l,∀y∈l,∃c,φ x y=some c∧decide (c<0)=lt x y)(h:SO lt l)(hn:l.Nodup)(hl:l.length<1000000000):Gv (XO φ l) λr=>r.Perm l:=by
 cases l with
 | nil=>exact ae (.refl _)
 | cons x l=>
  show Gv (if Zr (cG φ (x::l) x) (l.length+1)&&decide (l.length<1000000000)then some (Mx (N9 φ) (x::l))else none) _
  have hl':l.length+1<1000000000:=hl;generalize hL:x::l=L at *
  have hlen:l.length+1=L.length:=by rw[← hL];rfl
  rw[hlen]
  have gd:∀i (hi:i<L.length),Vo L x i=L[i]:=λi hi=>by unfold Vo;rw[List.getD_eq_getElem?_getD,IZ hi];rfl
  have key:Zr (cG φ L x) L.length=true:=by
   unfold Zr;simp only[Oe,WV];intro i hi j hj;unfold cG;rw[gd i hi,gd j hj];have mi:=K_ hi;have mj:=K_ hj;obtain⟨a,ea,ha⟩:=hφ _ mi _ mj;obtain⟨b,eb,hb⟩:=hφ _ mj _ mi;rw[ea,eb];dsimp only;rw[KV];constructor
   ·split
    ·rename_i e;subst e;rw[ha,h.XA _ mi];rfl
    ·rename_i e;rw[ha,hb];have hne:L[i]≠L[j]:=λe2=>e ((ZA hn).1 e2);rcases h.tot _ mi _ mj hne with h1 | h1
     ·rw[h1,h.asm mi mj h1];rfl
     ·rw[h1,h.asm mj mi h1];rfl
   ·rw[Oe];intro k hk;have hk:=WV.1 hk;rw[gd k hk];have mk:=K_ hk;obtain⟨c,ec,hc⟩:=hφ _ mj _ mk;obtain⟨d,ed,hd⟩:=hφ _ mi _ mk;rw[ec,ed];dsimp only;rw[ha,hc,hd]
    cases h1:lt L[i] L[j]with
    | false=>rfl
    | true=>
     cases h2:lt L[j] L[k]with
     | false=>rfl
     | true=>rw[h.tr _ mi _ mj _ mk h1 h2];rfl
  rw[key,decide_eq_true (by omega:l.length<1000000000)]
  exact ae nh
theorem uw(x y:Int):cQ x y=some (if x<y then -1 else if y<x then 1 else 0):=by
 unfold cQ iH;simp only[IY,bne_self_eq_false,cond_false];by_cases h:x<y
 ·rw[decide_eq_true h,if_pos h];rfl
 ·rw[decide_eq_false h,if_neg h,cond_false];by_cases h2:y<x
  ·rw[if_pos h2,decide_eq_true (show x>y from h2)];rfl
  ·rw[if_neg h2,decide_eq_false (show¬ x>y from h2)];rfl
theorem uj(x y:Str):b8 x y=some (if Op.bytesLess x y=true then -1 else if x=y then 0 else 1):=by
 unfold b8 fQ;simp only[IY,beq_self_eq_true,Bool.not_true,cond_false]
 cases h:Op.bytesLess x y with
 | true=>rfl
 | false=>
  simp only[cond_false,Ni,if_false];unfold OH;rw[h,Bool.false_or];by_cases e:x=y
  ·rw[if_pos e];subst e;simp
  ·rw[if_neg e]
   have:(x == y)=false:=by rw[beq_eq_false_iff_ne];exact e
   rw[this];rfl
theorem BT(x y:Int):gS [x,y]=some (if x≠0 then x else y):=by
 unfold gS
 have e0:ew [x,y] 0=some (bif x != 0 then .inr (.inl x)else .inl 1):=by
  unfold ew
  rw[show idx [x,y] 0=some x from rfl]
  simp only[IY]
  cases x != 0<;>rfl
 have e1:ew [x,y] 1=some (bif y != 0 then .inr (.inl y)else .inl 2):=by
  unfold ew
  rw[show idx [x,y] 1=some y from rfl]
  simp only[IY]
  cases y != 0<;>rfl
 have e2:ew [x,y] 2=some (.inr (.inr ())):=rfl;rw[cR,e0];by_cases hx:x=0
 ·subst hx;simp only[bne_self_eq_false,cond_false];rw[cR,e1];by_cases hy:y=0
  ·subst hy;simp only[bne_self_eq_false,cond_false];rw[cR,e2];rfl
  ·have:(y != 0)=true:=by simp[hy]
   rw[this];simp
 ·have:(x != 0)=true:=by simp[hx]
  rw[this];simp[hx]
def lda(a b:Load):Int:=Mc (ld a.used a.least).1 (ld a.used a.least).2 (ld b.used b.least).1 (ld b.used b.least).2
def Zu(a b:Load):Bool:=decide (lda a b<0)||(lda a b == 0&&Op.bytesLess a.Kn b.Kn)
theorem cmpL{a b:Load}(h1:Ok a.used)(h2:Ok a.least)(h3:Ok b.used)(h4:Ok b.least):∃c,fw a b=some c∧decide (c<0)=Zu a b:=by
 unfold fw;rw[EY h1 h2 h3 h4,uj];simp only[IY,BT];refine⟨_,rfl,?_⟩;unfold Zu lda;generalize Mc _ _ _ _=c;by_cases e:c=0
 ·subst e
  cases Op.bytesLess a.Kn b.Kn<;>by_cases e:a.Kn=b.Kn<;>simp[e]
 ·simp[e]
theorem Ic{l:List Load}(hn:∀x∈l,∀y∈l,x.Kn=y.Kn→x=y)(hf:∀x∈l,Ok x.used∧Ok x.least):SO Zu l:=by
 have hb:∀x∈l,0≤(ld x.used x.least).2:=λx hx=>(ve (hf x hx).1 (hf x hx).2).2.1;refine⟨λx hx=>?_,λx hx y hy z hz h1 h2=>?_,λx hx y hy hne=>?_⟩
 ·unfold Zu lda;rw[Dy,ph];rfl
 ·unfold Zu lda at *;simp only[PE,KV,decide_eq_true_eq,beq_iff_eq]at h1 h2 ⊢
  have c1:Mc (ld x.used x.least).1 (ld x.used x.least).2 (ld y.used y.least).1 (ld y.used y.least).2≤0:=by rcases h1 with h | ⟨h,_⟩<;>omega
  have c2:Mc (ld y.used y.least).1 (ld y.used y.least).2 (ld z.used z.least).1 (ld z.used z.least).2≤0:=by rcases h2 with h | ⟨h,_⟩<;>omega
  obtain⟨k1,k2⟩:=DB (hb x hx) (hb y hy) (hb z hz) c1 c2;rcases h1 with h1 | ⟨h1,b1⟩
  ·exact .inl (k2.2 (.inl h1))
  ·rcases h2 with h2 | ⟨h2,b2⟩
   ·exact .inl (k2.2 (.inr h2))
   ·by_cases h3:Mc (ld x.used x.least).1 (ld x.used x.least).2 (ld z.used z.least).1 (ld z.used z.least).2<0
    ·exact .inl h3
    ·exact .inr ⟨by omega,qs b1 b2⟩
 ·unfold Zu lda;simp only[PE,KV,decide_eq_true_eq,beq_iff_eq];rcases Dc (n:=(ld x.used x.least).1) (m:=(ld y.used y.least).1) (hb x hx) (hb y hy)with h | h | ⟨h1,h2⟩
  ·exact .inl (.inl h)
  ·exact .inr (.inl h)
  ·cases e:Op.bytesLess x.Kn y.Kn with
   | true=>exact .inl (.inr ⟨h1,rfl⟩)
   | false=>exact .inr (.inr ⟨h2,uL e λe2=>hne (hn x hx y hy e2)⟩)
section
variable{α : Type}{φ : α→α→Option Int}(hφ : ∀x y,T (φ x y))
include hφ
def SM(s r:List α):Prop:=r.length=s.length∧∀x∈r,x∈s
theorem anE{s:List α}(hn:s.length≤1000000){step:List α×Int→Option ((List α×Int) ⊕ List α)}
  (h:∀t,step t=(bif decide (t.2>0)then(Kk t.2 t.1.length).bind λi=>(t.1[i]?).bind λx=>(Kk (Jd (t.2 - 1)) t.1.length).bind λi1=>(t.1[i1]?).bind λx1=>(φ x x1).bind λr=>some (decide (r<0))else some false).bind λq=>bif q then(Kk (Jd (t.2 - 1)) t.1.length).bind λi2=>(t.1[i2]?).bind λx2=>(Kk t.2 t.1.length).bind λi3=>(t.1[i3]?).bind λx3=>(Kk t.2 t.1.length).bind λi4=>(t.1[i4]?).bind λx4=>(Kk (Jd (t.2 - 1)) (List.set t.1 i4 x2).length).bind λi5=>((List.set t.1 i4 x2)[i5]?).bind λx5=>some (.inl (List.set (List.set t.1 i4 x2) i5 x3,Jd (t.2 - 1)))else some (.inr t.1))
  {r:List α} (hr:SM s r) {i:Int} (h0:0≤i) (h1:i<s.length):Gv (loop step (r,i)) (SM s):=by
 refine gP (λt:List α×Int=>SM s t.1∧0≤t.2∧t.2<s.length) (λt=>t.2.toNat) (λt ⟨⟨g1,g2⟩,g3,g4⟩=>?_) ⟨hr,h0,h1⟩;rw[h]
 refine ab (P:=λq=>q=true→0<t.2) (af (λe=>?_) λ_=>ae (by simp)) λq hq=>af (λe=>?_) λ_=>ae (.inr ⟨_,rfl,g1,g2⟩)
 ·have e:=of_decide_eq_true e
  rw[aF (x:=t.2 - 1) (by omega) (by omega)]
  exact ab (dj g3 (by omega)) λk hk=>ab (db (by omega)) λx _=>ab (dj (by omega) (by omega)) λk1 hk1=>ab (db (by omega)) λx1 _=>ab (hφ x x1) λr _=>ae λ_=>e
 ·have e:=hq e
  rw[aF (x:=t.2 - 1) (by omega) (by omega)]
  refine ab (dj (by omega) (by omega)) λk hk=>ab (db (by omega)) λx ⟨hx,_⟩=>ab (dj g3 (by omega)) λk1 hk1=>ab (db (by omega)) λx1 ⟨hx1,_⟩=>ab (dj g3 (by omega)) λk2 hk2=>ab (db (by omega)) λx2 _=>ab (dj (by omega) (by rw[RJ];omega)) λk3 hk3=>ab (db (by rw[RJ];omega)) λx3 _=>ae (.inl ⟨_,rfl,⟨⟨by simpa using g1,λy hy=>?_⟩,by dsimp only;omega,by dsimp only;omega⟩,by dsimp only;omega⟩)
  rcases SX hy with hy | rfl
  ·rcases SX hy with hy | rfl
   ·exact g2 y hy
   ·exact g2 _ hx
  ·exact g2 _ hx1
theorem ab5{s:List α}(hn:s.length≤1000000){st1:List α×Int→Option ((List α×Int) ⊕ List α)}{step:List α×Int→Option ((List α×Int) ⊕ List α)}
  (h:∀t,step t=(bif decide (t.2>0)then(Kk t.2 t.1.length).bind λi=>(t.1[i]?).bind λx=>(Kk (Jd (t.2 - 1)) t.1.length).bind λi1=>(t.1[i1]?).bind λx1=>(φ x x1).bind λr=>some (decide (r<0))else some false).bind λq=>bif q then(Kk (Jd (t.2 - 1)) t.1.length).bind λi2=>(t.1[i2]?).bind λx2=>(Kk t.2 t.1.length).bind λi3=>(t.1[i3]?).bind λx3=>(Kk t.2 t.1.length).bind λi4=>(t.1[i4]?).bind λx4=>(Kk (Jd (t.2 - 1)) (List.set t.1 i4 x2).length).bind λi5=>((List.set t.1 i4 x2)[i5]?).bind λx5=>some (.inl (List.set (List.set t.1 i4 x2) i5 x3,Jd (t.2 - 1)))else some (.inr t.1))
  (h1:∀t,st1 t=bif decide (t.2<(s.length:Int))then(loop step (t.1,t.2)).bind λd=>some (.inl (d,Jd (t.2+1)))else some (.inr t.1)):Gv (loop st1 (s,1)) (SM s):=by
 refine gP (λt:List α×Int=>SM s t.1∧1≤t.2) (λt=>(s.length - t.2).toNat) (λt ⟨g1,g2⟩=>?_) ⟨⟨rfl,λ_ h=>h⟩,by simp⟩
 rw[h1];refine af (λe=>?_) λ_=>ae (.inr ⟨_,rfl,g1⟩);have e:=of_decide_eq_true e
 refine ab (anE hφ hn h g1 (by omega) e) λd hd=>ae (.inl ⟨_,rfl,⟨hd,?_⟩,?_⟩)<;>dsimp only<;>rw[aF (by omega) (by omega)]<;>omega
end
theorem Fa{l:List App}(hl:l.length≤16){f:Js fam [.st 6,.st 6]→Option Int}(hf:∀x y,T (f (x,y,()))):Gv (kO l f) (SM l):=by
 unfold kO nR
 rw[cR,show kF (l.length:Int) f (l,0,20)=some (.inr (l,0))by unfold kF;dsimp only;rw[decide_eq_false (by omega)];rfl]
 dsimp only;rw[IY];refine ab (ab (P:=SM l) ?_ λr hr=>?_) λ_ h=>ae h
 ·unfold ke
  exact ab (ab5 (s:=l) (φ:=λx y=>f (x,y,())) hf (by omega) (λt=>rfl) λt=>rfl) λr hr=>ae hr
 ·rw[cR,show ka (l.length:Int) f (r,20)=some (.inr r)by unfold ka;dsimp only;rw[decide_eq_false (by omega)];rfl]
  exact ae hr
section
variable{N:Nat}{s:Gp}(h:J N s)
include h
theorem F5(q:Str):Gv (ng s q) λl=>l.length≤16∧∀i∈l,∃a∈s.I9,a.Id=i∧live a=true:=by
 have ha:=h.a;unfold ng
 refine ab (aJ (λ(l:List App) i=>(l,i)) s.I9.length (λk l=>l.length≤k∧∀a∈l,a∈s.I9∧live a=true) (step:=jx s q) (Q:=λl=>l.length≤16∧∀a∈l,a∈s.I9∧live a=true) (by omega) (λk hk l ⟨h1,h2⟩=>?_) (λl ⟨h1,h2⟩=>?_) ⟨by simp,by simp⟩) λl ⟨hl,h2⟩=>ab (Fa hl λx y=>?_) λr ⟨hr,h3⟩=>?_
 ·unfold jx;dsimp only;rw[ay hk,cond_true,aA hk,IY,iI,IY]
  refine ab (P:=λm=>m.length≤k+1∧∀a∈m,a∈s.I9∧live a=true) (ab (P:=λb=>b=true→live s.I9[k]=true) (af (λe=>ae λ_=>e) λ_=>ae (by simp)) λb hb=>af (λe=>?_) λ_=>ae ⟨by omega,h2⟩) λm hm=>ae (.inl ⟨m,rfl,hm⟩)
  rw[bi (by simp;omega) (by omega)]
  exact ae ⟨by simp;omega,λa ha=>(Mr.1 ha).elim (h2 a) λha=>by rw[I4.1 ha];exact⟨K_ hk,hb e⟩⟩
 ·exact aw (a:=.inr l) (by unfold jx;dsimp only;rw[az];rfl) ⟨l,rfl,by omega,h2⟩
 ·unfold oN;rw[uw,uw,IY,IY,BT];exact ai _
 ·rw[j7 (by omega) (by omega),IY]
  refine ab (aJ (λ(l:List Int) i=>(l,i)) r.length (λk l=>l.length=r.length∧∀i∈l.take k,∃a∈s.I9,a.Id=i∧live a=true) (step:=jw r) (Q:=λl=>l.length≤16∧∀i∈l,∃a∈s.I9,a.Id=i∧live a=true) (by omega) (λk hk l ⟨h1,h4⟩=>?_) (λl ⟨h1,h4⟩=>?_) ⟨by simp,by simp⟩) λl hl=>ae hl
  ·unfold jw;dsimp only
   rw[ay hk,cond_true,aH hk,IY,IZ hk,IY,aH (by omega),IY,IZ (by omega),IY]
   refine ae (.inl ⟨_,rfl,by simpa using h1,λi hi=>?_⟩)
   rw[qZ (by omega)]at hi
   exact(Mr.1 hi).elim (h4 i) λhi=>⟨_,(h2 _ (h3 _ (K_ hk))).1,(I4.1 hi).symm,(h2 _ (h3 _ (K_ hk))).2⟩
  ·exact aw (a:=.inr l) (by unfold jw;dsimp only;rw[az];rfl) ⟨l,rfl,by omega,by rwa [← h1,SL]at h4⟩
theorem DZ(p:Str)(label:Int):Gv (m8 s p label) λl=>l.length≤16∧∀x∈l,x.length≤2000:=by
 unfold m8;refine ab (sI h.c p) λks hks=>?_;have⟨k1,k2,k3⟩:=xZ h.c hks
 refine ab (aJ (λ(l:List Load) i=>(l,i)) ks.length (λk l=>l.map (·.Kn)=ks.take k∧∀x∈l,Ok x.used∧Ok x.least) (step:=jl s label ks) (Q:=λl=>l.map (·.Kn)=ks∧∀x∈l,Ok x.used∧Ok x.least) (by omega) (λk hk l ⟨h1,h2⟩=>?_) (λl ⟨h1,h2⟩=>?_) ⟨by simp,by simp⟩) λl ⟨h1,h2⟩=>?_
 ·have hp:=(k3 _ (K_ hk)).1
  have hl:l.length≤k:=by have:=congrArg List.length h1;simp at this;omega
  unfold jl;dsimp only;rw[ay hk,cond_true,aH hk,IY,IZ hk,IY];refine ab (jE h hp label) λu hu=>ab (oh h hp label) λv hv=>?_
  rw[bi (by simp;omega) (by omega)]
  refine ae (.inl ⟨_,rfl,by rw[SQ,h1,Ux hk];rfl,λx hx=>?_⟩)
  rcases Mr.1 hx with hx | hx
  ·exact h2 x hx
  ·rw[I4.1 hx];unfold GV VB at hu;unfold VB at hv;unfold Ok;dsimp only;omega
 ·exact aw (a:=.inr l) (by unfold jl;dsimp only;rw[az];rfl) ⟨l,rfl,by rwa [SL]at h1,h2⟩
 ·have hd:(l.map (·.Kn)).Nodup:=h1▸k2
  have hl:l.length=ks.length:=by rw[← h1,OD]
  refine ab (P:=λr=>r.length=ks.length∧∀x∈r,x.Kn.length≤2000) (nH (Eg (lt:=Zu) (λx hx y hy=>cmpL (h2 x hx).1 (h2 x hx).2 (h2 y hy).1 (h2 y hy).2) (Ic (λx hx y hy e=>?_) h2) ((List.pairwise_map.1 hd).imp λh e=>h (by rw[e])) (by omega)) λr hr=>⟨by rw[hr.length_eq,hl],λx hx=>?_⟩) λr ⟨r1,r2⟩=>?_
  ·obtain⟨i,hi,rfl⟩:=WZ hx;obtain⟨j,hj,rfl⟩:=WZ hy
   have:=(ZA hd (i:=i) (j:=j) (h₀:=by simpa using hi) (h₁:=by simpa using hj)).1 (by simpa using e)
   subst this;rfl
  ·exact(k3 _ (h1▸ZE (hr.mem_iff.1 hx))).1
  ·rw[j7 (by omega) (by omega),IY]
   refine ab (aQ (λ(l:List Str) i=>(l,i)) r.length (λl=>l.length=r.length∧∀x∈l,x.length≤2000) (step:=jo r) (Q:=λl=>l.length≤16∧∀x∈l,x.length≤2000) (by omega) (λk hk l ⟨g1,g2⟩=>?_) (λl ⟨g1,g2⟩=>?_) ⟨by simp,by simp⟩) λl hl=>ae hl
   ·unfold jo;dsimp only;rw[ay hk,cond_true,aH hk,IY,IZ hk,IY]
    refine ab (ir (by omega) (by omega) (by omega)) λp hp=>ae (.inl ⟨_,rfl,?_,λx hx=>?_⟩)
    ·subst hp;simp[LP];omega
    ·subst hp;simp only[LP,Mr]at hx;rcases hx with(hx | hx) | hx
     ·exact g2 x (Uu hx)
     ·rw[I4.1 (Uu hx)];exact r2 _ (K_ hk)
     ·exact g2 x (XJ hx)
   ·exact aw (a:=.inr l) (by unfold jo;dsimp only;rw[az];rfl) ⟨l,rfl,by omega,g2⟩
theorem wW(label:Int):∀(k n:Nat)(p:Str),k≤4→p.length≤2000→Gv (eW (n+k+1) s p label (5 - k)) λl=>l.length≤16 ^ k∧∀x∈l,x.length≤2000
 | k,n,p,hk,hp=>by
  show Gv (mO (eW (n+k)) s p label (5 - k)) _;unfold mO
  have h1:1≤16 ^ k:=Nat.pow_pos (by omega)
  refine ab (DZ h p label) λks ⟨g1,g2⟩=>ab (P:=λq=>q=false→1≤k) (af (λ_=>ae (by simp)) λ_=>ae λe=>by have:=of_decide_eq_false e;omega) λq hq=>af (λ_=>ae ⟨by simpa using h1,by simpa using hp⟩) λe=>?_
  obtain⟨k,rfl⟩:∃m,k=m+1:=⟨k - 1,by have:=hq e;omega⟩
  have hp3:16 ^ k≤16 ^ 3:=Qe_ (by omega) (by omega)
  refine ab (aJ (λ(l:List Str) i=>(l,i)) ks.length (λj l=>l.length≤j*16 ^ k∧∀x∈l,x.length≤2000) (step:=gw s label (5 - ((k+1:Nat):Int)) (eW (n+(k+1))) ks) (Q:=λl=>l.length≤16 ^ (k+1)∧∀x∈l,x.length≤2000) (by omega) (λj hj l ⟨f1,f2⟩=>?_) (λl ⟨f1,f2⟩=>?_) ⟨by simp,by simp⟩) λl hl=>ae hl
  ·have hj2:j*16 ^ k≤16*16 ^ 3:=WW (by omega) hp3
   unfold gw;dsimp only
   rw[ay hj,cond_true,aH hj,IY,IZ hj,IY,aF (by omega) (by omega),show(5 - ((k+1:Nat):Int))+1=5 - (k:Int)by omega]
   refine ab (wW label k n ks[j] (by omega) (g2 _ (K_ hj))) λm ⟨m1,m2⟩=>?_
   rw[bi (by simp;omega) (by omega)]
   refine ae (.inl ⟨_,rfl,by rw[I3,Nat.add_one_mul];omega,λx hx=>?_⟩)
   exact(Mr.1 hx).elim (f2 x) (m2 x)
  ·refine aw (a:=.inr l) (by unfold gw;dsimp only;rw[az];rfl) ⟨l,rfl,?_,f2⟩
   have:=M5 (16 ^ k) g1;rw[Nat.pow_succ,Nat.mul_comm];omega
theorem Dj(label:Int):Gv (nQ s label) λl=>l.length≤65536∧∀x∈l,x.length≤2000:=ab (wW h label 4 59 _ (by omega) (by decide)) λl hl=>ae hl
end
set_option linter.unusedVariables false
set_option linter.unusedSimpArgs false
def MS(s t:Gp):Prop:=∃(j:Nat)(hj:j<s.I9.length)(l:List Ask),l.map kc=s.I9[j].Jy.map kc∧t = { s with I9:=s.I9.set j { s.I9[j]with Jy:=l } }
def HS(s t:Gp):Prop:=∃l,l.length≤s.Jr.length+1∧t = { s with Jr:=l }
def GA(s:Gp)(i:Int)(a:App)(x:Ask)(b:App):Prop:=
 (a.Gp=1∧b=⟨a.Id,2,a.Ja,a.User,a.J6,a.Jb,[],s.Now,0,a.Kj,a.KJ,a.Told,a.Lm⟩)∨
 (a.Gp≠1∧∃l,CO l∧cnt l+1=cnt a.Jy∧(∀y∈l,∃z∈a.Jy,ky z=ky y)∧b = { a with Jy:=l,Kj:=a.Kj++[i] })
def GS(n:Int)(s t:Gp):Prop:=∃(j:Nat)(hj:j<s.I9.length)(x:Ask)(b:App) (c:Cont) (i:Nat),x∈s.I9[j].Jy∧live s.I9[j]=true∧GA s c.Id s.I9[j] x b∧
 c.Id=s.Jz*1048576+s.Seq+1∧c.App=s.I9[j].Id∧c.Node=n∧(c.J6,c.Ji,c.Ku)=ky x∧c.Jb=(s.I9[j].Gp == 1)∧
 t = { s with I9:=s.I9.set j b,I6:=s.I6.take i++[c]++s.I6.drop i,Seq:=s.Seq+1 }
theorem JA.mono{N M:Nat}{a:App}(h:JA N a)(hm:N≤M):JA M a:=⟨h.al,h.ak,MP h.g hm,MP h.ki hm,MP h.to hm,MP h.lo hm,h.q⟩
theorem J.mono{N M:Nat}{s:Gp}(h:J N s)(hm:N≤M)(b:M≤1000000):J M s:=⟨h.c,h.n,h.a,h.ad,λa ha=>(h.ak a ha).mono hm,h.k,h.kk,MP h.l hm,h.p,h.e,b,h.nk⟩
theorem FQ{l m:List Ask}(e:l.map kc=m.map kc)(h:CO m):CO l:=by
 refine⟨?_,λx hx=>?_⟩
 ·have:=congrArg List.length e;simp only[OD]at this;exact this▸h.1
 ·have:kc x∈m.map kc:=e▸ZE hx;obtain⟨y,hy,e⟩:=Oz.1 this;have e:y.Ky=x.Ky:=(Prod.mk.inj e).2;exact e▸h.2 y hy
section
variable{N:Nat}{s:Gp}(h:J N s)
include h
theorem J.Xd{M:Nat}(hM:N≤M)(b:M≤1000000){j:Nat}(hj:j<s.I9.length){y:App}(hid:y.Id=s.I9[j].Id)(hy:JA M y)(hl:live y=true∨∀c∈s.I6,c.App≠y.Id):J M { s with I9:=s.I9.set j y }:=by
 refine⟨h.c,h.n,by simpa using h.a,T_ hj hid h.ad,λx hx=>?_,h.k,λc hc=>?_,MP h.l hM,h.p,h.e,b,h.nk⟩
 ·exact(SX hx).elim (λhx=>(h.ak x hx).mono hM) λe=>e▸hy
 ·obtain⟨h1,a,ha,h2,h3⟩:=h.kk c hc;refine⟨h1,?_⟩;rcases mem_set hj ha with rfl | ha
  ·rcases hl with hl | hl
   ·exact⟨y,List.mem_set hj _,by rw[hid,h2],hl⟩
   ·exact absurd (by rw[hid,h2]) (hl c hc)
  ·exact⟨a,ha,h2,h3⟩
theorem zb{M:Nat}(b:M≤1000000){j:Nat}(hj:j<s.I9.length){y:App}(hid:y.Id=s.I9[j].Id)(hy:JA M y):lK s y=some { s with I9:=s.I9.set j y }:=by
 have ha:=h.a;unfold lK;rw[qK h,IY,nS hy b,IY];unfold nL
 rw[th (by omega),IY]
 have h0:0≤ax s y.Id:=by
  by_cases h1:0≤ax s y.Id
  ·exact h1
  ·have:=(cJ (SN.1 h1)).2.2 _ (K_ hj);simp[hid]at this
 obtain⟨k,hk,e,hp,_⟩:=be h0
 have:k=j:=(ZA h.ad (h₀:=by simpa using hk) (h₁:=by simpa using hj)).1 (by simpa[hid]using hp)
 subst this
 rw[show ax s y.Id=k from e]
 simp[aH hk,hk]
theorem qd(i:Int):Gv (di s i) λr=>(r.1.Jy.length≤8∧r.1.Ja.length≤2000)∧(r.2=true→∃(j:Nat)(hj:j<s.I9.length),r.1=s.I9[j]∧r.1.Id=i):=by
 rw[Ax h]
 cases e:fnd s i with
 | none=>exact ae ⟨by simp,by simp⟩
 | some a=>
  have ha:=QdI e;obtain⟨j,hj,ej⟩:=WZ ha
  exact ae ⟨⟨(h.ak a ha).al,(h.ak a ha).q.2⟩,λ_=>⟨j,hj,ej.symm,by simpa using QeN e⟩⟩
theorem MS.j{t:Gp}(g:MS s t):J N t:=by
 obtain⟨j,hj,l,e,rfl⟩:=g;have⟨h1,h2,h3,h4,h5,h6,h7⟩:=h.ak _ (K_ hj);have hc:=FQ e ⟨h1,h2⟩;by_cases hl:live s.I9[j]=true
 ·exact h.Xd (KC _) h.b hj rfl ⟨hc.1,hc.2,h3,h4,h5,h6,h7⟩ (.inl hl)
 ·refine h.Xd (KC _) h.b hj rfl ⟨hc.1,hc.2,h3,h4,h5,h6,h7⟩ (.inr λc hc e=>?_);obtain⟨_,a,ha,e2,hv⟩:=h.kk c hc;obtain⟨i,hi,rfl⟩:=WZ ha
  have:i=j:=(ZA h.ad (h₀:=by simpa using hi) (h₁:=by simpa using hj)).1 (by simpa using e2.trans e)
  subst this;exact hl hv
theorem HS.j(hN:N<1000000){t:Gp}(g:HS s t):J (N+1) t:=by
 obtain⟨l,hl,rfl⟩:=g;have h2:=h.l
 have hm:=h.mono (show N≤N+1 by omega) (by omega)
 exact⟨hm.c,hm.n,hm.a,hm.ad,hm.ak,hm.k,hm.kk,by dsimp only;omega,hm.p,hm.e,hm.b,hm.nk⟩
theorem GS.j{n:Int}(hN:N<1000000)(hk:s.I6.length<200)(hq:s.Seq<1048575){t:Gp}(g:GS n s t):J (N+1) t:=by
 obtain⟨j,hj,x,b,c,i,hx,hv,g,e1,e2,_,_,_,rfl⟩:=g;have⟨h1,h2,h3,h4,h5,h6,h7⟩:=h.ak _ (K_ hj);have⟨⟨p1,p2⟩,p3,p4⟩:=h.e
 have hb:b.Id=s.I9[j].Id∧live b=true∧JA (N+1) b:=by
  rcases g with⟨_,rfl⟩ | ⟨_,l,hl,_,_,rfl⟩
  ·exact⟨rfl,rfl,by simp,by simp,by dsimp only;omega,by dsimp only;omega,by dsimp only;omega,by dsimp only;omega,h7⟩
  ·exact⟨rfl,hv,hl.1,hl.2,by simp;omega,by dsimp only;omega,by dsimp only;omega,by dsimp only;omega,h7⟩
 have hm:=h.Xd (M:=N+1) (by omega) (by omega) hj hb.1 hb.2.2 (.inl hb.2.1)
 refine⟨hm.c,hm.n,hm.a,hm.ad,hm.ak,by simp;omega,λy hy=>?_,hm.l,hm.p,⟨⟨p1,p2⟩,by dsimp only;omega,by dsimp only;omega⟩,hm.b,hm.nk⟩
 rcases nJ hy with hy | rfl
 ·obtain⟨⟨k1,k2⟩,k3⟩:=hm.kk y hy
  exact⟨⟨k1,by dsimp only at k2 ⊢;omega⟩,k3⟩
 ·exact⟨⟨by omega,by dsimp only;omega⟩,b,List.mem_set hj _,by rw[hb.1,e2],hb.2.1⟩
end
set_option linter.unusedVariables false
set_option linter.unusedSimpArgs false
theorem A1(a:Ask)(n:Node):T (ji a n):=by
 unfold ji;refine ab (P:=λ_=>True) (aG (af (λ_=>ai _) λ_=>ai _) λ_=>af (λ_=>ai _) λ_=>af (λ_=>ai _) λ_=>aG (af (λ_=>ai _) λ_=>af (λ_=>ai _) λ_=>ai _) λ_=>af (λ_=>ai _) λ_=>af (λ_=>ai _) λ_=>ai _) ?_
 rintro(_ | _ | _ | _) _<;>exact ai _
theorem Cb(a:Ask)(n:Node):T (mn a n):=ab (A1 a n) λ_ _=>af (λ_=>ai _) λ_=>af (λ_=>ai _) λ_=>af (λ_=>ai _) λ_=>ai _
theorem Au(t:Attempt)(x:Ask):T (d7 t x):=ab (A1 x t.n) λ_ _=>af (λ_=>ab (lw _ _) λ_ _=>ai _) λ_=>ai _
theorem At(t:Attempt)(x:Ask):T (eJ t x):=ab (lw _ _) λ_ _=>ai _
section
variable{N:Nat}{t:Attempt}(h:J N t.s){a:App}(ha:a.Ja.length≤2000)
include h ha
theorem FX(x:Ask):T (fJ t a x):=ab (jE h ha _) λ_ _=>ab (mh _ _) λ_ _=>af (λ_=>ab (oh h ha _) λ_ _=>ab (lw _ _) λ_ _=>ai _) λ_=>ai _
theorem Dn:T (eQ t a):=ab (Bh h ha _ _) λ_ _=>ab (HZ h ha _) λ_ _=>ab (lw _ _) λ_ _=>ai _
theorem Dv(x:Ask):T (eN t a x):=ab (H0 h ha _ _) λ_ _=>ai _
end
theorem J.uni{N:Nat}{s:Gp}(h:J N s){a b:App}(ha:a∈s.I9)(hb:b∈s.I9)(e:a.Id=b.Id):a=b:=by
 obtain⟨i,hi,rfl⟩:=WZ ha;obtain⟨j,hj,rfl⟩:=WZ hb
 have:i=j:=(ZA h.ad (h₀:=by simpa using hi) (h₁:=by simpa using hj)).1 (by simpa using e)
 subst this;rfl
structure AT(I:Gp→Prop)(N:Nat)(n:Int)(t:Attempt):Prop where
 j:J N t.s
 i:I t.s
 n:t.n.Id=n
 k:t.s.I6.length<200
 q:t.s.Seq<1048575
def RT(I:Gp→Prop)(N:Nat)(s:Gp):Prop:=J N s∧I s
def sg(s:Gp):List (Int×Int):=s.I9.map λa=>(a.Id,a.Gp)
def LI(g:List (Int×Int))(ids:List Int):Prop:=∀i∈ids,∃p∈g,p.1=i∧(p.2=1∨p.2=2)
theorem agb{e:Int}(h0:0≤e)(h1:e≤1048576):N_ .i64 e 20=e*1048576:=by
 show IntKind.i64.wrap (e*2 ^ min (20:Int).toNat IntKind.i64.bits)=_
 rw[show(2 ^ min (20:Int).toNat IntKind.i64.bits:Int)=1048576 from by decide]
 exact aF (by omega) (by omega)
section
variable{I:Gp→Prop}{n:Int}(hM:∀{M:Nat}{s t:Gp},J M s→I s→MS s t→I t)(hH:∀{M:Nat}{s t:Gp},J M s→I s→HS s t→I t)(hG:∀{M:Nat}{s t:Gp},J M s→I s→GS n s t→I t)
variable{N:Nat}(hN:N<999000){t:Attempt}(h:AT I N n t)
include hG h in
theorem yV(hN:N<999990){j:Nat}(hj:j<t.s.I9.length)(hv:live t.s.I9[j]=true){x y:Ask}(hy:y∈t.s.I9[j].Jy)(e:ky y=ky x):Gv (cp t t.s.I9[j] x) λr=>RT I (N+1) r.2.s:=by
 have hp:y.J6=x.J6:=(Prod.mk.inj e).1;have⟨⟨p1,p2⟩,p3,p4⟩:=h.j.e;have hq:=h.q;have hk:=h.k;have⟨a1,a2,a3,a4,a5,a6,a7⟩:=h.j.ak _ (K_ hj);unfold cp
 rw[agb p1 p2,aF (x:=t.s.Seq+1) (by omega) (by omega),aF (x:=_+(t.s.Seq+1)) (by omega) (by omega)]
 refine ab (hp▸Gf ⟨a1,a2⟩ hy) λr1 ⟨t1,t2,t3⟩=>ab (P:=λb=>GA t.s (t.s.Jz*1048576+(t.s.Seq+1)) t.s.I9[j] y b) (af (λe=>ae (.inl ⟨by simpa using e,rfl⟩)) λe=>?_) λb hb=>?_
 ·rw[bi (by simp;omega) (by omega)]
  exact ae (.inr ⟨by simpa using e,r1.1,t1,t2,t3,rfl⟩)
 have hb2:b.Id=t.s.I9[j].Id∧JA (N+1) b:=by
  rcases hb with⟨_,rfl⟩ | ⟨_,l,hl,_,_,rfl⟩
  ·exact⟨rfl,by simp,by simp,by dsimp only;omega,by dsimp only;omega,by dsimp only;omega,by dsimp only;omega,a7⟩
  ·exact⟨rfl,hl.1,hl.2,by simp;omega,by dsimp only;omega,by dsimp only;omega,by dsimp only;omega,a7⟩
 have h1:J N { t.s with Seq:=t.s.Seq+1 }:=⟨h.j.c,h.j.n,h.j.a,h.j.ad,h.j.ak,h.j.k,λc hc=>⟨⟨(h.j.kk c hc).1.1,by have:=(h.j.kk c hc).1.2;dsimp only;omega⟩,(h.j.kk c hc).2⟩,h.j.l,h.j.p,⟨⟨p1,p2⟩,by dsimp only;omega,by dsimp only;omega⟩,h.j.b,h.j.nk⟩
 refine ab (aw (zb h1 (M:=N+1) (by omega) hj hb2.1 hb2.2) (P:=λs=>s = { t.s with I9:=t.s.I9.set j b,Seq:=t.s.Seq+1 }) rfl) ?_
 rintro s2 rfl
 obtain⟨k,hk2,e1⟩:=Zn (l:=t.s.I6) (p:=λc=>decide (c.Id<Jd (N_ .i64 t.s.Jz 20+Jd (t.s.Seq+1)))) (step:=iQ t { t.s with I9:=t.s.I9.set j b,Seq:=t.s.Seq+1 }) (by omega) λk=>rfl
 rw[e1,IY];unfold mN ins
 rw[if_pos ⟨by omega,by show(k:Int)≤(t.s.I6.length:Int);omega,rfl,by show t.s.I6.length≤1000000;omega⟩]
 have g:GS n t.s { t.s with I9:=t.s.I9.set j b,I6:=t.s.I6.take k++[⟨t.s.Jz*1048576+(t.s.Seq+1),t.s.I9[j].Id,t.n.Id,x.Ku,x.J6,x.Ji,t.s.I9[j].Gp == 1,0⟩]++t.s.I6.drop k,Seq:=t.s.Seq+1 }:=
  ⟨j,hj,y,b,_,k,hy,hv,hb,by dsimp only;omega,rfl,h.n,e.symm,rfl,rfl⟩
 exact ae ⟨g.j h.j (by omega) h.k h.q,hG h.j h.i g⟩
theorem EH{a:App}(ha:a.Jy.length≤8)(p:Int):Gv (md a p) λr=>r.2=true→r.1∈a.Jy:=by
 unfold md
 refine ab (aQ (λ(x:Ask) i=>(x,i)) a.Jy.length (λ_=>True) (step:=iA a p) (Q:=λr=>match r with | .inl q=>q.2=true→q.1∈a.Jy | .inr _=>True) (by omega) (λk hk x _=>?_) (λx _=>?_) trivial) ?_
 ·unfold iA;dsimp only;rw[ay hk,cond_true,aA hk,IY];exact af (λ_=>ae (.inr ⟨_,rfl,λ_=>K_ hk⟩)) λ_=>ae (.inl ⟨x,rfl,trivial⟩)
 ·exact aw (a:=.inr (.inr x)) (by unfold iA;dsimp only;rw[az];rfl) ⟨_,rfl,trivial⟩
 ·rintro(q | q) hq
  ·exact ae hq
  ·exact ae (by simp)
include hH hG hN h in
theorem HN:Gv (eP t) λr=>RT I (N+2) r.2.2.2.s∧(r.2.2.1=false→AT I (N+1) n r.2.2.2):=by
 have hl:=h.j.l
 have hm:∀M,N≤M→M≤N+2→J M t.s:=λM h1 h2=>h.j.mono h1 (by omega)
 unfold eP
 rw[sIx t.s.Jr (by omega) (λx=>x.Node == t.n.Id) λx=>rfl,IY]
 refine af (λ_=>ae ⟨⟨hm _ (by omega) (by omega),h.i⟩,λ_=>⟨hm _ (by omega) (by omega),h.i,h.n,h.k,h.q⟩⟩) λh0=>?_
 obtain⟨i,hi,e,_⟩:=be (Int.not_lt.1 (of_decide_eq_false h0));rw[e,aH hi,IY,IZ hi,IY];refine ab (qd h.j _) λr ⟨⟨ha,hq⟩,hr⟩=>ab (EH ha _) λx hx=>?_
 refine ab (P:=λb=>b=true→r.2=true∧live r.1=true∧x.2=true) ?_ λstays hs=>aG ?_ λq=>af (λ_=>ae ⟨⟨hm _ (by omega) (by omega),h.i⟩,by simp⟩) λ_=>?_
 ·refine af (λe1=>?_) λ_=>ae (by simp)
  rw[iI,IY]
  refine af (λe2=>af (λe3=>?_) λ_=>ae (by simp)) λ_=>ae (by simp)
  have k:∀b:Bool,b=true→r.2=true∧live r.1=true∧x.2=true:=λ_ _=>⟨e1,e2,e3⟩;exact ab (Cb _ _) λ_ _=>af (λ_=>ab (Au _ _) λ_ _=>af (λ_=>ab (FX h.j hq _) λ_ _=>af (λ_=>ab (Dn h.j hq) λ_ _=>ae (k _)) λ_=>ae (k _)) λ_=>ae (k _)) λ_=>ae (k _)
 ·exact af (λ_=>ab (At _ _) λ_ _=>af (λ_=>ab (Dv h.j hq _) λ_ _=>ai _) λ_=>ai _) λ_=>ai _
 ·unfold mR del
  rw[Rm (by omega),if_pos (by omega),IY]
  have g:HS t.s { t.s with Jr:=t.s.Jr.take (i:Int).toNat++t.s.Jr.drop ((i+1:Nat):Int).toNat }:=⟨_,by simp;omega,rfl⟩
  have h2:AT I (N+1) n ⟨{ t.s with Jr:=t.s.Jr.take (i:Int).toNat++t.s.Jr.drop ((i+1:Nat):Int).toNat },t.n,t.free⟩:=⟨g.j h.j (by omega),hH h.j h.i g,h.n,h.k,h.q⟩
  cases stays with
  | false=>exact ae ⟨⟨h2.j.mono (by omega) (by omega),h2.i⟩,λ_=>h2⟩
  | true=>
   obtain⟨e1,e2,e3⟩:=hs rfl;obtain⟨j,hj,e4,_⟩:=hr e1;rw[e4]at e2 ⊢
   exact ab (yV hG h2 (by omega) hj e2 (e4▸hx e3) rfl) λr hr=>ae ⟨hr,by simp⟩
include hH hN h in
theorem G5(i p:Int):Gv (eK t i p) λr=>RT I (N+1) r.2.s∧(r.1=false→r.2=t):=by
 have hl:=h.j.l;unfold eK kw
 rw[sIx t.s.Jr (by omega) (λx=>x.App == i&&x.J6 == p) λx=>by unfold fX;cases x.App == i<;>rfl,IY,IY]
 refine af (λ_=>ae ⟨⟨h.j.mono (by omega) (by omega),h.i⟩,λ_=>rfl⟩) λ_=>?_
 obtain⟨k,hk,e⟩:=Zn (l:=t.s.Jr) (p:=λx=>decide (x.Node<t.n.Id)) (step:=jh t) (by omega) λk=>rfl
 rw[e,IY];unfold mI ins
 rw[if_pos ⟨by omega,by omega,rfl,by omega⟩,IY]
 have g:HS t.s { t.s with Jr:=t.s.Jr.take (k:Int).toNat++[⟨t.n.Id,i,p⟩]++t.s.Jr.drop (k:Int).toNat }:=⟨_,by simp;omega,rfl⟩
 exact ae ⟨⟨g.j h.j (by omega),hH h.j h.i g⟩,by simp⟩
include hM h in
theorem Gc{j:Nat}(hj:j<t.s.I9.length)(p:Int):Gv (eG t t.s.I9[j] p) λr=>AT I N n r.2∧sg r.2.s=sg t.s∧r.1.Jy.map kc=t.s.I9[j].Jy.map kc∧r.1.Id=t.s.I9[j].Id∧live r.1=live t.s.I9[j]∧∃h2:j<r.2.s.I9.length,r.2.s.I9[j]=r.1:=by
 have⟨a1,a2,a3,a4,a5,a6,a7⟩:=h.j.ak _ (K_ hj);unfold eG;refine ab (Hx a1 p) λl hl=>?_;have hc:=FQ hl ⟨a1,a2⟩
 rw[zb h.j h.j.b hj (y:={ t.s.I9[j]with Jy:=l }) rfl ⟨hc.1,hc.2,a3,a4,a5,a6,a7⟩,IY]
 have g:MS t.s { t.s with I9:=t.s.I9.set j { t.s.I9[j]with Jy:=l } }:=⟨j,hj,l,hl,rfl⟩
 exact ae ⟨⟨g.j h.j,hM h.j h.i g,h.n,h.k,h.q⟩,Vm hj rfl,hl,rfl,rfl,by simpa using hj,by simp⟩
end
set_option linter.unusedVariables false
set_option linter.unusedSimpArgs false
section
variable{I:Gp→Prop}{n:Int}(hM:∀{M:Nat}{s t:Gp},J M s→I s→MS s t→I t)(hH:∀{M:Nat}{s t:Gp},J M s→I s→HS s t→I t)(hG:∀{M:Nat}{s t:Gp},J M s→I s→GS n s t→I t)
variable{N:Nat}(hN:N<998000){may:Js fam [.st 5,.st 4]→Option Bool}(hy:∀x n,T (may (x,n,())))(first:Bool)
abbrev RQ(I:Gp→Prop)(N:Nat)(q:Attempt×Int×Cont):Prop:=RT I (N+1) q.1.s∧q.2.1≠0
include hM hH hG hN hy
theorem Iy{g:List (Int×Int)}(id:Int){t:Attempt}(h:AT I N n t)(hg:sg t.s=g){j:Nat}(hj:j<t.s.I9.length)(hv:live t.s.I9[j]=true)(c0:Cont) :
  Gv (loop (bU first may id t.s.I9[j].Jy) (t,c0,t.s.I9[j],0)) λr=>match r with | .inl q=>RQ I N q | .inr q=>AT I N n q.1∧sg q.1.s=g:=by
 have ha:=(h.j.ak _ (K_ hj)).al;generalize hxs:t.s.I9[j].Jy=xs at ha ⊢
 refine aQ (λ(p:Attempt×Cont×App) i=>(p.1,p.2.1,p.2.2,i)) xs.length (λp=>AT I N n p.1∧sg p.1.s=g∧live p.2.2=true∧p.2.2.Jy.map kc=xs.map kc∧∃(j:Nat)(hj:j<p.1.s.I9.length),p.1.s.I9[j]=p.2.2) (step:=bU first may id xs)
  (Q:=λr=>match r with | .inl q=>RQ I N q | .inr q=>AT I N n q.1∧sg q.1.s=g) (by omega) ?_ ?_ (s:=(t,c0,t.s.I9[j])) ⟨h,hg,hv,by rw[hxs],j,hj,rfl⟩
 ·rintro k hk ⟨u,c1,a⟩ ⟨h,hg,hv,he,j,hj,ej⟩;dsimp only at h hg hv he hj ej;obtain rfl:=ej;have hq:=(h.j.ak _ (K_ hj)).q.2;unfold bU;dsimp only;rw[ay hk,cond_true,aH hk,IY,IZ hk,IY]
  refine ab (P:=λr=>match r with | .inl p=>AT I N n p.1∧sg p.1.s=g∧live p.2.2=true∧p.2.2.Jy.map kc=xs.map kc∧∃(j:Nat)(hj:j<p.1.s.I9.length),p.1.s.I9[j]=p.2.2 | .inr q=>RQ I N q) ?_ ?_
  ·have stay:∀c,Gv (some (.inl (u,c,u.s.I9[j])):Option ((Attempt×Cont×App) ⊕ (Attempt×Int×Cont))) λr=>match r with | .inl p=>AT I N n p.1∧sg p.1.s=g∧live p.2.2=true∧p.2.2.Jy.map kc=xs.map kc∧∃(j:Nat)(hj:j<p.1.s.I9.length),p.1.s.I9[j]=p.2.2 | .inr q=>RQ I N q:=λc=>ae ⟨h,hg,hv,he,j,hj,rfl⟩
   refine ab (FX h.j hq _) λdue _=>aG (ab (Au _ _) λ_ _=>af (λ_=>ai _) λ_=>af (λ_=>ai _) λ_=>ai _) λq=>af (λ_=>stay _) λ_=>ab (hy _ _) λr _=>af (λ_=>af (λ_=>?_) λ_=>stay _) λ_=>ab (Dv h.j hq _) λ_ _=>af (λ_=>stay _) λ_=>ab (At _ _) λ_ _=>af (λ_=>?_) λ_=>?_
   ·exact ab (Gc hM h hj _) λr ⟨r1,r2,r3,r4,r5,h2,r6⟩=>ae ⟨r1,r2.trans hg,by rw[r5,hv],r3.trans he,j,h2,r6⟩
   ·have hx:kc xs[k]∈u.s.I9[j].Jy.map kc:=he▸ZE (K_ hk);obtain⟨y,hy,e⟩:=Oz.1 hx
    exact ab (yV hG h (by omega) hj hv hy (Prod.mk.inj e).1) λr hr=>ae ⟨hr,by simp⟩
   ·refine ab (P:=λq=>(q.2=true→RT I (N+1) q.1.s)∧(q.2=false→q.1=u)) (af (λ_=>ab (G5 hH (by omega) h _ _) λr ⟨r1,r2⟩=>ae ⟨λ_=>r1,r2⟩) λ_=>ae ⟨by simp,λ_=>rfl⟩) λq ⟨q1,q2⟩=>af (λe=>ae ⟨q1 e,by simp⟩) λe=>?_
    rw[q2 e];exact stay _
  ·rintro(⟨p1,p2,p3⟩ | q) hp
   ·exact ae (.inl ⟨(p1,p2,p3),rfl,hp⟩)
   ·exact ae (.inr ⟨_,rfl,hp⟩)
 ·rintro⟨u,c1,a⟩ ⟨h,hg,_⟩
  exact aw (a:=.inr (.inr (u,c1))) (by unfold bU;dsimp only;rw[az];rfl) ⟨_,rfl,h,hg⟩
theorem Ix{ids:List Int}(hl:ids.length≤16){t:Attempt}(h:AT I N n t)(hi:LI (sg t.s) ids)(c0:Cont) :
  Gv (loop (bT first may ids) (t,c0,0)) λr=>match r with | .inl q=>RQ I N q | .inr (.inl q)=>AT I N n q.1 | .inr (.inr q)=>AT I N n q.1:=by
 refine aQ (λ(p:Attempt×Cont) i=>(p.1,p.2,i)) ids.length (λp=>AT I N n p.1∧sg p.1.s=sg t.s) (step:=bT first may ids) (by omega) ?_ ?_ (s:=(t,c0)) ⟨h,rfl⟩
 ·rintro k hk ⟨u,c⟩ ⟨h,hg⟩;dsimp only at h hg;unfold bT;dsimp only;rw[ay hk,cond_true,aH hk,IY,IZ hk,IY]
  refine ab (P:=λr=>match r with | .inl p=>AT I N n p.1∧sg p.1.s=sg t.s | .inr (.inl q)=>RQ I N q | .inr (.inr q)=>AT I N n q.1) (ab (qd h.j _) λr ⟨⟨ha,hq⟩,hr⟩=>af (λ_=>ae h) λe=>ab (Dn h.j hq) λ_ _=>af (λ_=>ae ⟨h,hg⟩) λ_=>?_) ?_
  ·obtain⟨j,hj,e1,e2⟩:=hr (by simpa using e)
   have hv:live u.s.I9[j]=true:=by
    obtain⟨p,hp,p1,p2⟩:=hi _ (K_ hk);rw[← hg]at hp;obtain⟨b,hb,rfl⟩:=Oz.1 hp
    have:=h.j.uni hb (K_ hj) (by rw[← e1,e2];exact p1)
    subst this;unfold live;simpa using p2
   rw[e1]at ha ⊢;unfold lq
   rw[bh (by omega) (by omega),IY]
   refine ab (Iy hM hH hG hN hy first _ h hg hj hv c) ?_
   rintro(q | q) hq
   ·exact ae hq
   ·exact ae hq
  ·rintro(p | q | q) hp
   ·exact ae (.inl ⟨_,rfl,hp⟩)
   ·exact ae (.inr ⟨_,rfl,hp⟩)
   ·exact ae (.inr ⟨_,rfl,hp⟩)
 ·rintro⟨u,c⟩ ⟨h,hg⟩
  exact aw (a:=.inr (.inr (.inr (u,c)))) (by unfold bT;dsimp only;rw[az];rfl) ⟨_,rfl,h⟩
theorem yl{ls:List Str}(hl:ls.length≤65536∧∀x∈ls,x.length≤2000){t:Attempt}(h:AT I N n t):Gv (cD t ls first may) λr=>RT I (N+1) r.2.2.s∧(r.1=0→AT I N n r.2.2):=by
 unfold cD
 refine ab (aQ (λ(p:Attempt×Cont) i=>(p.1,p.2,i)) ls.length (λp=>AT I N n p.1) (step:=cL ls first may) (Q:=λr=>match r with | .inl q=>RQ I N q | .inr q=>AT I N n q.1) (by omega) ?_ ?_ (s:=(t,_)) h) ?_
 ·rintro k hk ⟨u,c⟩ h;dsimp only at h;unfold cL;dsimp only;rw[ay hk,cond_true,aA hk,IY]
  refine ab (P:=λr=>match r with | .inl p=>AT I N n p.1 | .inr q=>RQ I N q) (ab (F5 h.j _) λids ⟨h1,h2⟩=>ab (Ix hM hH hG hN hy first h1 h (λi hi=>?_) c) ?_) ?_
  ·obtain⟨a,ha,e1,e2⟩:=h2 i hi
   exact⟨_,ZE ha,e1,by unfold live at e2;simpa using e2⟩
  ·rintro(q | q | q) hq
   ·exact ae hq
   ·exact ae hq
   ·exact ae hq
  ·rintro(p | q) hp
   ·exact ae (.inl ⟨_,rfl,hp⟩)
   ·exact ae (.inr ⟨_,rfl,hp⟩)
 ·rintro⟨u,c⟩ h
  exact aw (a:=.inr (.inr (u,c))) (by unfold cL;dsimp only;rw[az];rfl) ⟨_,rfl,h⟩
 ·rintro(q | q) hq
  ·exact ae ⟨hq.1,λe=>absurd e hq.2⟩
  ·exact ae ⟨⟨J.mono hq.j (by omega) (by omega),hq.i⟩,λ_=>hq⟩
omit hy in
theorem De{t:Attempt}(h:AT I N n t):Gv (dv t) λr=>RT I (N+1) r.2.2.s:=by
 unfold dv
 exact ab (Dj h.j _) λls hl=>ab (yl hM hH hG hN (λx n=>Cb x n) true hl h) λr ⟨r1,r2⟩=>af (λ_=>ae r1) λe=>ab (yl hM hH hG hN (λx n=>Cb x n) false hl (r2 (by simpa using e))) λr ⟨r1,_⟩=>ae r1
omit hy hN in
theorem Ia(hN:N<997000){s:Gp}(h:J N s)(hi:I s):Gv (nq s n) λr=>RT I (N+2) r.1:=by
 have hn:=h.n;have hk:=h.k;unfold nq
 rw[il h,IY,uv (by omega),IY]
 refine ab (P:=λq=>q=false→∃m,Xz s n=some m∧s.I6.length<200∧s.Seq<1048575) ?_ λq hq=>af (λ_=>ae ⟨h.mono (by omega) (by omega),hi⟩) λe=>ab (IL h n) λfr _=>?_
 ·cases Xz s n with
  | none=>exact ae (by simp)
  | some m=>
   show Gv (bif !m.Up then some true else bif decide ((s.I6.length:Int)≥200)then some true else some (decide (s.Seq≥1048575))) _
   exact af (λ_=>ae (by simp)) λ_=>af (λ_=>ae (by simp)) λh1=>ae λh2=>⟨m,rfl,by have h1:=of_decide_eq_false h1;omega,by have h2:=of_decide_eq_false h2;omega⟩
 ·obtain⟨m,e1,e2,e3⟩:=hq e;rw[e1]
  have ht:AT I N n ⟨s,m,fr⟩:=⟨h,hi,by unfold Xz at e1;simpa using QeN e1,e2,e3⟩
  refine ab (HN hH hG (by omega) ht) λr ⟨r1,r2⟩=>ab (P:=λq=>RT I (N+2) q.2.2.s) (af (λe=>ab (De hM hH hG (by omega) (r2 (by simpa using e))) λr hr=>ae hr) λ_=>ae r1) λq ⟨q1,q2⟩=>?_
  rw[il q1,IY];exact ae ⟨q1,q2⟩
omit hy hN in
theorem ER(hN:N<900000){s:Gp}(h:J N s)(hi:I s):Gv (mf s n) λr=>RT I (N+8) r.1:=by
 unfold mf;rw[il h,IY]
 refine ab (gP (λp:Gp×List Cont=>p.2.length≤3∧RT I (N+2*p.2.length) p.1) (λp=>3 - p.2.length) (Q:=λr=>RT I (N+8) r.1) ?_ ⟨by simp,h,hi⟩) λr hr=>ae hr
 rintro⟨s,l⟩ ⟨h0,h1,h2⟩;dsimp only at *;unfold pM
 refine af (λe=>ab (Ia hM hH hG (by omega) h1 h2) λr ⟨r1,r2⟩=>af (λ_=>ae (.inr ⟨_,rfl,r1.mono (by omega) (by omega),r2⟩)) λ_=>?_) λ_=>ae (.inr ⟨_,rfl,h1.mono (by omega) (by omega),h2⟩)
 have e:=of_decide_eq_true e;dsimp only at e
 rw[bi (by simp;omega) (by omega),IY]
 exact ae (.inl ⟨_,rfl,⟨by simp;omega,r1.mono (by simp;omega) (by simp;omega),r2⟩,by simp;omega⟩)
end
end Go.Fx.D
