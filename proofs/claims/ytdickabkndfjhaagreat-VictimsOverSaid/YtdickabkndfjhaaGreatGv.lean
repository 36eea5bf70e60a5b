/-
  Plain functions that give an answer. Conditions: none.
-/
import Derived.Test.YtdickabkndfjhaaGreatFxC
namespace Go.Fx
open Go
set_option linter.unusedVariables false
def Gv{α : Type}(m:Option α)(P:α→Prop):Prop:=∃a,m=some a∧P a
section
variable{α β τ σ ρ : Type}
theorem aa{P:α→Prop}{a:α}(h:P a):Gv (some a) P:=⟨a,rfl,h⟩
theorem bO{P:α→Prop}{m:Option α}{a:α}(h:m=some a)(k:P a):Gv m P:=⟨a,h,k⟩
theorem ad{m:Option α}{f:α→Option β}{P:α→Prop}{Q:β→Prop}(h:Gv m P)(k:∀a,P a→Gv (f a) Q):Gv (m.bind f) Q:=by obtain⟨a,rfl,ha⟩:=h;exact k a ha
theorem mH{m:Option α}{P Q:α→Prop}(h:Gv m P)(k:∀a,P a→Q a):Gv m Q:=by obtain⟨a,e,ha⟩:=h;exact⟨a,e,k a ha⟩
theorem ae{b:Bool}{x y:Option α}{P:α→Prop}(h:b=true→Gv x P)(k:b=false→Gv y P):Gv (cond b x y) P:=by
 cases b
 ·exact k rfl
 ·exact h rfl
theorem Km{m:Option Bool}{f:Bool→Option β}{Q:β→Prop}(h:Gv m λ_=>True)(k:∀b,Gv (f b) Q):Gv (m.bind f) Q:=ad h λb _=>k b
theorem cL{m:Option α}{P:α→Prop}(h:Gv m P):Gv m λ_=>True:=mH h λ_ _=>trivial
theorem eB{l:List α}{i:Int}(h0:0≤i)(h:i<l.length):Gv (idx l i) λx=>x∈l∧l[i.toNat]? = some x:=by
 have hk:i.toNat<l.length:=by omega
 refine⟨l[i.toNat],?_,NQ hk,K9 hk⟩;unfold idx;rw[if_pos h0,K9 hk]
theorem lQ{n:Nat}{i:Int}(h0:0≤i)(h:i<n):Gv (MZ i n) λk=>k=i.toNat:=by
 refine⟨i.toNat,?_,rfl⟩;unfold MZ
 rw[if_pos ⟨h0,by omega⟩]
theorem mj{l:List α}{k:Nat}(h:k<l.length):Gv (l[k]?) λx=>x∈l∧l[k]? = some x:=
 ⟨l[k],K9 h,NQ h,K9 h⟩
theorem KM{a b:Int}{n:Nat}(h0:0≤a)(h1:a≤b)(h2:b≤n):Gv (OQ a b n) λp=>p=(a.toNat,b.toNat - a.toNat):=by refine⟨_,?_,rfl⟩;unfold OQ;rw[if_pos ⟨h0,h1,h2⟩]
theorem vP{l:List α}{a b:Int}(h0:0≤a)(h1:a≤b)(h2:b≤l.length):Gv (slc l a b) λm=>m=(l.take b.toNat).drop a.toNat:=by refine⟨_,?_,rfl⟩;unfold slc;rw[if_pos ⟨h0,h1,h2⟩]
theorem ue{l:List α}{a b:Int}(h0:0≤a)(h1:a≤b)(h2:b≤l.length):Gv (slc l a b) λm=>(m.length:Int)=b - a∧∀x∈m,x∈l:=by
 refine mH (vP h0 h1 h2) ?_;rintro m rfl
 refine⟨by rw[Ro,Oy];omega,λx hx=>QeK (QgC hx)⟩
theorem aj{b:Nat}{l m:List α}(h:l.length+m.length≤100000000)(hb:b≤1000):app b l m=some (l++m):=by
 unfold app;rw[if_pos];have e:(l++m).length=l.length+m.length:=La
 have:(l++m).length*b≤100000000*1000:=QeS (by omega) hb
 unfold maxLen;omega
theorem eD{l m:List UInt8}(h:l.length+m.length≤1000000000):cat l m=some (l++m):=by unfold cat;rw[if_pos];rw[Nat.ble_eq];omega
theorem CC{x:Int}(h:x≠0):nz x=some ():=by unfold nz;rw[if_pos h]
theorem gD(I:τ→Prop)(m:τ→Nat){step:τ→Option (τ ⊕ ρ)}{Q:ρ→Prop}
  (h:∀t,I t→Gv (step t) λr=>(∃t',r = .inl t'∧I t'∧m t'<m t)∨∃x,r = .inr x∧Q x) {t:τ} (h0:I t):Gv (loop step t) Q:=by
 generalize hn:m t=n
 induction n using Nat.strongRecOn generalizing t with
 | _ n ih=>
  obtain⟨r,e,hr⟩:=h t h0;rw[aX,e];rcases hr with⟨t',rfl,h1,h2⟩ | ⟨x,rfl,hx⟩
  ·exact ih (m t') (by omega) h1 rfl
  ·exact⟨x,rfl,hx⟩
theorem ay(mk:σ→Int→τ)(n:Nat)(Inv:Nat→σ→Prop){step:τ→Option (τ ⊕ ρ)}{Q:ρ→Prop}(hn:n<1000000000)
  (h1:∀k,k<n→∀s,Inv k s→Gv (step (mk s (k:Int))) λr=>(∃s',r = .inl (mk s' (Lx ((k:Int)+1)))∧Inv (k+1) s')∨∃x,r = .inr x∧Q x)
  (h2:∀s,Inv n s→Gv (step (mk s (n:Int))) λr=>∃x,r = .inr x∧Q x) {s:σ} (h0:Inv 0 s):Gv (loop step (mk s 0)) Q:=by
 have key:∀(m k:Nat),m+k=n→∀s,Inv k s→Gv (loop step (mk s (k:Int))) Q:=by
  intro m
  induction m with
  | zero=>
   intro k hk s hs
   have hk:k=n:=by omega
   subst hk;obtain⟨r,e,x,rfl,hx⟩:=h2 s hs;rw[aX,e];exact⟨x,rfl,hx⟩
  | succ m ih=>
   intro k hk s hs
   obtain⟨r,e,hr⟩:=h1 k (by omega) s hs
   rw[aX,e];rcases hr with⟨s',rfl,hs'⟩ | ⟨x,rfl,hx⟩
   ·have:Lx ((k:Int)+1)=((k+1:Nat):Int):=by
     simp only[Lx,IntKind.wrap,IntKind.bits,IntKind.signed];simp;omega
    rw[this]
    exact ih (k+1) (by omega) s' hs'
   ·exact⟨x,rfl,hx⟩
 exact key n 0 rfl s h0
theorem cW(mk:σ→Int→τ)(l:List α)(f:σ→α→σ)(Inv:Nat→σ→Prop)(fin:σ→ρ){step:τ→Option (τ ⊕ ρ)}(hn:l.length<1000000000)
  (h1:∀k (hk:k<l.length) s,Inv k s→step (mk s (k:Int))=some (.inl (mk (f s l[k]) (Lx ((k:Int)+1))))∧Inv (k+1) (f s l[k]))
  (h2:∀s,Inv l.length s→step (mk s (l.length:Int))=some (.inr (fin s))) {s:σ} (h0:Inv 0 s):loop step (mk s 0)=some (fin (l.foldl f s))∧Inv l.length (l.foldl f s):=by
 have h:=ay (Q:=λx=>x=fin (l.foldl f s)∧Inv l.length (l.foldl f s)) mk l.length (λk s'=>s'=(l.take k).foldl f s∧Inv k s') (step:=step) hn ?_ ?_ (s:=s) ⟨by simp,h0⟩
 ·obtain⟨x,e,rfl,hx⟩:=h;exact⟨e,hx⟩
 ·rintro k hk s' ⟨rfl,hs⟩;obtain⟨e,hi⟩:=h1 k hk _ hs;refine bO e (.inl ⟨_,rfl,?_,hi⟩);rw[R3 hk,QgW];rfl
 ·rintro s' ⟨rfl,hs⟩;have e:=h2 _ hs;rw[Sq]at hs e;rw[Sq];exact bO e ⟨_,rfl,rfl,hs⟩
theorem yY{α β : Type}(f:α→Bool)(g:α→β)(l:List α)(z:List β):l.foldl (λs x=>if f x=true then s++[g x]else s) z=z++(l.filter f).map g:=by
 induction l generalizing z with
 | nil=>simp
 | cons x l ih=>
  rw[TG,ih,UE]
  split<;>simp
theorem bU{β : Type}(mk:List β→Int→τ)(l:List α)(p:α→Bool)(g:α→β){step:τ→Option (τ ⊕ List β)}(hn:l.length<1000000000)
  (h1:∀k (hk:k<l.length) s,s.length≤k→step (mk s (k:Int))=some (.inl (mk (if p l[k]=true then s++[g l[k]]else s) (Lx ((k:Int)+1)))))
  (h2:∀s,step (mk s (l.length:Int))=some (.inr s)):loop step (mk [] 0)=some ((l.filter p).map g):=by
 have h:=(cW mk l (λs x=>if p x=true then s++[g x]else s) (λk s=>s.length≤k) (λs=>s) hn (step:=step) ?_ (λs _=>h2 s) (s:=[]) (MN 0)).1
 ·rw[h,yY,PE]
 ·intro k hk s hs;refine⟨h1 k hk s hs,?_⟩;split
  ·simp;omega
  ·omega
theorem eJ(mk:Int→τ)(l:List α)(p:α→Bool)(g:α→ρ)(z:ρ){step:τ→Option (τ ⊕ ρ)}(hn:l.length<1000000000)
  (h1:∀k (hk:k<l.length),p l[k]=false→step (mk (k:Int))=some (.inl (mk (Lx ((k:Int)+1)))))
  (h2:∀k (hk:k<l.length),p l[k]=true→step (mk (k:Int))=some (.inr (g l[k])))
  (h3:step (mk (l.length:Int))=some (.inr z)):loop step (mk 0)=some ((l.find? p).elim z g):=by
 have h:=ay (σ:=Unit) (Q:=λx=>x=(l.find? p).elim z g) (λ_ i=>mk i) l.length (λk _=>(l.take k).find? p=none) (step:=step) hn ?_ ?_ (s:=()) rfl
 ·obtain⟨x,e,rfl⟩:=h;exact e
 ·intro k hk _ hs
  cases hp:p l[k]with
  | false=>refine bO (h1 k hk hp) (.inl ⟨(),rfl,?_⟩);rw[R3 hk,QfY,hs];simp[hp]
  | true=>
   refine bO (h2 k hk hp) (.inr ⟨_,rfl,?_⟩)
   have:l.find? p=some l[k]:=by
    conv=>lhs;rw[← X0 k l]
    rw[QfY,hs,Vx,Ww hk,QgZ hp]
   rw[this];rfl
 ·intro _ hs;rw[Sq]at hs;rw[hs];exact bO h3 ⟨_,rfl,rfl⟩
theorem jT(l:List α)(p:α→Bool){step:Int→Option (Int ⊕ Int)}(hn:l.length<1000000000)
  (h1:∀k (hk:k<l.length),step (k:Int)=some (if p l[k]=true then .inl (Lx ((k:Int)+1))else .inr (k:Int))) (h2:step (l.length:Int)=some (.inr (l.length:Int))) :
  loop step 0=some ((l.takeWhile p).length:Int):=by
 have h:=ay (σ:=Unit) (Q:=λx=>x=((l.takeWhile p).length:Int)) (λ_ i=>i) l.length (λk _=>∀x∈l.take k,p x=true) (step:=step) hn ?_ ?_ (s:=()) (by simp)
 ·obtain⟨x,e,rfl⟩:=h;exact e
 ·intro k hk _ hs;refine bO (h1 k hk) ?_
  cases hp:p l[k]with
  | true=>
   rw[if_pos rfl];refine .inl ⟨(),rfl,?_⟩;rw[R3 hk];intro x hx;rcases OB.1 hx with hx | hx
   ·exact hs x hx
   ·rw[Lb]at hx;subst hx;exact hp
  | false=>
   rw[if_neg (by simp)]
   refine .inr ⟨_,rfl,?_⟩
   have:l.takeWhile p=l.take k:=by
    conv=>lhs;rw[← X0 k l]
    rw[List.takeWhile_append_of_pos hs,Ww hk,QdO (by simp[hp])]
    simp
   rw[this,Oy];omega
 ·intro _ hs;refine bO h2 ⟨_,rfl,?_⟩;rw[Sq]at hs;have:=List.takeWhile_append_of_pos (p:=p) (l₂:=[]) hs;rw[Wq]at this;rw[this];simp
def NR(id:α→Int)(l:List α)(a:α):List α:=
 (l.takeWhile λx=>decide (id x<id a))++a::(match l.dropWhile λx=>decide (id x<id a)with | []=>[] | b::y=>if id b=id a then y else b::y)
theorem aJ{id:α→Int}{l:List α}{a x:α}(hs:l.Pairwise λx y=>id x<id y):x∈NR id l a↔x=a∨(x∈l∧id x≠id a):=by
 unfold NR
 induction l with
 | nil=>simp
 | cons b l ih=>
  have hb:∀{z},z∈l→id b<id z:=λh=>(SV.1 hs).1 _ h;have ih:=ih (QeH hs);by_cases h:id b<id a
  ·rw[QdP (by simpa using h),QdQ (by simpa using h),UF,Nz,ih,Nz]
   constructor
   ·rintro(rfl | h1 | ⟨h1,h2⟩)
    ·exact .inr ⟨.inl rfl,by omega⟩
    ·exact .inl h1
    ·exact .inr ⟨.inr h1,h2⟩
   ·rintro(h1 | ⟨h1 | h1,h2⟩)
    ·exact .inr (.inl h1)
    ·exact .inl h1
    ·exact .inr (.inr ⟨h1,h2⟩)
  ·rw[QdO (by simpa using h),QeB (by simpa using h),PE,Nz]
   dsimp only;by_cases he:id b=id a
   ·rw[if_pos he,Nz];constructor
    ·rintro(h1 | h1)
     ·exact .inl h1
     ·have:=hb h1;exact .inr ⟨.inr h1,by omega⟩
    ·rintro(h1 | ⟨h1 | h1,h2⟩)
     ·exact .inl h1
     ·subst h1;exact absurd he h2
     ·exact .inr h1
   ·rw[if_neg he];constructor
    ·rintro(h1 | h1)
     ·exact .inl h1
     ·refine .inr ⟨h1,?_⟩;rcases Nz.1 h1 with h1 | h1
      ·subst h1;exact he
      ·have:=hb h1;omega
    ·rintro(h1 | ⟨h1,h2⟩)
     ·exact .inl h1
     ·exact .inr h1
theorem lS{id:α→Int}{l:List α}{a:α}(hs:l.Pairwise λx y=>id x<id y):(NR id l a).Pairwise λx y=>id x<id y:=by
 induction l with
 | nil=>simp[NR]
 | cons b l ih=>
  have hb:∀{z},z∈l→id b<id z:=λh=>(SV.1 hs).1 _ h;have ih:=ih (QeH hs);by_cases h:id b<id a
  ·have e:NR id (b::l) a=b::NR id l a:=by
    unfold NR
    rw[QdP (by simpa using h),QdQ (by simpa using h),UF]
   rw[e];refine SV.2 ⟨?_,ih⟩;intro x hx;rcases(aJ (QeH hs)).1 hx with rfl | ⟨h1,_⟩
   ·exact h
   ·exact hb h1
  ·unfold NR
   rw[QdO (by simpa using h),QeB (by simpa using h),PE]
   dsimp only;by_cases he:id b=id a
   ·rw[if_pos he]
    exact SV.2 ⟨λx hx=>by have:=hb hx;omega,QeH hs⟩
   ·rw[if_neg he];refine SV.2 ⟨λx hx=>?_,hs⟩;rcases Nz.1 hx with h1 | h1
    ·subst h1;omega
    ·have:=hb h1;omega
theorem mq{id:α→Int}{l:List α}{a:α}:(NR id l a).length≤l.length+1∧((∃b∈l,id b=id a)→(l.Pairwise λx y=>id x<id y)→(NR id l a).length=l.length):=by
 induction l with
 | nil=>simp[NR]
 | cons b l ih=>
  by_cases h:id b<id a
  ·have e:NR id (b::l) a=b::NR id l a:=by
    unfold NR
    rw[QdP (by simpa using h),QdQ (by simpa using h),UF]
   rw[e,PN,PN]
   refine⟨by omega,?_⟩
   rintro⟨c,hc,he⟩ hs;rcases Nz.1 hc with h1 | h1
   ·subst h1;omega
   ·rw[ih.2 ⟨c,h1,he⟩ (QeH hs)]
  ·have e:NR id (b::l) a=a::(if id b=id a then l else b::l):=by
    unfold NR
    rw[QdO (by simpa using h),QeB (by simpa using h),PE]
   rw[e];by_cases he:id b=id a
   ·rw[if_pos he];simp
   ·rw[if_neg he]
    refine⟨by simp,?_⟩
    rintro⟨c,hc,he2⟩ hs;have hb:∀{z},z∈l→id b<id z:=λh=>(SV.1 hs).1 _ h;rcases Nz.1 hc with h1 | h1
    ·subst h1;exact absurd he2 he
    ·have:=hb h1;omega
theorem oW{id:α→Int}{l:List α}(hs:l.Pairwise λx y=>id x<id y){x:α}(hx:x∈l):l.find? (λy=>id y == id x)=some x:=by
 induction l with
 | nil=>cases hx
 | cons b l ih=>
  have hb:∀{z},z∈l→id b<id z:=λh=>(SV.1 hs).1 _ h;rcases Nz.1 hx with h1 | h1
  ·subst h1;simp
  ·have:=hb h1
   rw[List.find?_cons_of_neg (by simp;omega)]
   exact ih (QeH hs) h1
theorem nr{id:α→Int}{l:List α}{i:Int}{x:α}(h:l.find? (λy=>id y == i)=some x):x∈l∧id x=i:=⟨QdS h,by have:=QfS h;simpa using this⟩
theorem qw{id:α→Int}{l:List α}{i:Int}(h:l.find? (λy=>id y == i)=none):∀x∈l,id x≠i:=by intro x hx e;have:=ZR.1 h x hx;simp[e]at this
theorem KL{x:Int}(h1:-9223372036854775808≤x)(h2:x<9223372036854775808):Lx x=x:=by simp only[Lx,IntKind.wrap,IntKind.bits,IntKind.signed];simp;omega
theorem ai{l:List α}{k:Nat}(h:k<l.length):idx l (k:Int)=some l[k]:=by
 unfold idx
 rw[if_pos (by omega),Tz,K9 h]
theorem aC{n k:Nat}(h:k<n):MZ (k:Int) n=some k:=by
 unfold MZ
 rw[if_pos ⟨by omega,by omega⟩,Tz]
theorem ah{k n:Nat}(h:k<n):decide ((k:Int)<(n:Int))=true:=decide_eq_true (by omega)
theorem ar{n:Nat}:decide ((n:Int)<(n:Int))=false:=decide_eq_false (by omega)
end
end Go.Fx
