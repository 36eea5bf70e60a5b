/-
  The reference manager: what holds of its state after every script. Conditions: none.
-/
import Derived.Test.YtdickabkndfjhaaGreatS4
namespace Go.Fx.D
open Go Go.Fx
set_option linter.unusedVariables false
set_option linter.unusedSimpArgs false
structure M_(s:JF):Prop where
 n:s.Ls.length≤100000
 a:s.Lr.length≤100000
 c:s.Lc.length≤100000
 l:s.LG.length≤100000
 p:s.LU.length≤100000
def noN:LB:=⟨0,0,0,⟨0,0⟩,0,0,false⟩
def Yi:LD:=⟨0,0,[],0,0,⟨0,0⟩,[],0,0,[],[],[],[]⟩
def noC:Lv:=⟨0,0,0,⟨0,0⟩,0,0,false,0⟩
def mR(s:JF)(i:Int):Option LB:=s.Ls.find? λx=>x.Id == i
def MV(s:JF)(i:Int):Option LD:=s.Lr.find? λx=>x.Id == i
def bJ(s:JF)(i:Int):Option Lv:=s.Lc.find? λx=>x.Id == i
theorem lX{s:JF}(h:M_ s)(i:Int):bR s i=some ((mR s i).elim (noN,false) λx=>(x,true)):=by
 unfold bR
 have e:=eJ (λi=>(noN,i)) s.Ls (λq=>q.Id == i) (λq=>.inl (q,true)) (.inr noN) (step:=d5 s i) (by have:=h.n;omega) ?_ ?_ ?_
 ·unfold noN at e;rw[e];unfold mR noN
  cases s.Ls.find? λq=>q.Id == i<;>rfl
 ·intro k hk hp;unfold d5;rw[ah hk,ai hk];simp only[cond_true,K8,hp,cond_false]
 ·intro k hk hp;unfold d5;rw[ah hk,ai hk];simp only[cond_true,K8,hp]
 ·unfold d5;rw[ar];rfl
theorem co{s:JF}(h:M_ s)(i:Int):aG s i=some ((MV s i).elim (Yi,false) λx=>(x,true)):=by
 unfold aG
 have e:=eJ (λi=>(Yi,i)) s.Lr (λq=>q.Id == i) (λq=>.inl (q,true)) (.inr Yi) (step:=dD s i) (by have:=h.a;omega) ?_ ?_ ?_
 ·unfold Yi at e;rw[e];unfold MV Yi
  cases s.Lr.find? λq=>q.Id == i<;>rfl
 ·intro k hk hp;unfold dD;rw[ah hk,ai hk];simp only[cond_true,K8,hp,cond_false]
 ·intro k hk hp;unfold dD;rw[ah hk,ai hk];simp only[cond_true,K8,hp]
 ·unfold dD;rw[ar];rfl
theorem dR{s:JF}(h:M_ s)(i:Int):a7 s i=some ((bJ s i).elim (noC,false) λx=>(x,true)):=by
 unfold a7
 have e:=eJ (λi=>(noC,i)) s.Lc (λq=>q.Id == i) (λq=>.inl (q,true)) (.inr noC) (step:=dF s i) (by have:=h.c;omega) ?_ ?_ ?_
 ·unfold noC at e;rw[e];unfold bJ noC
  cases s.Lc.find? λq=>q.Id == i<;>rfl
 ·intro k hk hp;unfold dF;rw[ah hk,ai hk];simp only[cond_true,K8,hp,cond_false]
 ·intro k hk hp;unfold dF;rw[ah hk,ai hk];simp only[cond_true,K8,hp]
 ·unfold dF;rw[ar];rfl
theorem C2{s:JF}(h:M_ s)(i:Int):fp s i=some ((s.Lc.filter λc=>c.LB == i).map (·.Id)):=by
 unfold fp;have hc:=h.c
 have e:=bU (λ(l:List Int) i=>(l,i)) s.Lc (λc=>c.LB == i) (·.Id) (step:=jv s i) (by omega) ?_ ?_
 ·rw[e];rfl
 ·intro k hk l hl;unfold jv;rw[ah hk,ai hk];simp only[cond_true,K8]
  cases hp:(s.Lc[k].LB == i)<;>simp only[cond_true,cond_false,K8,if_true]
  ·rfl
  ·rw[aj (by simp;omega) (by omega)];rfl
 ·intro l;unfold jv;rw[ar];rfl
def RN(s:JF)(i:Int):JF:=⟨s.Lf,s.Ls,s.Lr,s.Lc.filter λc=>c.Id != i,s.LG,s.LU,s.Now,s.L9,s.Seq⟩
theorem xh{s:JF}(h:M_ s)(i:Int):dz s i=some (RN s i):=by
 unfold dz;have hc:=h.c
 have e:=bU (λ(l:List Lv) i=>(l,i)) s.Lc (λc=>c.Id != i) id (step:=gN s i) (by omega) ?_ ?_
 ·rw[e,Z0];rfl
 ·intro k hk l hl;unfold gN;rw[ah hk,ai hk];simp only[cond_true,K8]
  cases hp:(s.Lc[k].Id != i)<;>simp only[cond_true,cond_false,K8,if_true]
  ·rfl
  ·rw[aj (by simp;omega) (by omega)];rfl
 ·intro l;unfold gN;rw[ar];rfl
theorem rP{l:List Int}(h:l.length≤10000000)(i:Int):cq l i=some (l.filter λx=>x != i,decide ((l.filter λx=>x != i).length<l.length)):=by
 unfold cq
 have e:=bU (λ(l:List Int) i=>(l,i)) l (λc=>c != i) id (step:=dU l i) (by omega) ?_ ?_
 ·rw[e,Z0];simp only[K8]
  congr 2
  rw[decide_eq_decide];omega
 ·intro k hk z hz;unfold dU;rw[ah hk,ai hk];simp only[cond_true,K8]
  cases hp:(l[k] != i)<;>simp only[cond_true,cond_false,K8,if_true]
  ·rfl
  ·rw[aj (by simp;omega) (by omega)];rfl
 ·intro z;unfold dU;rw[ar];rfl
def P9(s:JF)(i:Int):JF:=⟨s.Lf,s.Ls,s.Lr,s.Lc.filter λc=>!(c.LD == i),s.LG.filter λx=>x.LD != i,s.LU,s.Now,s.L9,s.Seq⟩
theorem wU{s:JF}(h:M_ s)(i:Int):dB s i=some (P9 s i,(s.Lc.filter λc=>c.LD == i).map (·.Id)):=by
 unfold dB;have hc:=h.c;have hl:=h.l
 have e1:=(cW (σ:=List Lv×List Int) (λt i=>(t.1,t.2,i)) s.Lc (λt c=>(if !(c.LD == i)then t.1++[c]else t.1,if c.LD == i then t.2++[c.Id]else t.2)) (λk t=>t.1.length≤k∧t.2.length≤k) (λt=>t) (step:=gR s i) (by omega) ?_ ?_ (s:=([],[])) (by simp)).1
 ·have e2:=bU (λ(l:List Nv) i=>(l,i)) s.LG (λx=>x.LD != i) id (step:=gx s i) (by omega) ?_ ?_
  ·rw[e1,e2,Z0]
   have hf:∀(l:List Lv)(a:List Lv)(b:List Int),l.foldl (λ(t:List Lv×List Int) c=>(if !(c.LD == i)then t.1++[c]else t.1,if c.LD == i then t.2++[c.Id]else t.2)) (a,b)=(a++l.filter λc=>!(c.LD == i),b++(l.filter λc=>c.LD == i).map (·.Id)):=by
    intro l
    induction l with
    | nil=>simp
    | cons c l ih=>
     intro a b;rw[TG,ih]
     cases hh:(c.LD == i)<;>simp[hh]
   rw[hf];rfl
  ·intro k hk z hz;unfold gx;rw[ah hk,ai hk];simp only[cond_true,K8]
   cases hp:(s.LG[k].LD != i)<;>simp only[cond_true,cond_false,K8,if_true]
   ·rfl
   ·rw[aj (by simp;omega) (by omega)];rfl
  ·intro z;unfold gx;rw[ar];rfl
 ·rintro k hk ⟨a,b⟩ ⟨h1,h2⟩;dsimp only at h1 h2;unfold gR;dsimp only;rw[ah hk,ai hk];simp only[cond_true,K8]
  cases hp:(s.Lc[k].LD == i)<;>simp only[cond_true,cond_false,K8,if_true,Vn,PZ]
  ·rw[aj (by simp;omega) (by omega)]
   exact⟨rfl,by simp;omega,by simp;omega⟩
  ·rw[aj (by simp;omega) (by omega)]
   exact⟨rfl,by simp;omega,by simp;omega⟩
 ·rintro⟨a,b⟩ _;unfold gR;dsimp only;rw[ar];rfl
theorem nX{α : Type}(p:α→Bool)(l:List α):l.take (l.takeWhile p).length=l.takeWhile p∧l.drop (l.takeWhile p).length=l.dropWhile p:=by
 induction l with
 | nil=>simp
 | cons a l ih=>
  by_cases h:p a=true
  ·rw[QdP h,QdQ h];simp[ih.1,ih.2]
  ·rw[QdO h,QeB h];simp
theorem mg{α : Type}(p:α→Bool)(l:List α):(l.takeWhile p).length≤l.length:=(List.takeWhile_sublist p).length_le
theorem Ck{α : Type}{id:α→Int}{b:Nat}(hb:b≤1000){l:List α}(hn:l.length≤1000000){a:α}{k1:Int}(hk:k1=((l.takeWhile λx=>decide (id x<id a)).length:Int)){β : Type}(f:List α→Option β) :
  ((slc l 0 k1).bind λx=>(app b [] x).bind λl1=>(app b l1 [a]).bind λl2=>
   ((bif decide (k1<(l.length:Int))then(idx l k1).bind λx1=>some (id x1 == id a)else some false).bind λq1=>bif q1 then some (Lx (k1+1))else some k1).bind λk2=>
   (slc l k2 (l.length:Int)).bind λl3=>(app b l2 l3).bind f)=f (NR id l a):=by
 have hle:=mg (λx=>decide (id x<id a)) l;have ht:=nX (λx=>decide (id x<id a)) l;subst hk;unfold NR;generalize hA:l.takeWhile (λx=>decide (id x<id a))=A at hle ht ⊢
 have s1:slc l 0 (A.length:Int)=some A:=by
  unfold slc
  rw[if_pos ⟨by omega,by omega,by omega⟩,Tz,ht.1];rfl
 rw[s1,K8,aj (by simp;omega) hb,K8,PE,aj (by simp;omega) hb,K8]
 have s2:∀k:Nat,k≤l.length→slc l (k:Int) (l.length:Int)=some (l.drop k):=by
  intro k hk;unfold slc
  rw[if_pos ⟨by omega,by omega,by omega⟩,Tz,Tz,Sq]
 by_cases hlt:A.length<l.length
 ·rw[decide_eq_true (by omega),ai hlt]
  simp only[cond_true,K8]
  have hd:l.dropWhile (λx=>decide (id x<id a))=l[A.length]::l.drop (A.length+1):=by rw[← ht.2,Ww hlt]
  rw[hd];dsimp only;by_cases he:id l[A.length]=id a
  ·rw[if_pos he,show(id l[A.length] == id a)=true by simpa using he]
   simp only[cond_true,K8]
   rw[dI (by omega),s2 _ hlt,K8,aj (by simp;omega) hb,K8]
   simp
  ·rw[if_neg he,show(id l[A.length] == id a)=false by simpa using he]
   simp only[cond_false,K8]
   rw[s2 _ (by omega),K8,aj (by simp;omega) hb,K8,Ww hlt]
   simp
 ·have hA2:A.length=l.length:=by omega
  rw[decide_eq_false (by omega)]
  simp only[cond_false,K8]
  have hd:l.dropWhile (λx=>decide (id x<id a)) = []:=by rw[← ht.2,hA2,ZQ]
  rw[hd,s2 _ hle,K8,hA2,ZQ,aj (by simp;omega) hb,K8]
  simp
def Y8(s:JF)(n:LB):JF:=⟨s.Lf,NR (·.Id) s.Ls n,s.Lr,s.Lc,s.LG,s.LU,s.Now,s.L9,s.Seq⟩
def NA(s:JF)(a:LD):JF:=⟨s.Lf,s.Ls,NR (·.Id) s.Lr a,s.Lc,s.LG,s.LU,s.Now,s.L9,s.Seq⟩
theorem J6{α : Type}(l:List α)(k:Int):idx l k=(MZ k l.length).bind λi=>l[i]?:=by
 unfold idx MZ;by_cases h:0≤k
 ·rw[if_pos h];by_cases h2:k.toNat<l.length
  ·rw[if_pos ⟨h,h2⟩,K8]
  ·rw[if_neg (λx=>h2 x.2),Option.bind_none,QeZ (by omega)]
 ·rw[if_neg h,if_neg (λx=>h x.1)];rfl
theorem Ja{α : Type}(l:List α)(a b:Int):slc l a b=(OQ a b l.length).bind λp=>some (sub l p.1 p.2):=by
 unfold slc OQ;by_cases h:0≤a∧a≤b∧b≤l.length
 ·rw[if_pos h,if_pos h,K8];unfold sub;rw[List.drop_take]
 ·rw[if_neg h,if_neg h];rfl
theorem uD{s:JF}(h:M_ s)(n:LB):dn s n=some (Y8 s n):=by
 have hn:=h.n
 have e:=jT s.Ls (λx=>decide (x.Id<n.Id)) (step:=fg s n) (by omega) ?_ ?_
 ·rw[show dn s n=(loop (fg s n) 0).bind λk1=>
   (slc s.Ls 0 k1).bind λl=>
   (app 64 [] l).bind λl1=>
   (app 64 l1 [n]).bind λl2=>
   ((bif decide (k1<(s.Ls.length:Int))then(idx s.Ls k1).bind λx1=>some (x1.Id == n.Id)else some false).bind λq1=>bif q1 then some (Lx (k1+1))else some k1).bind λk2=>
   (slc s.Ls k2 (s.Ls.length:Int)).bind λl3=>
   (app 64 l2 l3).bind λl4=>
   some (⟨⟨s.Lf.Lp,s.Lf.Lg⟩,l4,s.Lr,s.Lc,s.LG,s.LU,s.Now,s.L9,s.Seq⟩:JF)by
    unfold dn
    first
     | rfl
     | simp only[Ja,J6,Option.bind_assoc,K8]]
  rw[e,K8]
  exact Ck (id:=λx:LB=>x.Id) (by omega) (by omega) rfl (λl4=>some (⟨s.Lf,l4,s.Lr,s.Lc,s.LG,s.LU,s.Now,s.L9,s.Seq⟩:JF))
 ·intro k hk;unfold fg;simp only[ah hk,ai hk,aC hk,K9 hk,cond_true,K8]
  cases decide (s.Ls[k].Id<n.Id)<;>rfl
 ·unfold fg;rw[ar];rfl
theorem AG{s:JF}(hn:s.Lr.length≤100000)(a:LD):aO s a=some (NA s a):=by
 unfold aO
 have e:=jT s.Lr (λx=>decide (x.Id<a.Id)) (step:=iL s a) (by omega) ?_ ?_
 ·rw[e,K8]
  exact Ck (id:=λx:LD=>x.Id) (by omega) (by omega) rfl (λl4=>some (⟨s.Lf,s.Ls,l4,s.Lc,s.LG,s.LU,s.Now,s.L9,s.Seq⟩:JF))
 ·intro k hk;unfold iL;rw[ah hk,ai hk];simp only[cond_true,K8]
  cases decide (s.Lr[k].Id<a.Id)<;>rfl
 ·unfold iL;rw[ar];rfl
theorem nI{s:JF}(h:M_ s)(a:LD):aO s a=some (NA s a):=AG h.a a
end Go.Fx.D
