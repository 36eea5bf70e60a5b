/-
  The reference manager: what holds of its state after every script. Conditions: none.
-/
import Derived.Test.YtdickabkndfjhaaGreatS4
namespace Go.Fx.D
open Go Go.Fx
set_option linter.unusedVariables false
set_option linter.unusedSimpArgs false
structure M4(s:JG):Prop where
 n:s.Lu.length≤100000
 a:s.Lv.length≤100000
 c:s.Kl.length≤100000
 l:s.LH.length≤100000
 p:s.LJ.length≤100000
def noN:LG:=⟨0,0,0,⟨0,0⟩,0,0,false⟩
def Yy:LM:=⟨0,0,[],0,0,⟨0,0⟩,[],0,0,[],[],[],[]⟩
def Wu:Lx:=⟨0,0,0,⟨0,0⟩,0,0,false,0⟩
def l_(s:JG)(i:Int):Option LG:=s.Lu.find? λx=>x.Id == i
def M9(s:JG)(i:Int):Option LM:=s.Lv.find? λx=>x.Id == i
def cN(s:JG)(i:Int):Option Lx:=s.Kl.find? λx=>x.Id == i
theorem js{s:JG}(h:M4 s)(i:Int):bo s i=some ((l_ s i).elim (noN,false) λx=>(x,true)):=by
 unfold bo
 have e:=eT (λi=>(noN,i)) s.Lu (λq=>q.Id == i) (λq=>.inl (q,true)) (.inr noN) (step:=eE s i) (by have:=h.n;omega) ?_ ?_ ?_
 ·unfold noN at e;rw[e];unfold l_ noN
  cases s.Lu.find? λq=>q.Id == i<;>rfl
 ·intro k hk hp;unfold eE;rw[ah hk,ai hk];simp only[cond_true,K_,hp,cond_false]
 ·intro k hk hp;unfold eE;rw[ah hk,ai hk];simp only[cond_true,K_,hp]
 ·unfold eE;rw[am];rfl
theorem dJ{s:JG}(h:M4 s)(i:Int):aK s i=some ((M9 s i).elim (Yy,false) λx=>(x,true)):=by
 unfold aK
 have e:=eT (λi=>(Yy,i)) s.Lv (λq=>q.Id == i) (λq=>.inl (q,true)) (.inr Yy) (step:=dY s i) (by have:=h.a;omega) ?_ ?_ ?_
 ·unfold Yy at e;rw[e];unfold M9 Yy
  cases s.Lv.find? λq=>q.Id == i<;>rfl
 ·intro k hk hp;unfold dY;rw[ah hk,ai hk];simp only[cond_true,K_,hp,cond_false]
 ·intro k hk hp;unfold dY;rw[ah hk,ai hk];simp only[cond_true,K_,hp]
 ·unfold dY;rw[am];rfl
theorem fP{s:JG}(h:M4 s)(i:Int):bv s i=some ((cN s i).elim (Wu,false) λx=>(x,true)):=by
 unfold bv
 have e:=eT (λi=>(Wu,i)) s.Kl (λq=>q.Id == i) (λq=>.inl (q,true)) (.inr Wu) (step:=dX s i) (by have:=h.c;omega) ?_ ?_ ?_
 ·unfold Wu at e;rw[e];unfold cN Wu
  cases s.Kl.find? λq=>q.Id == i<;>rfl
 ·intro k hk hp;unfold dX;rw[ah hk,ai hk];simp only[cond_true,K_,hp,cond_false]
 ·intro k hk hp;unfold dX;rw[ah hk,ai hk];simp only[cond_true,K_,hp]
 ·unfold dX;rw[am];rfl
theorem DE{s:JG}(h:M4 s)(i:Int):fJ s i=some ((s.Kl.filter λc=>c.LG == i).map (·.Id)):=by
 unfold fJ;have hc:=h.c
 have e:=bQ (λ(l:List Int) i=>(l,i)) s.Kl (λc=>c.LG == i) (·.Id) (step:=j9 s i) (by omega) ?_ ?_
 ·rw[e];rfl
 ·intro k hk l hl;unfold j9;rw[ah hk,ai hk];simp only[cond_true,K_]
  cases hp:(s.Kl[k].LG == i)<;>simp only[cond_true,cond_false,K_,if_true]
  ·rfl
  ·rw[ao (by simp;omega) (by omega)];rfl
 ·intro l;unfold j9;rw[am];rfl
def Xm(s:JG)(i:Int):JG:=⟨s.Lg,s.Lu,s.Lv,s.Kl.filter λc=>c.Id != i,s.LH,s.LJ,s.Now,s.L8,s.Seq⟩
theorem x_{s:JG}(h:M4 s)(i:Int):dR s i=some (Xm s i):=by
 unfold dR;have hc:=h.c
 have e:=bQ (λ(l:List Lx) i=>(l,i)) s.Kl (λc=>c.Id != i) id (step:=gI s i) (by omega) ?_ ?_
 ·rw[e,QfA];rfl
 ·intro k hk l hl;unfold gI;rw[ah hk,ai hk];simp only[cond_true,K_]
  cases hp:(s.Kl[k].Id != i)<;>simp only[cond_true,cond_false,K_,if_true]
  ·rfl
  ·rw[ao (by simp;omega) (by omega)];rfl
 ·intro l;unfold gI;rw[am];rfl
theorem sK{l:List Int}(h:l.length≤10000000)(i:Int):cH l i=some (l.filter λx=>x != i,decide ((l.filter λx=>x != i).length<l.length)):=by
 unfold cH
 have e:=bQ (λ(l:List Int) i=>(l,i)) l (λc=>c != i) id (step:=eM l i) (by omega) ?_ ?_
 ·rw[e,QfA];simp only[K_]
  congr 2
  rw[decide_eq_decide];omega
 ·intro k hk z hz;unfold eM;rw[ah hk,ai hk];simp only[cond_true,K_]
  cases hp:(l[k] != i)<;>simp only[cond_true,cond_false,K_,if_true]
  ·rfl
  ·rw[ao (by simp;omega) (by omega)];rfl
 ·intro z;unfold eM;rw[am];rfl
def UR(s:JG)(i:Int):JG:=⟨s.Lg,s.Lu,s.Lv,s.Kl.filter λc=>!(c.LM == i),s.LH.filter λx=>x.LM != i,s.LJ,s.Now,s.L8,s.Seq⟩
theorem xx{s:JG}(h:M4 s)(i:Int):dQ s i=some (UR s i,(s.Kl.filter λc=>c.LM == i).map (·.Id)):=by
 unfold dQ;have hc:=h.c;have hl:=h.l
 have e1:=(bF (σ:=List Lx×List Int) (λt i=>(t.1,t.2,i)) s.Kl (λt c=>(if !(c.LM == i)then t.1++[c]else t.1,if c.LM == i then t.2++[c.Id]else t.2)) (λk t=>t.1.length≤k∧t.2.length≤k) (λt=>t) (step:=gJ s i) (by omega) ?_ ?_ (s:=([],[])) (by simp)).1
 ·have e2:=bQ (λ(l:List Nt) i=>(l,i)) s.LH (λx=>x.LM != i) id (step:=g_ s i) (by omega) ?_ ?_
  ·rw[e1,e2,QfA]
   have hf:∀(l:List Lx)(a:List Lx)(b:List Int),l.foldl (λ(t:List Lx×List Int) c=>(if !(c.LM == i)then t.1++[c]else t.1,if c.LM == i then t.2++[c.Id]else t.2)) (a,b)=(a++l.filter λc=>!(c.LM == i),b++(l.filter λc=>c.LM == i).map (·.Id)):=by
    intro l
    induction l with
    | nil=>simp
    | cons c l ih=>
     intro a b;rw[TN,ih]
     cases hh:(c.LM == i)<;>simp[hh]
   rw[hf];rfl
  ·intro k hk z hz;unfold g_;rw[ah hk,ai hk];simp only[cond_true,K_]
   cases hp:(s.LH[k].LM != i)<;>simp only[cond_true,cond_false,K_,if_true]
   ·rfl
   ·rw[ao (by simp;omega) (by omega)];rfl
  ·intro z;unfold g_;rw[am];rfl
 ·rintro k hk ⟨a,b⟩ ⟨h1,h2⟩;dsimp only at h1 h2;unfold gJ;dsimp only;rw[ah hk,ai hk];simp only[cond_true,K_]
  cases hp:(s.Kl[k].LM == i)<;>simp only[cond_true,cond_false,K_,if_true,Wy,PG]
  ·rw[ao (by simp;omega) (by omega)]
   exact⟨rfl,by simp;omega,by simp;omega⟩
  ·rw[ao (by simp;omega) (by omega)]
   exact⟨rfl,by simp;omega,by simp;omega⟩
 ·rintro⟨a,b⟩ _;unfold gJ;dsimp only;rw[am];rfl
theorem oO{α : Type}(p:α→Bool)(l:List α):l.take (l.takeWhile p).length=l.takeWhile p∧l.drop (l.takeWhile p).length=l.dropWhile p:=by
 induction l with
 | nil=>simp
 | cons a l ih=>
  by_cases h:p a=true
  ·rw[QdP h,QdQ h];simp[ih.1,ih.2]
  ·rw[QdO h,Qe_ h];simp
theorem mZ{α : Type}(p:α→Bool)(l:List α):(l.takeWhile p).length≤l.length:=(List.takeWhile_sublist p).length_le
theorem CA{α : Type}{id:α→Int}{b:Nat}(hb:b≤1000){l:List α}(hn:l.length≤1000000){a:α}{k1:Int}(hk:k1=((l.takeWhile λx=>decide (id x<id a)).length:Int)){β : Type}(f:List α→Option β) :
  ((slc l 0 k1).bind λx=>(app b [] x).bind λl1=>(app b l1 [a]).bind λl2=>
   ((bif decide (k1<(l.length:Int))then(idx l k1).bind λx1=>some (id x1 == id a)else some false).bind λq1=>bif q1 then some (LC (k1+1))else some k1).bind λk2=>
   (slc l k2 (l.length:Int)).bind λl3=>(app b l2 l3).bind f)=f (N9 id l a):=by
 have hle:=mZ (λx=>decide (id x<id a)) l;have ht:=oO (λx=>decide (id x<id a)) l;subst hk;unfold N9;generalize hA:l.takeWhile (λx=>decide (id x<id a))=A at hle ht ⊢
 have s1:slc l 0 (A.length:Int)=some A:=by
  unfold slc
  rw[if_pos ⟨by omega,by omega,by omega⟩,TG,ht.1];rfl
 rw[s1,K_,ao (by simp;omega) hb,K_,PX,ao (by simp;omega) hb,K_]
 have s2:∀k:Nat,k≤l.length→slc l (k:Int) (l.length:Int)=some (l.drop k):=by
  intro k hk;unfold slc
  rw[if_pos ⟨by omega,by omega,by omega⟩,TG,TG,RB]
 by_cases hlt:A.length<l.length
 ·rw[decide_eq_true (by omega),ai hlt]
  simp only[cond_true,K_]
  have hd:l.dropWhile (λx=>decide (id x<id a))=l[A.length]::l.drop (A.length+1):=by rw[← ht.2,Wq hlt]
  rw[hd];dsimp only;by_cases he:id l[A.length]=id a
  ·rw[if_pos he,show(id l[A.length] == id a)=true by simpa using he]
   simp only[cond_true,K_]
   rw[du (by omega),s2 _ hlt,K_,ao (by simp;omega) hb,K_]
   simp
  ·rw[if_neg he,show(id l[A.length] == id a)=false by simpa using he]
   simp only[cond_false,K_]
   rw[s2 _ (by omega),K_,ao (by simp;omega) hb,K_,Wq hlt]
   simp
 ·have hA2:A.length=l.length:=by omega
  rw[decide_eq_false (by omega)]
  simp only[cond_false,K_]
  have hd:l.dropWhile (λx=>decide (id x<id a)) = []:=by rw[← ht.2,hA2,QdL]
  rw[hd,s2 _ hle,K_,hA2,QdL,ao (by simp;omega) hb,K_]
  simp
def Zo(s:JG)(n:LG):JG:=⟨s.Lg,N9 (·.Id) s.Lu n,s.Lv,s.Kl,s.LH,s.LJ,s.Now,s.L8,s.Seq⟩
def Pe(s:JG)(a:LM):JG:=⟨s.Lg,s.Lu,N9 (·.Id) s.Lv a,s.Kl,s.LH,s.LJ,s.Now,s.L8,s.Seq⟩
theorem Jz{α : Type}(l:List α)(k:Int):idx l k=(MZ k l.length).bind λi=>l[i]?:=by
 unfold idx MZ;by_cases h:0≤k
 ·rw[if_pos h];by_cases h2:k.toNat<l.length
  ·rw[if_pos ⟨h,h2⟩,K_]
  ·rw[if_neg (λx=>h2 x.2),Option.bind_none,QeU (by omega)]
 ·rw[if_neg h,if_neg (λx=>h x.1)];rfl
theorem JC{α : Type}(l:List α)(a b:Int):slc l a b=(OV a b l.length).bind λp=>some (sub l p.1 p.2):=by
 unfold slc OV;by_cases h:0≤a∧a≤b∧b≤l.length
 ·rw[if_pos h,if_pos h,K_];unfold sub;rw[List.drop_take]
 ·rw[if_neg h,if_neg h];rfl
theorem uU{s:JG}(h:M4 s)(n:LG):dL s n=some (Zo s n):=by
 have hn:=h.n
 have e:=kL s.Lu (λx=>decide (x.Id<n.Id)) (step:=fu s n) (by omega) ?_ ?_
 ·rw[show dL s n=(loop (fu s n) 0).bind λk1=>
   (slc s.Lu 0 k1).bind λl=>
   (app 64 [] l).bind λl1=>
   (app 64 l1 [n]).bind λl2=>
   ((bif decide (k1<(s.Lu.length:Int))then(idx s.Lu k1).bind λx1=>some (x1.Id == n.Id)else some false).bind λq1=>bif q1 then some (LC (k1+1))else some k1).bind λk2=>
   (slc s.Lu k2 (s.Lu.length:Int)).bind λl3=>
   (app 64 l2 l3).bind λl4=>
   some (⟨⟨s.Lg.Lm,s.Lg.Lh⟩,l4,s.Lv,s.Kl,s.LH,s.LJ,s.Now,s.L8,s.Seq⟩:JG)by
    unfold dL
    first
     | rfl
     | simp only[JC,Jz,Option.bind_assoc,K_]]
  rw[e,K_]
  exact CA (id:=λx:LG=>x.Id) (by omega) (by omega) rfl (λl4=>some (⟨s.Lg,l4,s.Lv,s.Kl,s.LH,s.LJ,s.Now,s.L8,s.Seq⟩:JG))
 ·intro k hk;unfold fu;simp only[ah hk,ai hk,aC hk,La hk,cond_true,K_]
  cases decide (s.Lu[k].Id<n.Id)<;>rfl
 ·unfold fu;rw[am];rfl
theorem Ak{s:JG}(hn:s.Lv.length≤100000)(a:LM):aO s a=some (Pe s a):=by
 unfold aO
 have e:=kL s.Lv (λx=>decide (x.Id<a.Id)) (step:=i_ s a) (by omega) ?_ ?_
 ·rw[e,K_]
  exact CA (id:=λx:LM=>x.Id) (by omega) (by omega) rfl (λl4=>some (⟨s.Lg,s.Lu,l4,s.Kl,s.LH,s.LJ,s.Now,s.L8,s.Seq⟩:JG))
 ·intro k hk;unfold i_;rw[ah hk,ai hk];simp only[cond_true,K_]
  cases decide (s.Lv[k].Id<a.Id)<;>rfl
 ·unfold i_;rw[am];rfl
theorem oi{s:JG}(h:M4 s)(a:LM):aO s a=some (Pe s a):=Ak h.a a
end Go.Fx.D
