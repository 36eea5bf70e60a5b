/-
  The reference manager: what holds of its state after every script. Conditions: none.
-/
import Derived.Test.YtdickabkndfjhaaGreatS6
namespace Go.Fx.D
open Go Go.Fx
set_option linter.unusedVariables false
set_option linter.unusedSimpArgs false
def iF(a:Vec)(bp:Int):Vec:=⟨a.Mem*bp / 10000,a.LA*bp / 10000⟩
instance (n:Int) (v:Vec):Decidable (VB n v):=by unfold VB;exact inferInstance
theorem rY(a:Vec):cm a=some (decide (VB 1125899906842624 a)):=by
 unfold cm kY
 have e:decide (VB 1125899906842624 a)=((decide (a.Mem≥0)&&decide (a.Mem≤1125899906842624))&&(decide (a.LA≥0)&&decide (a.LA≤1125899906842624))):=by rw[Yb,decide_eq_true_iff];simp only[Ng,decide_eq_true_eq,VB,ge_iff_le]
 rw[e]
 cases decide (a.Mem≥0)<;>cases decide (a.Mem≤1125899906842624)<;>cases decide (a.LA≥0)<;>cases decide (a.LA≤1125899906842624)<;>rfl
theorem oJ{n bp N B:Int}(h0:0≤n)(h1:n≤N)(b0:0≤bp)(b1:bp≤B):0≤n*bp∧n*bp≤N*B:=
 ⟨Int.mul_nonneg h0 b0,Int.le_trans (Int.mul_le_mul_of_nonneg_right h1 b0) (Int.mul_le_mul_of_nonneg_left b1 (by omega))⟩
theorem yX{n bp:Int}(h0:0≤n)(h1:n≤1099511627776)(b0:0≤bp)(b1:bp≤1000000):gx n bp=some (n*bp / 10000)∧0≤n*bp / 10000∧n*bp / 10000≤109951162777600:=by
 unfold gx;have e1:Int.tdiv n 10000=n / 10000:=QeA h0;have e2:Int.tmod n 10000=n % 10000:=Int.tmod_eq_emod_of_nonneg h0;rw[e1,e2]
 have q1:0≤n / 10000∧n / 10000≤109951162:=by omega
 have q2:0≤n % 10000∧n % 10000≤9999:=by omega
 have m1:=oJ q1.1 q1.2 b0 b1;have m2:=oJ q2.1 q2.2 b0 b1;have m3:=oJ h0 h1 b0 b1
 have key:n*bp / 10000=n / 10000*bp+n % 10000*bp / 10000:=by
  have:n*bp=n % 10000*bp+10000*(n / 10000*bp):=by
   conv=>lhs;rw[← Int.emod_add_mul_ediv n 10000]
   rw[Int.add_mul,Int.mul_assoc]
  rw[this,Int.add_mul_ediv_left _ _ (by decide),Int.add_comm]
 rw[aj (x:=n / 10000) (by omega) (by omega)]
 generalize n / 10000*bp=A at m1 key ⊢;generalize n % 10000*bp=B at m2 key ⊢
 rw[aj (x:=A) (by omega) (by omega),aj (x:=B) (by omega) (by omega),QeA m2.1,aj (x:=B / 10000) (by omega) (by omega),aj (by omega) (by omega),key]
 exact⟨rfl,by omega,by omega⟩
theorem yj{a:Vec}{bp:Int}(ha:VB 1099511627776 a)(b0:0≤bp)(b1:bp≤1000000):gA a bp=some (iF a bp,0)∧VB 109951162777600 (iF a bp):=by
 have ha':=ha;unfold VB at ha';obtain⟨e1,p1,p2⟩:=yX ha'.1.1 ha'.1.2 b0 b1;obtain⟨e2,p3,p4⟩:=yX ha'.2.1 ha'.2.2 b0 b1;have hv:VB 109951162777600 (iF a bp):=⟨⟨p1,p2⟩,p3,p4⟩;refine⟨?_,hv⟩;unfold gA
 rw[rY,decide_eq_true (ha.mono (by omega))]
 simp only[K_,PG,cond_false]
 rw[decide_eq_false (by omega),decide_eq_false (by omega)]
 simp only[K_,cond_false];rw[e1,e2];simp only[K_];have:(⟨a.Mem*bp / 10000,a.LA*bp / 10000⟩:Vec)=iF a bp:=rfl
 rw[this,rY,decide_eq_true (hv.mono (by omega))]
 rfl
theorem uy{n:Int}{a:Vec}{bp:Int}(ha:VB n a)(b0:0≤bp)(b1:bp≤10000):VB n (iF a bp):=by unfold VB at *;have m1:=oJ ha.1.1 (YG a.Mem) b0 b1;have m2:=oJ ha.2.1 (YG a.LA) b0 b1;unfold iF;dsimp only;generalize a.Mem*bp=A at m1 ⊢;generalize a.LA*bp=B at m2 ⊢;omega
def Sm(c:Lg)(k:Int)(p:Str):Cap:=((Na c p).bind λq=>q.MS[k.toNat]?).getD ⟨0,0⟩
def Td(c:Lg)(k:Int)(least:Bool)(p:Str):Int:=bif least then(Sm c k p).Oe else(Sm c k p).Most
def EW(s:JG)(label:Int)(least:Bool)(l:List Str):Vec:=l.foldl (λv p=>iF v (Td s.Lg label least p)) (gk s label)
def NA(s:JG)(Lf:Str)(label:Int)(least:Bool):Vec:=
 if(Na s.Lg Lf).isSome=true∧0≤label∧label<s.Lg.Lm.length then EW s label least (Ov Lf).dropLast.reverse else⟨0,0⟩
theorem pO{c:Lg}(h:Nj c):∀(n:Nat)(p:Str),p.length≤n→(Na c p).isSome=true→∀x∈Ov p,(Na c x).isSome=true
 | n,p,hn,hf,x,hx=>by
  by_cases hp:p = []
  ·subst hp;simp[m9]at hx
  ·rw[lX hp]at hx;rcases NH.1 hx with rfl | hx
   ·exact hf
   ·obtain⟨q,hq⟩:=QdI.1 hf;obtain⟨hm,rfl⟩:=jt hq;obtain⟨i,hi,rfl⟩:=UL hm;by_cases hi0:0<i
    ·match n with
     | 0=>simp at hn;exact absurd hn hp
     | n+1=>exact pO h n _ (by have:=fY hp;omega) ((h.q i hi).up hi0) x hx
    ·have:i=0:=by omega
     subst this;obtain⟨q0,h1,h2,_⟩:=h.root;rw[La hi]at h1;cases h1;rw[h2]at hx;simp[aL,m9]at hx
theorem tR{c:Lg}(h:Nj c){p:Str}(hf:(Na c p).isSome=true){k:Int}(h0:0≤k)(h1:k<c.Lm.length) :
  ∃q,Na c p=some q∧k.toNat<q.MS.length∧q.MS[k.toNat]? = some (Sm c k p)∧SS (Sm c k p):=by
 obtain⟨q,hq⟩:=QdI.1 hf;obtain⟨hm,_⟩:=jt hq;obtain⟨i,hi,rfl⟩:=UL hm;have hc:=(h.q i hi).caps
 have hlt:k.toNat<c.Lh[i].MS.length:=by omega
 refine⟨_,hq,hlt,?_,?_⟩
 ·unfold Sm;rw[hq,K_,La hlt];rfl
 ·unfold Sm;rw[hq,K_,La hlt];exact(h.q i hi).cap _ (Nq hlt)
theorem zn{c:Lg}(h:Nj c){p:Str}(hf:(Na c p).isSome=true){k:Int}(h0:0≤k)(h1:k<c.Lm.length)(least:Bool):0≤Td c k least p∧Td c k least p≤10000:=by
 obtain⟨q,_,_,_,hc⟩:=tR h hf h0 h1;unfold SS at hc;unfold Td
 cases least<;>simp only[cond_true,cond_false]<;>omega
theorem Hz{s:JG}(h:SB s)(hc:Nj s.Lg){label:Int}(h0:0≤label)(h1:label<s.Lg.Lm.length)(least:Bool){l:List Str}(hl:∀p∈l,(Na s.Lg p).isSome=true) :
  VB (s.Lu.length*1073741824) (EW s label least l):=by
 have key:∀(l:List Str),(∀p∈l,(Na s.Lg p).isSome=true)→∀v,VB (s.Lu.length*1073741824) v→VB (s.Lu.length*1073741824) (l.foldl (λv p=>iF v (Td s.Lg label least p)) v):=by
  intro l
  induction l with
  | nil=>intro _ v hv;exact hv
  | cons p l ih=>
   intro hl v hv
   have hb:=zn hc (hl p (by simp)) h0 h1 least
   exact ih (λp hp=>hl p (by simp[hp])) _ (uy hv hb.1 hb.2)
 exact key l hl _ (mR h label)
theorem Ca{s:JG}(h:SB s)(hc:Nj s.Lg)(hn:s.Lu.length≤100){Lf:Str}(hp:Lf.length≤1000000)(label:Int)(least:Bool) :
  iE s Lf label least=some (NA s Lf label least):=by
 unfold iE NA;rw[pA h.cf]
 cases hf:Na s.Lg Lf with
 | none=>simp
 | some q=>
  simp only[Option.elim_some,K_,PG,cond_false,Option.isSome_some,true_and];by_cases h0:label<0
  ·rw[decide_eq_true h0,if_neg (by omega)];rfl
  ·rw[decide_eq_false h0];simp only[cond_false,K_];by_cases h1:label<s.Lg.Lm.length
   ·rw[decide_eq_false (by omega),if_pos ⟨by omega,h1⟩,nX h,DD hp]
    simp only[cond_false,K_]
    have hfound:=pO hc Lf.length Lf (MO _) (by rw[hf];rfl)
    have hul:=uT Lf
    have hpos:0<(Ov Lf).length:=by
     have:Lf≠[]:=by intro e;obtain⟨hm,hpe⟩:=jt hf;obtain⟨i,hi,rfl⟩:=UL hm;have:=(hc.q i hi).Lf.root;rw[hpe,e]at this;simp at this
     rw[lX this];simp
    rw[aj (by omega) (by omega)]
    have key:∀m,m≤(Ov Lf).length→∀v,VB (s.Lu.length*1073741824) v→loop (jl s label least (Ov Lf)) (v,(m:Int) - 1)=some (((Ov Lf).take m).reverse.foldl (λv p=>iF v (Td s.Lg label least p)) v):=by
     intro m
     induction m with
     | zero=>intro _ v _;rw[aP];rfl
     | succ m ih=>
      intro hm v hv
      have hs:jl s label least (Ov Lf) (v,((m+1:Nat):Int) - 1)=some (.inl (iF v (Td s.Lg label least (Ov Lf)[m]),(m:Int) - 1)):=by
       unfold jl;dsimp only
       rw[show((m+1:Nat):Int) - 1=(m:Int)by omega,decide_eq_true (by omega),aC (show m<(Ov Lf).length by omega)]
       simp only[cond_true,K_,La (show m<(Ov Lf).length by omega)]
       have hfm:=hfound _ (Nq (show m<(Ov Lf).length by omega))
       obtain⟨q',e1,e2,e3,e4⟩:=tR hc hfm (by omega:0≤label) h1
       have hbp:=zn hc hfm (by omega:0≤label) h1 least
       rw[pA h.cf,e1];simp only[Option.elim_some,K_]
       have hin:MZ label q'.MS.length=some label.toNat:=by
        unfold MZ
        rw[if_pos ⟨by omega,e2⟩]
       rw[hin];simp only[K_,e3]
       have hsc:=(yj (a:=v) (bp:=Td s.Lg label least (Ov Lf)[m]) (hv.mono (by omega)) hbp.1 (by omega)).1
       have:(bif least then some (Sm s.Lg label (Ov Lf)[m]).Oe else some (Sm s.Lg label (Ov Lf)[m]).Most)=some (Td s.Lg label least (Ov Lf)[m]):=by
        unfold Td;cases least<;>rfl
       rw[this,K_,hsc,K_,aj (by omega) (by omega)]
      rw[aP,hs];dsimp only
      have hfm:=hfound _ (Nq (show m<(Ov Lf).length by omega))
      have hbp:=zn hc hfm (by omega:0≤label) h1 least
      rw[ih (by omega) _ (uy hv hbp.1 hbp.2),Ra (by omega),QeM]
      rfl
    have:=key ((Ov Lf).length - 1) (by omega) _ (mR h label)
    rw[show(((Ov Lf).length - 1:Nat):Int) - 1=((Ov Lf).length:Int) - 2 by omega]at this
    rw[this,List.dropLast_eq_take];rfl
   ·rw[decide_eq_true (by omega),if_neg (by omega)]
    rfl
end Go.Fx.D
