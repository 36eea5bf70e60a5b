/-
  The reference manager: what holds of its state after every script. Conditions: none.
-/
import Derived.Test.YtdickabkndfjhaaGreatS6
namespace Go.Fx.D
open Go Go.Fx
set_option linter.unusedVariables false
set_option linter.unusedSimpArgs false
def gW(a:Vec)(bp:Int):Vec:=⟨a.Mem*bp / 10000,a.Lu*bp / 10000⟩
instance (n:Int) (v:Vec):Decidable (VB n v):=by unfold VB;exact inferInstance
theorem rJ(a:Vec):bZ a=some (decide (VB 1125899906842624 a)):=by
 unfold bZ kP
 have e:decide (VB 1125899906842624 a)=((decide (a.Mem≥0)&&decide (a.Mem≤1125899906842624))&&(decide (a.Lu≥0)&&decide (a.Lu≤1125899906842624))):=by rw[YA,decide_eq_true_iff];simp only[Np,decide_eq_true_eq,VB,ge_iff_le]
 rw[e]
 cases decide (a.Mem≥0)<;>cases decide (a.Mem≤1125899906842624)<;>cases decide (a.Lu≥0)<;>cases decide (a.Lu≤1125899906842624)<;>rfl
theorem oq{n bp N B:Int}(h0:0≤n)(h1:n≤N)(b0:0≤bp)(b1:bp≤B):0≤n*bp∧n*bp≤N*B:=
 ⟨Int.mul_nonneg h0 b0,QgR (Int.mul_le_mul_of_nonneg_right h1 b0) (Int.mul_le_mul_of_nonneg_left b1 (by omega))⟩
theorem yK{n bp:Int}(h0:0≤n)(h1:n≤1099511627776)(b0:0≤bp)(b1:bp≤1000000):fR n bp=some (n*bp / 10000)∧0≤n*bp / 10000∧n*bp / 10000≤109951162777600:=by
 unfold fR;have e1:Int.tdiv n 10000=n / 10000:=QeC h0;have e2:Int.tmod n 10000=n % 10000:=Int.tmod_eq_emod_of_nonneg h0;rw[e1,e2]
 have q1:0≤n / 10000∧n / 10000≤109951162:=by omega
 have q2:0≤n % 10000∧n % 10000≤9999:=by omega
 have m1:=oq q1.1 q1.2 b0 b1;have m2:=oq q2.1 q2.2 b0 b1;have m3:=oq h0 h1 b0 b1
 have key:n*bp / 10000=n / 10000*bp+n % 10000*bp / 10000:=by
  have:n*bp=n % 10000*bp+10000*(n / 10000*bp):=by
   conv=>lhs;rw[← Int.emod_add_mul_ediv n 10000]
   rw[Int.add_mul,Int.mul_assoc]
  rw[this,Int.add_mul_ediv_left _ _ (by decide),Int.add_comm]
 rw[am (x:=n / 10000) (by omega) (by omega)]
 generalize n / 10000*bp=A at m1 key ⊢;generalize n % 10000*bp=B at m2 key ⊢
 rw[am (x:=A) (by omega) (by omega),am (x:=B) (by omega) (by omega),QeC m2.1,am (x:=B / 10000) (by omega) (by omega),am (by omega) (by omega),key]
 exact⟨rfl,by omega,by omega⟩
theorem xG{a:Vec}{bp:Int}(ha:VB 1099511627776 a)(b0:0≤bp)(b1:bp≤1000000):fV a bp=some (gW a bp,0)∧VB 109951162777600 (gW a bp):=by
 have ha':=ha;unfold VB at ha';obtain⟨e1,p1,p2⟩:=yK ha'.1.1 ha'.1.2 b0 b1;obtain⟨e2,p3,p4⟩:=yK ha'.2.1 ha'.2.2 b0 b1;have hv:VB 109951162777600 (gW a bp):=⟨⟨p1,p2⟩,p3,p4⟩;refine⟨?_,hv⟩;unfold fV
 rw[rJ,decide_eq_true (ha.mono (by omega))]
 simp only[K8,PZ,cond_false]
 rw[decide_eq_false (by omega),decide_eq_false (by omega)]
 simp only[K8,cond_false];rw[e1,e2];simp only[K8];have:(⟨a.Mem*bp / 10000,a.Lu*bp / 10000⟩:Vec)=gW a bp:=rfl
 rw[this,rJ,decide_eq_true (hv.mono (by omega))]
 rfl
theorem tA{n:Int}{a:Vec}{bp:Int}(ha:VB n a)(b0:0≤bp)(b1:bp≤10000):VB n (gW a bp):=by unfold VB at *;have m1:=oq ha.1.1 (Uj a.Mem) b0 b1;have m2:=oq ha.2.1 (Uj a.Lu) b0 b1;unfold gW;dsimp only;generalize a.Mem*bp=A at m1 ⊢;generalize a.Lu*bp=B at m2 ⊢;omega
def Sm(c:Lf)(k:Int)(p:Str):Cap:=((Nb c p).bind λq=>q.MR[k.toNat]?).getD ⟨0,0⟩
def S9(c:Lf)(k:Int)(least:Bool)(p:Str):Int:=bif least then(Sm c k p).Oe else(Sm c k p).Most
def Bh(s:JF)(label:Int)(least:Bool)(l:List Str):Vec:=l.foldl (λv p=>gW v (S9 s.Lf label least p)) (b7 s label)
def NC(s:JF)(Ld:Str)(label:Int)(least:Bool):Vec:=
 if(Nb s.Lf Ld).isSome=true∧0≤label∧label<s.Lf.Lp.length then Bh s label least (Ob Ld).dropLast.reverse else⟨0,0⟩
theorem pe{c:Lf}(h:Nj c):∀(n:Nat)(p:Str),p.length≤n→(Nb c p).isSome=true→∀x∈Ob p,(Nb c x).isSome=true
 | n,p,hn,hf,x,hx=>by
  by_cases hp:p = []
  ·subst hp;simp[gH]at hx
  ·rw[dm hp]at hx;rcases Nz.1 hx with rfl | hx
   ·exact hf
   ·obtain⟨q,hq⟩:=QdC.1 hf;obtain⟨hm,rfl⟩:=iX hq;obtain⟨i,hi,rfl⟩:=Ul hm;by_cases hi0:0<i
    ·match n with
     | 0=>simp at hn;exact absurd hn hp
     | n+1=>exact pe h n _ (by have:=cN hp;omega) ((h.q i hi).up hi0) x hx
    ·have:i=0:=by omega
     subst this;obtain⟨q0,h1,h2,_⟩:=h.root;rw[K9 hi]at h1;cases h1;rw[h2]at hx;simp[aF,gH]at hx
theorem tV{c:Lf}(h:Nj c){p:Str}(hf:(Nb c p).isSome=true){k:Int}(h0:0≤k)(h1:k<c.Lp.length) :
  ∃q,Nb c p=some q∧k.toNat<q.MR.length∧q.MR[k.toNat]? = some (Sm c k p)∧SN (Sm c k p):=by
 obtain⟨q,hq⟩:=QdC.1 hf;obtain⟨hm,_⟩:=iX hq;obtain⟨i,hi,rfl⟩:=Ul hm;have hc:=(h.q i hi).caps
 have hlt:k.toNat<c.Lg[i].MR.length:=by omega
 refine⟨_,hq,hlt,?_,?_⟩
 ·unfold Sm;rw[hq,K8,K9 hlt];rfl
 ·unfold Sm;rw[hq,K8,K9 hlt];exact(h.q i hi).cap _ (NQ hlt)
theorem yS{c:Lf}(h:Nj c){p:Str}(hf:(Nb c p).isSome=true){k:Int}(h0:0≤k)(h1:k<c.Lp.length)(least:Bool):0≤S9 c k least p∧S9 c k least p≤10000:=by
 obtain⟨q,_,_,_,hc⟩:=tV h hf h0 h1;unfold SN at hc;unfold S9
 cases least<;>simp only[cond_true,cond_false]<;>omega
theorem Hx{s:JF}(h:SB s)(hc:Nj s.Lf){label:Int}(h0:0≤label)(h1:label<s.Lf.Lp.length)(least:Bool){l:List Str}(hl:∀p∈l,(Nb s.Lf p).isSome=true) :
  VB (s.Ls.length*1073741824) (Bh s label least l):=by
 have key:∀(l:List Str),(∀p∈l,(Nb s.Lf p).isSome=true)→∀v,VB (s.Ls.length*1073741824) v→VB (s.Ls.length*1073741824) (l.foldl (λv p=>gW v (S9 s.Lf label least p)) v):=by
  intro l
  induction l with
  | nil=>intro _ v hv;exact hv
  | cons p l ih=>
   intro hl v hv
   have hb:=yS hc (hl p (by simp)) h0 h1 least
   exact ih (λp hp=>hl p (by simp[hp])) _ (tA hv hb.1 hb.2)
 exact key l hl _ (nq h label)
theorem CT{s:JF}(h:SB s)(hc:Nj s.Lf)(hn:s.Ls.length≤100){Ld:Str}(hp:Ld.length≤1000000)(label:Int)(least:Bool) :
  gZ s Ld label least=some (NC s Ld label least):=by
 unfold gZ NC;rw[oN h.cf]
 cases hf:Nb s.Lf Ld with
 | none=>simp
 | some q=>
  simp only[Option.elim_some,K8,PZ,cond_false,Option.isSome_some,true_and];by_cases h0:label<0
  ·rw[decide_eq_true h0,if_neg (by omega)];rfl
  ·rw[decide_eq_false h0];simp only[cond_false,K8];by_cases h1:label<s.Lf.Lp.length
   ·rw[decide_eq_false (by omega),if_pos ⟨by omega,h1⟩,o0 h,Dx hp]
    simp only[cond_false,K8]
    have hfound:=pe hc Ld.length Ld (MN _) (by rw[hf];rfl)
    have hul:=uh Ld
    have hpos:0<(Ob Ld).length:=by
     have:Ld≠[]:=by intro e;obtain⟨hm,hpe⟩:=iX hf;obtain⟨i,hi,rfl⟩:=Ul hm;have:=(hc.q i hi).Ld.root;rw[hpe,e]at this;simp at this
     rw[dm this];simp
    rw[am (by omega) (by omega)]
    have key:∀m,m≤(Ob Ld).length→∀v,VB (s.Ls.length*1073741824) v→loop (iP s label least (Ob Ld)) (v,(m:Int) - 1)=some (((Ob Ld).take m).reverse.foldl (λv p=>gW v (S9 s.Lf label least p)) v):=by
     intro m
     induction m with
     | zero=>intro _ v _;rw[aX];rfl
     | succ m ih=>
      intro hm v hv
      have hs:iP s label least (Ob Ld) (v,((m+1:Nat):Int) - 1)=some (.inl (gW v (S9 s.Lf label least (Ob Ld)[m]),(m:Int) - 1)):=by
       unfold iP;dsimp only
       rw[show((m+1:Nat):Int) - 1=(m:Int)by omega,decide_eq_true (by omega),aC (show m<(Ob Ld).length by omega)]
       simp only[cond_true,K8,K9 (show m<(Ob Ld).length by omega)]
       have hfm:=hfound _ (NQ (show m<(Ob Ld).length by omega))
       obtain⟨q',e1,e2,e3,e4⟩:=tV hc hfm (by omega:0≤label) h1
       have hbp:=yS hc hfm (by omega:0≤label) h1 least
       rw[oN h.cf,e1];simp only[Option.elim_some,K8]
       have hin:MZ label q'.MR.length=some label.toNat:=by
        unfold MZ
        rw[if_pos ⟨by omega,e2⟩]
       rw[hin];simp only[K8,e3]
       have hsc:=(xG (a:=v) (bp:=S9 s.Lf label least (Ob Ld)[m]) (hv.mono (by omega)) hbp.1 (by omega)).1
       have:(bif least then some (Sm s.Lf label (Ob Ld)[m]).Oe else some (Sm s.Lf label (Ob Ld)[m]).Most)=some (S9 s.Lf label least (Ob Ld)[m]):=by
        unfold S9;cases least<;>rfl
       rw[this,K8,hsc,K8,am (by omega) (by omega)]
      rw[aX,hs];dsimp only
      have hfm:=hfound _ (NQ (show m<(Ob Ld).length by omega))
      have hbp:=yS hc hfm (by omega:0≤label) h1 least
      rw[ih (by omega) _ (tA hv hbp.1 hbp.2),R3 (by omega),QeQ]
      rfl
    have:=key ((Ob Ld).length - 1) (by omega) _ (nq h label)
    rw[show(((Ob Ld).length - 1:Nat):Int) - 1=((Ob Ld).length:Int) - 2 by omega]at this
    rw[this,List.dropLast_eq_take];rfl
   ·rw[decide_eq_true (by omega),if_neg (by omega)]
    rfl
end Go.Fx.D
