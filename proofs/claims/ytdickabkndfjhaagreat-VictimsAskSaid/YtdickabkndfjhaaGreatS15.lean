/-
  The reference manager: what holds of its state after every script. Conditions: none.
-/
import Derived.Test.YtdickabkndfjhaaGreatS14
namespace Go.Fx.D
open Go Go.Fx
set_option linter.unusedVariables false
set_option linter.unusedSimpArgs false
def oW(x:Ask):Vec:=⟨x.LY.Mem*x.ME,x.LY.LA*x.ME⟩
def o9(l:List Ask)(label:Int):Vec:=Ol ((l.filter λx=>x.Ll == label).map oW)
theorem qa{c:Lg}{x:Ask}(h:NM c x):VB 53687091200 (oW x)∧LC (x.LY.Mem*x.ME)=x.LY.Mem*x.ME∧LC (x.LY.LA*x.ME)=x.LY.LA*x.ME:=by
 have h1:=h.size;have h2:=h.count;unfold RJ at h1;obtain⟨⟨a1,a2⟩,a3,a4⟩:=h1
 have m1:=oJ (n:=x.LY.Mem) (bp:=x.ME) (N:=1073741824) (B:=50) (by omega) a2 (by omega) (by omega)
 have m2:=oJ (n:=x.LY.LA) (bp:=x.ME) (N:=1073741824) (B:=50) (by omega) a4 (by omega) (by omega)
 refine⟨?_,aj (by omega) (by omega),aj (by omega) (by omega)⟩
 unfold VB oW;dsimp only;omega
theorem Gh{c:Lg}{l:List Ask}(hl:l.length≤100)(h:∀x∈l,NM c x)(label:Int):jc l label=some (o9 l label):=by
 unfold jc
 rw[jo (λv i=>(v,i)) l (λx=>x.Ll == label) oW (step:=ff l label) (by omega) (λx hx _=>(qa (h x hx)).1.mono (by omega)) ?_ ?_]
 ·rfl
 ·intro k hk v hv;obtain⟨t1,t2,t3⟩:=qa (h _ (Nq hk));unfold ff;dsimp only;rw[ah hk,cond_true,ai hk];simp only[K_,t2,t3]
  have hp:aD v ⟨l[k].LY.Mem*l[k].ME,l[k].LY.LA*l[k].ME⟩=some (MF v (oW l[k])):=mo (hv.mono (m:=200000000000000000) (by omega)) (t1.mono (by omega)) (by omega)
  rw[hp]
  cases l[k].Ll == label<;>rfl
 ·intro v;unfold ff;rw[am];rfl
theorem q9{c:Lg}{l:List Ask}(hl:l.length≤8)(h:∀x∈l,NM c x)(label:Int):VB 429496729600 (o9 l label):=by
 have:=pD (n:=53687091200) (by omega) (l:=(l.filter λx=>x.Ll == label).map oW) (λv hv=>by obtain⟨x,hx,rfl⟩:=RA.1 hv;exact(qa (h x (Ta.1 hx).1)).1)
 refine this.mono ?_;rw[PI];have:=TP (λx:Ask=>x.Ll == label) l;omega
def fI(s:JG)(Lf:Str)(label:Int):Vec:=Ol ((s.Lv.filter λa=>Mt a&&jN a.Ls Lf).map λa=>o9 a.Mq label)
theorem qB{N:Nat}{s:JG}(h:Inv N s)(Lf:Str)(label:Int):dT s Lf label=some (fI s Lf label):=by
 have hal:=h.al;unfold dT
 rw[jo (λv i=>(v,i)) s.Lv (λa=>Mt a&&jN a.Ls Lf) (λa=>o9 a.Mq label) (step:=eJ s Lf label) (by omega) (λa ha _=>(q9 (h.ak a ha).al (h.ak a ha).ask label).mono (by omega)) ?_ ?_]
 ·rfl
 ·intro k hk v hv;have hak:=h.ak _ (Nq hk);unfold eJ;dsimp only;rw[ah hk,cond_true,ai hk];simp only[K_]
  rw[jy,Az (h.R5 (Nq hk)),Gh (by have:=hak.al;omega) hak.ask]
  simp only[K_]
  have hp:aD v (o9 s.Lv[k].Mq label)=some (MF v (o9 s.Lv[k].Mq label)):=mo (hv.mono (m:=200000000000000000) (by omega)) ((q9 hak.al hak.ask label).mono (by omega)) (by omega)
  rw[hp]
  cases Mt s.Lv[k]<;>cases jN s.Lv[k].Ls Lf<;>rfl
 ·intro v;unfold eJ;rw[am];rfl
theorem DL{N:Nat}{s:JG}(h:Inv N s)(Lf:Str)(label:Int):VB 6871947673600 (fI s Lf label):=by
 have hal:=h.al
 have:=pD (n:=429496729600) (by omega) (l:=(s.Lv.filter λa=>Mt a&&jN a.Ls Lf).map λa=>o9 a.Mq label) (λv hv=>by obtain⟨a,ha,rfl⟩:=RA.1 hv;exact q9 (h.ak a (Ta.1 ha).1).al (h.ak a (Ta.1 ha).1).ask label)
 refine this.mono ?_;rw[PI];have:=TP (λa:LM=>Mt a&&jN a.Ls Lf) s.Lv;omega
def Mv(n:Int):Int:=if n<0∨n>1125899906842624 then 0 else n
theorem jw(n:Int):bM n=some (Mv n):=by
 unfold bM Mv;by_cases h1:n<0
 ·rw[decide_eq_true h1,if_pos (.inl h1)];rfl
 ·rw[decide_eq_false h1];by_cases h2:n>1125899906842624
  ·rw[decide_eq_true h2,if_pos (.inr h2)];rfl
  ·rw[decide_eq_false h2,if_neg (by omega)];rfl
theorem He(total:Int){least want most:List Int}{n:Nat}(h1:least.length=n)(h2:want.length=n)(h3:most.length=n)(hn:n≤100000):Gv (dq total least want most) λl=>l.length=n:=by
 unfold dq
 have e:Nh (Nh (least.length:Int) (want.length:Int)) (most.length:Int)=(n:Int):=by rw[h1,h2,h3];unfold Nh;simp
 dsimp only;rw[e,jw,K_];refine ad (P:=λq=>q.2.length=n) ?_ ?_
 ·refine az (λ(t:Int×List Int) i=>(t.1,t.2,i)) n (λk t=>t.2.length=k) (step:=bW least want most (n:Int)) (by omega) ?_ ?_ (s:=(Mv total,[])) rfl
  ·rintro k hk ⟨a,l⟩ hl;dsimp only at hl;unfold bW;dsimp only
   rw[ah hk,cond_true,ai (by omega),K_,jw,K_,ai (by omega),K_,jw,K_,ai (by omega),K_,jw,K_,
    ao (by simp;omega) (by omega),K_]
   exact aa (.inl ⟨(_,_),rfl,by simp[hl]⟩)
  ·rintro t ht;unfold bW;dsimp only;rw[am,cond_false];exact aa ⟨_,rfl,ht⟩
 ·rintro⟨a,l⟩ hl;dsimp only at hl ⊢;refine ad (P:=λl=>l.length=n) ?_ λl hl=>aa hl
  refine az (λ(t:Int×List Int) i=>(t.1,t.2,i)) n (λk t=>t.2.length=n) (step:=bX want most (n:Int)) (by omega) ?_ ?_ (s:=(a,l)) hl
  ·rintro k hk ⟨a,l⟩ hl;dsimp only at hl;unfold bX;dsimp only
   have hkl:k<l.length:=by omega
   rw[ah hk,cond_true,ai (by omega),K_,jw,K_,ai (by omega),K_,jw,K_]
   simp only[aC hkl,K_,La hkl]
   exact aa (.inl ⟨(_,_),rfl,by simp[hl]⟩)
  ·rintro t ht;unfold bX;dsimp only;rw[am,cond_false];exact aa ⟨_,rfl,ht⟩
theorem D8{N:Nat}{s:JG}(h:Inv N s)(label:Int):∀(d n:Nat)(Lf:Str)(mem:Int),3≤Lf.count 46+d→d≤n→d≤3→(Na s.Lg Lf).isSome=true→
  Gv (aV (n+1) s Lf label mem) λl=>l.length≤16 ^ d∧∀x∈l,Nu s.Lg x.LB=true:=by
 have hsc:=h.sc;have hq:=h.cf.qs;intro d
 induction d with
 | zero=>
  intro n Lf mem hc _ _ hf
  have hk:Ma s.Lg Lf = []:=by
   cases hk:Ma s.Lg Lf with
   | nil=>rfl
   | cons x l=>
    have hx:x∈Ma s.Lg Lf:=by rw[hk];simp
    obtain⟨hp,q,hq,rfl,ha⟩:=eW hx;have h1:=jq hp ha;have h2:=(jP h.cf hq).deep;omega
  show Gv (br _ s Lf label mem) _;unfold br;rw[nf h.cf.small,K_,hk]
  refine aa ⟨by simp,λx hx=>?_⟩
  have:x=⟨Lf,mem⟩:=by simpa using hx
  subst this;show Nu s.Lg Lf=true;unfold Nu;rw[hf,hk];rfl
 | succ d ih=>
  intro n Lf mem hc hn hd3 hf
  obtain⟨n,rfl⟩:∃m,n=m+1:=⟨n - 1,by omega⟩
  have hkl:=oz s.Lg Lf;show Gv (br (aV (n+1)) s Lf label mem) _;unfold br;rw[nf h.cf.small,K_];generalize hK:Ma s.Lg Lf=kids at hkl
  have Y5:∀x∈kids,OA x∧x.count 46=Lf.count 46+1∧(Na s.Lg x).isSome=true:=by
   intro x hx;rw[← hK]at hx;obtain⟨hp,q,hq',rfl,ha⟩:=eW hx;obtain⟨q',e,_⟩:=pz hq'
   exact⟨jP h.cf hq',jq hp ha,by rw[e];rfl⟩
  refine ae (λhz=>?_) λhz=>?_
  ·have hk0:kids = []:=by
    have:(kids.length:Int)=0:=by simpa using hz
    exact TQ (by omega)
   refine aa ⟨by simp;exact Nat.one_le_pow _ _ (by omega),λx hx=>?_⟩
   have:x=⟨Lf,mem⟩:=by simpa using hx
   subst this;show Nu s.Lg Lf=true;unfold Nu;rw[hf,hK,hk0];rfl
  ·refine ad (P:=λq=>q.1.length=kids.length∧q.2.1.length=kids.length∧q.2.2.length=kids.length) ?_ ?_
   ·refine az (λ(t:List Int×List Int×List Int) i=>(t.1,t.2.1,t.2.2,i)) kids.length (λk t=>t.1.length=k∧t.2.1.length=k∧t.2.2.length=k) (step:=bG s label kids) (by omega) ?_ ?_ (s:=([],[],[])) ⟨rfl,rfl,rfl⟩
    ·rintro k hk ⟨a,b,c⟩ ⟨q1,q2,q3⟩;dsimp only at q1 q2 q3
     have hlen:kids[k].length≤1000000:=by have:=(Y5 _ (Nq hk)).1.len;omega
     unfold bG;dsimp only;rw[ah hk,cond_true];simp only[aC hk,K_,La hk]
     rw[mL hsc hlen,K_,ao (by simp;omega) (by omega),K_,xW hsc hlen,K_,ao (by simp;omega) (by omega),K_,gL h.sb,K_,
      qB h,K_,ao (by simp;omega) (by omega),K_]
     exact aa (.inl ⟨(_,_,_),rfl,by simp[q1],by simp[q2],by simp[q3]⟩)
    ·rintro t ht;unfold bG;dsimp only;rw[am,cond_false];exact aa ⟨_,rfl,ht⟩
   ·rintro⟨a,b,c⟩ ⟨q1,q2,q3⟩
    refine ad (He mem q1 q2 q3 (by omega)) λx8 hx8=>?_
    have VH:16 ^ d≤16 ^ 3:=QdV (by omega) (by omega)
    refine ad (P:=λl=>l.length≤kids.length*16 ^ d∧∀x∈l,Nu s.Lg x.LB=true) ?_ ?_
    ·refine az (λ(t:List Mr) i=>(t,i)) kids.length (λk l=>l.length≤k*16 ^ d∧∀x∈l,Nu s.Lg x.LB=true) (step:=bf s label (aV (n+1)) kids x8) (by omega) ?_ ?_ (s:=[]) ⟨by simp,by simp⟩
     ·rintro k hk l ⟨hl,hll⟩;obtain⟨k1,k2,k3⟩:=Y5 _ (Nq hk)
      have hmul:k*16 ^ d≤16*16 ^ 3:=QeO (by omega) VH
      unfold bf;dsimp only
      rw[ah hk,cond_true,aC hk,K_,La hk,K_,aC (by omega),K_,La (by omega),K_]
      refine ad (ih n kids[k] _ (by omega) (by omega) (by omega) k3) ?_
      rintro m ⟨hm,hml⟩
      rw[ao (by omega) (by omega),K_]
      refine aa (.inl ⟨l++m,rfl,by rw[Lc,TM];omega,λx hx=>?_⟩)
      rcases N_.1 hx with hx | hx
      ·exact hll x hx
      ·exact hml x hx
     ·rintro l hl;unfold bf;dsimp only;rw[am,cond_false];exact aa ⟨l,rfl,hl⟩
    ·rintro l ⟨hl,hll⟩;refine aa ⟨?_,hll⟩
     have h2:kids.length*16 ^ d≤16*16 ^ d:=Ro _ (by omega)
     rw[Nat.pow_succ,Nat.mul_comm (16 ^ d)];omega
theorem rE{N:Nat}{s:JG}(h:Inv N s)(label:Int):Gv (cj s label) λl=>l.length≤4096∧∀x∈l,Nu s.Lg x.LB=true:=by
 unfold cj kg;rw[nX h.sb,K_]
 refine ad (D8 h label 3 63 root _ (by decide) (by omega) (by omega) (wK h.cf)) ?_
 rintro l ⟨hl,hll⟩;have hl:l.length≤4096:=hl
 refine ad (P:=λm=>m.length=l.length∧∀x∈m,x∈l) ?_ λm hm=>aa ⟨by rw[hm.1];exact hl,λx hx=>hll x (hm.2 x hx)⟩
 refine az (λ(t:List Mr) i=>(t,i)) l.length (λk m=>m.length=k∧∀x∈m,x∈l) (step:=bh l) (by omega) ?_ ?_ (s:=[]) ⟨rfl,by simp⟩
 ·rintro k hk m ⟨hm,hml⟩;unfold bh;dsimp only;rw[ah hk,cond_true];refine ad (P:=λj=>∃i:Nat,j=(i:Int)∧i≤m.length) ?_ ?_
  ·have ew:=kL m (λy=>Op.bytesLess y.LB l[k].LB) (step:=bH l (m,(k:Int))) (by omega) ?_ ?_
   ·rw[ew];exact aa ⟨_,rfl,mZ _ _⟩
   ·intro j hj;unfold bH;dsimp only;rw[ah hj,cond_true,aC hj,K_,La hj,K_,aC hk,K_,La hk,K_,K_]
    cases Op.bytesLess m[j].LB l[k].LB<;>rfl
   ·unfold bH;dsimp only;rw[am];rfl
  ·rintro j ⟨i,rfl,hi⟩
   refine ad (qE (l:=m) (by omega) (by omega) (by omega)) ?_
   rintro p ⟨p1,p2⟩
   rw[ao (by simp;omega) (by omega),K_,aC hk,K_,La hk,K_,ao (by simp;omega) (by omega),K_]
   refine ad (qE (l:=m) (by omega) (by omega) (by omega)) ?_
   rintro p' ⟨q1,q2⟩
   rw[ao (by simp;omega) (by omega),K_]
   refine aa (.inl ⟨_,rfl,by simp;omega,λx hx=>?_⟩)
   simp only[PX,N_,Ld]at hx;rcases hx with(hx | rfl) | hx
   ·exact hml x (p2 x hx)
   ·exact Nq hk
   ·exact hml x (q2 x hx)
 ·rintro m hm;unfold bh;rw[am];exact aa ⟨m,rfl,hm⟩
theorem G2{N:Nat}{s:JG}(h:Inv N s)(label:Int)(Lf:Str):Gv (eP s label Lf) λ_=>True:=by
 unfold eP;refine ad (rE h label) ?_;rintro l ⟨hl,_⟩;refine ad (P:=λ_=>True) ?_ ?_
 ·refine az (λ(_:Unit) i=>i) l.length (λ_ _=>True) (step:=bL Lf l) (by omega) ?_ ?_ (s:=()) trivial
  ·intro k hk _ _;unfold bL;rw[ah hk,cond_true];simp only[aC hk,K_,La hk];exact ae (λ_=>aa (.inr ⟨_,rfl,trivial⟩)) λ_=>aa (.inl ⟨(),rfl,trivial⟩)
  ·intro _ _;unfold bL;rw[am];exact aa ⟨_,rfl,trivial⟩
 ·rintro(q | q) _
  ·exact aa trivial
  ·exact aa trivial
end Go.Fx.D
