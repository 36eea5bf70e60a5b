/-
  The law over plain data: true at all inputs. Conditions: none.
-/
import Derived.Test.YtdickabkndfjhaaGreatS18
import Derived.Lib.Mul64
import Derived.WalkKit
namespace Go.Fx.D
open Go Go.Fx
set_option linter.unusedVariables false
set_option linter.unusedSimpArgs false
theorem sO(a:Vec):iq a=some (decide (VB 1125899906842624 a)):=by
 unfold iq
 have e:decide (VB 1125899906842624 a)=((decide (a.Mem≥0)&&decide (a.Mem≤1125899906842624))&&(decide (a.LA≥0)&&decide (a.LA≤1125899906842624))):=by rw[Yb,decide_eq_true_iff];simp only[Ng,decide_eq_true_eq,VB,ge_iff_le]
 rw[e]
 cases decide (a.Mem≥0)<;>cases decide (a.Mem≤1125899906842624)<;>cases decide (a.LA≥0)<;>cases decide (a.LA≤1125899906842624)<;>rfl
theorem zX{a:Vec}(h:VB 1125899906842624 a):pU a=some (a,0):=by unfold pU;rw[sO,decide_eq_true h];rfl
theorem zT{a b:Vec}{n m:Int}(ha:VB n a)(hb:VB m b)(h:n+m≤1125899906842624):pg a b=some (MF a b,0):=by
 have hn:0≤n∧0≤m:=by unfold VB at ha hb;omega
 have hs:=v5 ha hb;unfold pg
 rw[sO,sO,decide_eq_true (ha.mono (by omega)),decide_eq_true (hb.mono (by omega))]
 simp only[K_,PG,cond_false]
 have e:(⟨LC (a.Mem+b.Mem),LC (a.LA+b.LA)⟩:Vec)=MF a b:=by
  unfold VB MF at hs;dsimp only at hs
  rw[aj (by omega) (by omega),aj (by omega) (by omega)]
  rfl
 rw[e,zX (hs.mono h)];rfl
theorem Dr(a b:Vec):MF a b=MF b a:=by unfold MF;congr 1<;>omega
theorem BU(a b c:Vec):MF (MF a b) c=MF a (MF b c):=by unfold MF;dsimp only;congr 1<;>omega
theorem xj(a:Vec):MF ⟨0,0⟩ a=a:=by cases a;simp[MF]
theorem BZ(l:List Vec)(z:Vec):l.foldl MF z=MF z (Ol l):=by
 induction l generalizing z with
 | nil=>rw[Bd,Dr,xj];rfl
 | cons x l ih=>rw[TN,ih,oA,BU]
theorem KS{l:List Vec}(hl:l.length≤1000)(h:∀v∈l,VB 1099511627776 v):ro l=some (Ol l):=by
 unfold ro
 rw[(bF (λv i=>(v,i)) l MF (λk v=>VB (1099511627776*k) v) (λv=>v) (step:=oT l) (by omega) ?_ ?_ (s:=(⟨0,0⟩:Vec)) (by simp[VB])).1]
 ·rw[BZ,xj];rfl
 ·intro k hk s hs;have hb:=h _ (Nq hk)
  refine⟨?_,(v5 hs hb).mono (by omega)⟩
  unfold oT;rw[ah hk,ai hk];simp only[cond_true,K_]
  rw[zT hs hb (by omega)]
  rfl
 ·intro s _;unfold oT;rw[am];rfl
theorem afk(x:Int):IntKind.u64.wrap x=x % 18446744073709551616:=by rw[IntKind.wrap_u64]
theorem VJ{x:Int}(h:0≤x)(h2:x<18446744073709551616):IntKind.u64.wrap x=x:=by rw[afk];omega
theorem aiM(x:Int):Pj .u64 x 32=x / 4294967296:=by
 show x.fdiv (2 ^ min (32:Int).toNat IntKind.u64.bits)=_
 rw[show(2 ^ min (32:Int).toNat IntKind.u64.bits:Int)=4294967296 from by decide,Int.fdiv_eq_ediv_of_nonneg _ (by decide)]
theorem apW(a b:Nat)(ha:a<18446744073709551616)(hb:b<18446744073709551616):RH .u64 (a:Int) (b:Int)=((a &&& b:Nat):Int):=by
 show IntKind.u64.wrap ((BitVec.ofInt 64 (a:Int) &&& BitVec.ofInt 64 (b:Int)).toNat)=_
 have e:((BitVec.ofInt 64 (a:Int) &&& BitVec.ofInt 64 (b:Int)).toNat)=a &&& b:=by
  rw[BitVec.toNat_and,BitVec.toNat_ofInt,BitVec.toNat_ofInt]
  congr 1<;>omega
 rw[e];have:a &&& b≤a:=Nat.and_le_left
 exact VJ (by omega) (by omega)
theorem ZW(a:Nat)(ha:a<18446744073709551616):RH .u64 (a:Int) 4294967295=((a % 4294967296:Nat):Int):=by
 have:=apW a 4294967295 ha (by omega)
 rw[show((4294967295:Nat):Int)=4294967295 from rfl]at this
 rw[this,show(4294967295:Nat)=2 ^ 32 - 1 from rfl,Nat.and_two_pow_sub_one_eq_mod]
theorem GH(x y:Nat)(hx:x<18446744073709551616)(hy:y<18446744073709551616) :
  qo (x:Int) (y:Int)=some (((x*y / 18446744073709551616:Nat):Int),((x*y % 18446744073709551616:Nat):Int)):=by
 obtain⟨h1,h2,h3,h4⟩:=Lib.mul64_hi x y hx hy
 have a1:=Lib.half_mul_le (a:=x / 4294967296) (b:=y / 4294967296) (by omega) (by omega)
 have a2:=Lib.half_mul_le (a:=x / 4294967296) (b:=y % 4294967296) (by omega) (by omega)
 have a3:=Lib.half_mul_le (a:=x % 4294967296) (b:=y / 4294967296) (by omega) (by omega)
 have a4:=Lib.half_mul_le (a:=x % 4294967296) (b:=y % 4294967296) (by omega) (by omega)
 have w:∀a:Nat,a<18446744073709551616→IntKind.u64.wrap (a:Int)=(a:Int):=λa ha=>VJ (by omega) (by omega)
 have d:∀a:Nat,(a:Int) / 4294967296=((a / 4294967296:Nat):Int):=λa=>by omega
 have m:∀a b:Nat,(a:Int)*(b:Int)=((a*b:Nat):Int):=λa b=>(Int.natCast_mul a b).symm;have p:∀a b:Nat,(a:Int)+(b:Int)=((a+b:Nat):Int):=λa b=>(Int.natCast_add a b).symm;unfold qo;simp only[aiM,d];rw[ZW y hy,ZW x hx];simp only[m,p]
 rw[w _ (QgS a1 (by omega)),w _ (QgS a2 (by omega)),w _ (QgS a3 (by omega)),w _ (QgS a4 (by omega))]
 simp only[d,p];rw[w _ h2];simp only[d,p];rw[ZW _ h2];simp only[p];rw[w _ h3];simp only[d]
 have hq:x*y / 18446744073709551616<18446744073709551616:=by have:x*y<18446744073709551616*18446744073709551616:=Nat.mul_lt_mul_of_lt_of_lt hx hy;omega
 have hs:x / 4294967296*(y / 4294967296)+(x / 4294967296*(y % 4294967296)+x % 4294967296*(y % 4294967296) / 4294967296) / 4294967296<18446744073709551616:=by omega
 rw[w _ hs];simp only[p];rw[h4,w _ hq,afk];simp
theorem CW{n bp:Int}(h0:0≤n)(h1:n≤1099511627776)(b0:0≤bp)(b1:bp≤1000000):qc n bp=some (n*bp / 10000)∧0≤n*bp / 10000∧n*bp / 10000≤109951162777600:=by
 obtain⟨a,rfl⟩:=Int.eq_ofNat_of_zero_le h0;obtain⟨b,rfl⟩:=Int.eq_ofNat_of_zero_le b0;have m3:=oJ h0 h1 b0 b1;have hm:(a:Int)*(b:Int)=((a*b:Nat):Int):=(Int.natCast_mul a b).symm;rw[hm]at m3 ⊢
 refine⟨?_,by omega,by omega⟩
 unfold qc
 rw[VJ (by omega) (by omega),VJ (by omega) (by omega),GH _ _ (by omega) (by omega)]
 generalize a*b=c at m3 ⊢
 have e1:c / 18446744073709551616=0:=by omega
 have e2:c % 18446744073709551616=c:=by omega
 rw[e1,e2];simp only[K_];unfold sv;have n0:nz 10000=some ():=rfl;have c1:((10000:Int) == 0)=false:=rfl;have c2:decide ((10000:Int)≤((0:Nat):Int))=false:=rfl;have c3:(((0:Nat):Int) == 0)=true:=rfl;simp only[c1,c2,c3,n0,cond_true,cond_false,K_]
 rw[QeA (by omega),VJ (by omega) (by omega),aj (by omega) (by omega)]
theorem E6{a:Vec}{bp:Int}(ha:VB 1099511627776 a)(b0:0≤bp)(b1:bp≤1000000):qv a bp=some (iF a bp,0):=by
 have ha':=ha;unfold VB at ha';obtain⟨e1,p1,p2⟩:=CW ha'.1.1 ha'.1.2 b0 b1;obtain⟨e2,p3,p4⟩:=CW ha'.2.1 ha'.2.2 b0 b1;have hv:VB 109951162777600 (iF a bp):=⟨⟨p1,p2⟩,p3,p4⟩;unfold qv
 rw[sO,decide_eq_true (ha.mono (by omega))]
 simp only[K_,PG,cond_false]
 rw[decide_eq_false (by omega),decide_eq_false (by omega)]
 simp only[K_,cond_false];rw[e1,e2];simp only[K_];have:(⟨a.Mem*bp / 10000,a.LA*bp / 10000⟩:Vec)=iF a bp:=rfl
 rw[this,zX (hv.mono (by omega))]
 rfl
theorem tA{s:JG}(h:SC s)(label:Int):mq s label=some (gk s label):=by
 unfold mq;have hn:=h.n
 rw[bQ (λ(l:List Vec) i=>(l,i)) s.Lu (λn=>n.Up&&n.Ll == label) (·.Cap) (step:=nj s label) (by omega) ?_ ?_]
 ·rw[K_,KS]
  ·rfl
  ·rw[PI];have:=TP (λn:LG=>n.Up&&n.Ll == label) s.Lu;omega
  ·intro v hv;obtain⟨n,hn,rfl⟩:=RA.1 hv
   exact(h.b.nc n (Ta.1 hn).1).mono (by omega)
 ·intro k hk l hl;unfold nj;rw[ah hk,ai hk];simp only[cond_true,K_]
  rw[ao (by simp;omega) (by omega)]
  cases s.Lu[k].Up<;>cases s.Lu[k].Ll == label<;>rfl
 ·intro l;unfold nj;rw[am];rfl
theorem sS{α τ ρ : Type}(mk:Int→τ)(l:List α)(p:α→Bool)(g:Int→ρ)(z:ρ){step:τ→Option (τ ⊕ ρ)}(hn:l.length<1000000000)
  (h1:∀k (hk:k<l.length),p l[k]=false→step (mk (k:Int))=some (.inl (mk (LC ((k:Int)+1)))))
  (h2:∀k (hk:k<l.length),p l[k]=true→step (mk (k:Int))=some (.inr (g (k:Int))))
  (h3:step (mk (l.length:Int))=some (.inr z)):(∃k,∃(hk:k<l.length),l.find? p=some l[k]∧loop step (mk 0)=some (g (k:Int)))∨(l.find? p=none∧loop step (mk 0)=some z):=by
 have h:=az (σ:=Unit) (Q:=λx=>(∃k,∃(hk:k<l.length),l.find? p=some l[k]∧x=g (k:Int))∨(l.find? p=none∧x=z)) (λ_ i=>mk i) l.length (λk _=>(l.take k).find? p=none) (step:=step) hn ?_ ?_ (s:=()) rfl
 ·obtain⟨x,e,h⟩:=h;rcases h with⟨k,hk,h1,rfl⟩ | ⟨h1,rfl⟩
  ·exact .inl ⟨k,hk,h1,e⟩
  ·exact .inr ⟨h1,e⟩
 ·intro k hk _ hs
  cases hp:p l[k]with
  | false=>refine bY (h1 k hk hp) (.inl ⟨(),rfl,?_⟩);rw[Ra hk,QfW,hs];simp[hp]
  | true=>
   refine bY (h2 k hk hp) (.inr ⟨_,rfl,.inl ⟨k,hk,?_,rfl⟩⟩)
   conv=>lhs;rw[← Xe k l]
   rw[QfW,hs,VD,Wq hk,QgV hp]
 ·intro _ hs;rw[RB]at hs;exact bY h3 ⟨_,rfl,.inr ⟨hs,rfl⟩⟩
theorem zp{c:Lg}(h:Pb c)(p:Str):pS c p=some ((Na c p).elim (noQ,false) λq=>(q,true)):=by
 unfold pS sH;have hq:=h.q
 have e:=sS (λi=>i) c.Lh (λq=>q.LB == p) (λi=>(.inl i:Int ⊕ Unit)) (.inr ()) (step:=mj c.Lh λa'=>nM a'.1 p) (by omega) ?_ ?_ ?_
 ·unfold Na;rcases e with⟨k,hk,e1,e2⟩ | ⟨e1,e2⟩
  ·rw[e1,e2];simp only[K_,Option.elim_some]
   rw[decide_eq_false (by omega),ai hk]
   simp only[cond_false,K_];unfold qK
   rw[ao (by have:=h.c _ (Nq hk);simp;omega) (by omega)]
   rfl
  ·rw[e1,e2];rfl
 ·intro k hk hf;unfold mj nM;rw[ah hk,ai hk];simp only[cond_true,K_,hf,cond_false]
 ·intro k hk hf;unfold mj nM;rw[ah hk,ai hk];simp only[cond_true,K_,hf]
 ·unfold mj;rw[am];rfl
theorem yk(p:Str)(hp:p.length<1000000000):∀m,m≤p.length→loop (eL p 46) ((m:Int) - 1)=some (if((p.take m).reverse.dropWhile (· != 46)).length=0 then .inr ()else .inl ((((p.take m).reverse.dropWhile (· != 46)).length:Int) - 1)):=by
 intro m
 induction m with
 | zero=>intro _;rw[aP];rfl
 | succ m ih=>
  intro hm;rw[aP]
  have e0:((m+1:Nat):Int) - 1=(m:Int):=by omega
  rw[e0];unfold eL
  rw[decide_eq_true (by omega),ai (show m<p.length by omega)]
  have hb:((p[m].toNat:Int) == 46)=!(p[m] != 46):=by
   rw[Yb,beq_iff_eq,UJ,bne_eq_false_iff_eq]
   refine⟨λh=>?_,λh=>by rw[h];rfl⟩
   exact UInt8.toNat_inj.1 (by have:(46:UInt8).toNat=46:=rfl;omega)
  have ht:(p.take (m+1)).reverse=p[m]::(p.take m).reverse:=by rw[Ra (by omega),QeM];rfl
  rw[ht,List.dropWhile_cons];simp only[cond_true,K_,hb]
  cases h:(p[m] != 46)with
  | true=>
   simp only[PG,cond_false,if_true]
   rw[aj (by omega) (by omega)]
   exact ih (by omega)
  | false=>
   simp only[Wy,cond_true,R3,if_false,P5,QdH,Ox]
   rw[if_neg (by omega)]
   congr 2
   omega
theorem FJ{p:Str}(hp:p.length<1000000000):∃b,l8 p=some (aL p,b):=by
 have e:eR p [46]=aI p 46:=by
  unfold eR
  rw[show((([46]:List UInt8).length:Int) == 0)=false from rfl,show((([46]:List UInt8).length:Int) == 1)=true from rfl]
  simp only[cond_true,cond_false]
  rw[show idx ([46]:List UInt8) 0=some 46 from rfl,K_]
  show(aI p 46).bind some=_
  cases aI p 46<;>rfl
 unfold l8;rw[e];unfold aI;dsimp only
 rw[aj (by omega) (by omega),yk p hp p.length (MO _),RB,nL]
 have hle:=(QeV (· != 46) (l:=p.reverse)).length_le;rw[QdH]at hle;generalize(p.reverse.dropWhile (· != 46)).length=n at hle ⊢;by_cases h:n=0
 ·subst h;exact⟨false,rfl⟩
 ·rw[if_neg h];simp only[K_]
  rw[decide_eq_false (by omega)]
  unfold slc;simp only[cond_false]
  rw[if_pos ⟨by omega,by omega,by omega⟩]
  simp only[K_,Qg_,QeC];refine⟨true,?_⟩
  congr 3
  omega
theorem AE:∀(n:Nat)(p:Str)(l:List Str),p.length≤n→p.length+l.length≤1000000→loop o7 (p,l)=some (l++Ov p)
 | n,p,l,h1,h2=>by
  by_cases h:p = []
  ·subst h;rw[aP];simp[o7,m9]
  ·have hl:=fY h
   have hb:(p == [])=false:=by simp[h]
   have hs:o7 (p,l)=some (.inl (aL p,l++[p])):=by
    unfold o7;simp only[hb,Wy,cond_true]
    obtain⟨b,e⟩:=FJ (p:=p) (by omega)
    rw[ao (by simp;omega) (by omega),e]
    rfl
   rw[aP,hs];dsimp only
   match n with
   | 0=>omega
   | n+1=>
    rw[AE n (aL p) (l++[p]) (by omega) (by simp;omega),lX h]
    simp
theorem KK{p:Str}(h:p.length≤1000000):va p=some (Ov p):=by
 unfold va
 rw[AE p.length p [] (MO _) (by simpa using h)]
 rfl
theorem Bs{s:JG}(h:SC s){Lf:Str}(hp:Lf.length≤1000000){label:Int}(h0:0≤label)(h1:label<s.Lg.Lm.length)(least:Bool){part:M7 fam [.st 1]→Option Int}
  (hpart:∀c:Cap,part (c,())=some (bif least then c.Oe else c.Most)):oZ s Lf label part=some (NA s Lf label least):=by
 have hn:=h.n;unfold oZ NA;rw[KK hp,K_,zp h.b.cf]
 cases hf:Na s.Lg Lf with
 | none=>simp
 | some q=>
  simp only[Option.elim_some,K_,PG,cond_false,Option.isSome_some,true_and];rw[if_pos ⟨h0,h1⟩,tA h,K_]
  have hfound:=pO h.c Lf.length Lf (MO _) (by rw[hf];rfl)
  have hul:=uT Lf
  have hpos:0<(Ov Lf).length:=by
   have:Lf≠[]:=by intro e;obtain⟨hm,hq⟩:=jt hf;obtain⟨i,hi,rfl⟩:=UL hm;have:=(h.c.q i hi).Lf.root;rw[hq,e]at this;simp at this
   rw[lX this];simp
  rw[aj (by omega) (by omega)]
  have key:∀m,m≤(Ov Lf).length→∀v,VB (s.Lu.length*1073741824) v→loop (nR s label part (Ov Lf)) ((⟨0,0⟩:Vec),v,(m:Int) - 1)=some (.inr (⟨0,0⟩,((Ov Lf).take m).reverse.foldl (λv p=>iF v (Td s.Lg label least p)) v)):=by
   intro m
   induction m with
   | zero=>intro _ v _;rw[aP];rfl
   | succ m ih=>
    intro hm v hv
    have hfm:=hfound _ (Nq (show m<(Ov Lf).length by omega))
    have hbp:=zn h.c hfm h0 h1 least
    have hs:nR s label part (Ov Lf) ((⟨0,0⟩:Vec),v,((m+1:Nat):Int) - 1)=some (.inl (⟨0,0⟩,iF v (Td s.Lg label least (Ov Lf)[m]),(m:Int) - 1)):=by
     unfold nR;dsimp only
     rw[show((m+1:Nat):Int) - 1=(m:Int)by omega,decide_eq_true (by omega),aC (show m<(Ov Lf).length by omega)]
     simp only[cond_true,K_,La (show m<(Ov Lf).length by omega)]
     obtain⟨q',e1,e2,e3,e4⟩:=tR h.c hfm h0 h1;rw[zp h.b.cf,e1];simp only[Option.elim_some,K_,PG,cond_false]
     rw[decide_eq_false (show¬ label<0 by omega),decide_eq_false (show¬ label≥(q'.MS.length:Int)by omega)]
     simp only[cond_false,K_]
     have hin:MZ label q'.MS.length=some label.toNat:=by
      unfold MZ
      rw[if_pos ⟨by omega,e2⟩]
     rw[hin];simp only[K_,e3];rw[hpart];simp only[K_]
     rw[show(bif least then(Sm s.Lg label (Ov Lf)[m]).Oe else(Sm s.Lg label (Ov Lf)[m]).Most)=Td s.Lg label least (Ov Lf)[m]from rfl]
     rw[E6 (hv.mono (by omega)) hbp.1 (by omega),K_,aj (by omega) (by omega)]
    rw[aP,hs];dsimp only
    rw[ih (by omega) _ (uy hv hbp.1 hbp.2),Ra (by omega),QeM]
    rfl
  have:=key ((Ov Lf).length - 1) (by omega) _ (mR h.b label)
  rw[show(((Ov Lf).length - 1:Nat):Int) - 1=((Ov Lf).length:Int) - 2 by omega]at this
  rw[this,List.dropLast_eq_take];rfl
theorem yY{s:JG}(h:SC s){Lf:Str}(hp:Lf.length≤1000000){label:Int}(h0:0≤label)(h1:label<s.Lg.Lm.length):nx s Lf label=some (NA s Lf label true):=by unfold nx;rw[Bs h hp h0 h1 true (λc=>rfl)];rfl
theorem G4{s:JG}(h:SC s){Lf:Str}(hp:Lf.length≤1000000){label:Int}(h0:0≤label)(h1:label<s.Lg.Lm.length):qk s Lf label=some (NA s Lf label false):=by unfold qk;rw[Bs h hp h0 h1 false (λc=>rfl)];rfl
theorem v9(q:Str):(46∉q∧aL q = [])∨∃r,46∉r∧q=aL q++46::r:=by
 have h0:q.reverse.takeWhile (· != 46)++q.reverse.dropWhile (· != 46)=q.reverse:=QdR
 have h1:46∉(q.reverse.takeWhile (· != 46)).reverse:=by intro h;have:=Tg.1 (List.all_takeWhile (p:=(· != 46)) (l:=q.reverse)) _ (QgE.1 h);simp at this
 have h2:q=(q.reverse.dropWhile (· != 46)).reverse++(q.reverse.takeWhile (· != 46)).reverse:=by rw[← QeM,h0,List.reverse_reverse]
 cases hd:q.reverse.dropWhile (· != 46)with
 | nil=>
  left;rw[hd]at h2
  refine⟨?_,by unfold aL;rw[hd];rfl⟩
  rw[h2];simpa using h1
 | cons x d=>
  right
  have hx:x=46:=by
   have:(q.reverse.dropWhile (· != 46)).head? = some x:=by rw[hd];rfl
   have:=QgQ (· != 46) q.reverse;rw[hd]at this;simpa using this
  refine⟨(q.reverse.takeWhile (· != 46)).reverse,h1,?_⟩;unfold aL;rw[hd]
  conv=>lhs;rw[h2,hd,hx]
  simp
theorem Kf{p u r:Str}(hr:46∉r):(p++[46]) <+: (u++46::r)↔p=u∨(p++[46]) <+: u:=by
 constructor
 ·intro h;by_cases h1:p.length<u.length
  ·right
   exact QfI h (QfQ _ _) (by simp;omega)
  ·by_cases h2:p.length=u.length
   ·left
    have:=QfI (List.IsPrefix.trans (QfQ p [46]) h) (QfQ u _) (by omega)
    exact List.IsPrefix.eq_of_length this h2
   ·exfalso
    have hp:u++[46] <+: p:=by
     refine QfI (l₃:=u++46::r) ⟨r,by simp⟩ (List.IsPrefix.trans (QfQ p [46]) h) (by simp;omega)
    obtain⟨z,rfl⟩:=hp;obtain⟨y,hy⟩:=h
    have:z++[46]++y=r:=by
     have:u++(46::(z++[46]++y))=u++(46::r):=by rw[← hy];simp
     have:=List.append_cancel_left this;simpa using this
    exact hr (by rw[← this];simp)
 ·rintro(rfl | h)
  ·exact⟨r,by simp⟩
  ·exact List.IsPrefix.trans h (QfQ _ _)
theorem EI{p:Str}(hp:p≠[]):∀(n:Nat)(q:Str),q.length≤n→(p∈Ov q↔p=q∨(p++[46]) <+: q)
 | n,q,hn=>by
  by_cases hq:q = []
  ·subst hq;rw[m9];constructor
   ·intro h;cases h
   ·rintro(h | h)
    ·exact absurd h hp
    ·have:=h.length_le;simp at this
  ·rw[lX hq,NH];refine or_congr Iff.rfl ?_;have ha:=fY hq
   match n with
   | 0=>omega
   | n+1=>
    rw[EI hp n (aL q) (by omega)]
    rcases v9 q with⟨h1,h2⟩ | ⟨r,h1,h2⟩
    ·rw[h2];constructor
     ·rintro(h | h)
      ·exact absurd h hp
      ·have:=h.length_le;simp at this
     ·intro h
      exact absurd (h.subset (by simp)) h1
    ·conv=>rhs;rw[h2]
     rw[Kf h1]
def Zp(q p:Str):Bool:=q == p||(p++[46]).isPrefixOf q
theorem I1{q:Str}(hq:OA q)(p:Str):Zp q p=jN q p:=by
 have hqn:q≠[]:=by intro e;have:=hq.root;rw[e]at this;simp at this
 unfold Zp jN;rw[Yb,UG,beq_iff_eq,QgG,YI];by_cases hp:p = []
 ·subst hp;constructor
  ·rintro(h | h)
   ·exact absurd h hqn
   ·exfalso;rcases hq.root with h1 | h1
    ·rw[h1]at h;revert h;decide
    ·obtain⟨z,rfl⟩:=h1;obtain⟨y,hy⟩:=h;have:=congrArg List.head? hy;simp at this
  ·intro h;exfalso
   have key:∀(n:Nat)(x:Str),x.length≤n→[]∉Ov x:=by
    intro n
    induction n with
    | zero=>
     intro x hx
     have:x = []:=QfL.1 (by omega)
     subst this;simp[m9]
    | succ n ih=>
     intro x hx;by_cases h:x = []
     ·subst h;simp[m9]
     ·have:=fY h;rw[lX h];simp only[NH,not_or]
      exact⟨λe=>h e.symm,ih _ (by omega)⟩
   exact key _ _ (MO _) h
 ·rw[EI hp q.length q (MO _)];constructor
  ·rintro(rfl | h)
   ·exact .inl rfl
   ·exact .inr h
  ·rintro(rfl | h)
   ·exact .inl rfl
   ·exact .inr h
theorem EM(s p:Str):lz s p=some (p.isPrefixOf s):=by
 unfold lz lC;by_cases h:p.length≤s.length
 ·rw[decide_eq_true (by omega)]
  unfold slc;simp only[cond_true]
  rw[if_pos ⟨by omega,by omega,by omega⟩]
  simp only[K_,Qg_,QeC,TG]
  congr 1
  rw[Yb,beq_iff_eq,QgG,List.prefix_iff_eq_take];exact eq_comm
 ·rw[decide_eq_false (by omega)]
  have:p.isPrefixOf s=false:=by rw[Bool.eq_false_iff];intro hc;have:=(QgG.1 hc).length_le;omega
  rw[this];rfl
theorem FU{v:View}{a:LM}(hp:v.Lf.length≤1000000)(ha:OA a.Ls):lL v a=some (jN a.Ls v.Lf&&(v.user == (-1)||a.User == v.user)):=by
 unfold lL
 rw[eD (by simp;omega),K_,EM,← I1 ha]
 unfold Zp
 cases a.Ls == v.Lf<;>cases (v.Lf++[46]).isPrefixOf a.Ls<;>cases v.user == (-1)<;>rfl
theorem IQ{v:View}(h:v.s.Lv.length≤100000)(c:Lx):lY v c=some ((M9 v.s c.LM).elim (Yy,false) λx=>(x,true)):=by
 unfold lY
 have e:=eT (λi=>(Yy,i)) v.s.Lv (λx=>x.Id == c.LM) (λx=>(.inl (x,true):(LM×Bool) ⊕ LM)) (.inr Yy) (step:=fw v c) (by omega) ?_ ?_ ?_
 ·unfold Yy at e;rw[e];unfold M9 Yy
  cases v.s.Lv.find? λx=>x.Id == c.LM<;>rfl
 ·intro k hk hf;unfold fw;rw[ah hk,ai hk];simp only[cond_true,K_,hf,cond_false]
 ·intro k hk hf;unfold fw;rw[ah hk,ai hk];simp only[cond_true,K_,hf]
 ·unfold fw;rw[am];rfl
theorem GB{N:Nat}{s:JG}(h:Inv N s){Lf:Str}(hp:Lf.length≤1000000)(label user:Int):mC ⟨s,Lf,label,user⟩=some (MQ s Lf label (user == (-1)) user):=by
 have hcl:=h.cl;have hal:=h.al;unfold mC
 rw[jo (λv i=>(v,i)) s.Kl (Ur s Lf label (user == (-1)) user) (·.LY) (step:=kw ⟨s,Lf,label,user⟩) (by omega) (λc hc _=>((h.sb.cs c hc).mono (by omega))) ?_ ?_]
 ·rfl
 ·intro k hk v hv;unfold kw;dsimp only;rw[ah hk];simp only[ai hk,cond_true,K_]
  rw[IQ (by dsimp only;omega),K_,zT hv (h.sb.cs _ (Nq hk)) (by omega)]
  unfold Ur;dsimp only
  cases ha:M9 s s.Kl[k].LM with
  | none=>simp
  | some a=>
   simp only[Option.elim_some,K_,cond_true]
   rw[FU (by dsimp only;omega) (h.ak a (nT (id:=λx:LM=>x.Id) ha).1).Lf]
   dsimp only
   rcases QfE (jN a.Ls Lf)with hb | hb<;>simp only[hb]<;>cases s.Kl[k].Ll == label<;>cases user == (-1)<;>cases a.User == user<;>rfl
 ·intro v;unfold kw;dsimp only;rw[am];rfl
theorem Ea(s:JG)(Lf:Str)(label u w:Int):MQ s Lf label true u=MQ s Lf label true w:=by
 have:Ur s Lf label true u=Ur s Lf label true w:=by
  funext c
  unfold Ur
  cases M9 s c.LM<;>simp
 unfold MQ;rw[this]
theorem qP{N:Nat}{s:JG}(h:Inv N s){Lf:Str}(hp:Lf.length≤1000000)(label:Int):ke s Lf label=some (MQ s Lf label true 0):=by
 unfold ke;have:=GB h hp label (-1)
 rw[show((-1:Int) == -1)=true from rfl,Ea s Lf label (-1) 0]at this
 rw[this];rfl
theorem F3(least most:Int){l:List Int}(hl:l.length≤1000):qI least most l=some (l.all λn=>decide (least≤n)&&decide (n≤most)):=by
 unfold qI eI gf
 have e:=sS (λi=>i) l (λn=>!(decide (least≤n)&&decide (n≤most))) (λi=>(.inl i:Int ⊕ Unit)) (.inr ()) (step:=bN l λa'=>o8 a'.1 least most) (by omega) ?_ ?_ ?_
 ·rw[← zo l];rcases e with⟨k,hk,e1,e2⟩ | ⟨e1,e2⟩
  ·rw[e1,e2];simp only[K_,Option.isNone_some]
   rw[decide_eq_true (show(k:Int)≥0 by omega)]
   rfl
  ·rw[e1,e2];rfl
 ·intro k hk hf;unfold bN o8;rw[ah hk,ai hk];simp only[cond_true,K_];simp only[QdU,Ng,decide_eq_true_eq]at hf
  rw[decide_eq_false (show¬ l[k]<least by omega),decide_eq_false (show¬ l[k]>most by omega)]
  rfl
 ·intro k hk hf;unfold bN o8;rw[ah hk,ai hk];simp only[cond_true,K_];simp only[UJ,QeT,decide_eq_false_iff_not]at hf;by_cases h1:l[k]<least
  ·rw[decide_eq_true h1];rfl
  ·rw[decide_eq_false h1,decide_eq_true (show l[k]>most by omega)];rfl
 ·unfold bN;rw[am];rfl
theorem Jb{c:Lg}{l:List Ask}(hl:l.length≤100)(h:∀x∈l,NM c x)(label:Int):oN l label=some (o9 l label):=by
 unfold oN
 rw[jo (λv i=>(v,i)) l (λx=>x.Ll == label) oW (step:=mF l label) (by omega) (λx hx _=>(qa (h x hx)).1.mono (by omega)) ?_ ?_]
 ·rfl
 ·intro k hk v hv;have hx:=h _ (Nq hk);obtain⟨t1,t2,t3⟩:=qa hx;have hs:=hx.size;have hc:=hx.count;unfold RJ at hs;unfold mF;dsimp only;rw[ah hk,cond_true,ai hk];simp only[K_,t2,t3]
  rw[F3 _ _ (by simp),F3 _ _ (by simp)]
  have e1:([l[k].LY.Mem,l[k].LY.LA].all λn=>decide (0≤n)&&decide (n≤1125899906842624))=true:=by simp;omega
  have e2:([l[k].ME].all λn=>decide (0≤n)&&decide (n≤50))=true:=by simp;omega
  rw[e1,e2];have hp:=v5 hv t1
  have e:(⟨LC (v.Mem+l[k].LY.Mem*l[k].ME),LC (v.LA+l[k].LY.LA*l[k].ME)⟩:Vec)=MF v (oW l[k]):=by
   unfold VB MF oW at hp;dsimp only at hp
   rw[aj (by omega) (by omega),aj (by omega) (by omega)]
   rfl
  rw[e]
  cases l[k].Ll == label<;>rfl
 ·intro v;unfold mF;rw[am];rfl
theorem vp{N:Nat}{s:JG}(h:Inv N s){Lf:Str}(hp:Lf.length≤1000000)(label:Int):ma s Lf label=some (fI s Lf label):=by
 have hal:=h.al;unfold ma mQ
 rw[jo (λv i=>(v,i)) s.Lv (λa=>Mt a&&jN a.Ls Lf) (λa=>o9 a.Mq label) (by omega) (λa ha _=>(q9 (h.ak a ha).al (h.ak a ha).ask label).mono (by omega)) ?_ ?_]
 ·rfl
 ·intro k hk v hv;have hak:=h.ak _ (Nq hk);unfold lJ;dsimp only;rw[ah hk,cond_true];simp only[ai hk,K_]
  rw[FU (by dsimp only;omega) hak.Lf,Jb (by have:=hak.al;omega) hak.ask,K_,K_,zT hv (q9 hak.al hak.ask label) (by omega)]
  unfold n_ Mt
  cases s.Lv[k].JG == 1<;>cases s.Lv[k].JG == 2<;>rcases QfE (jN s.Lv[k].Ls Lf)with hb | hb<;>simp only[hb]<;>rfl
 ·intro v;unfold lJ;dsimp only;rw[am];rfl
theorem EG{p:Str}(h:OA p):l8 p=some (aL p,!(aL p == [])):=by
 have hp:p.length<1000000000:=by have:=h.len;omega
 have e:eR p [46]=aI p 46:=by
  unfold eR
  rw[show((([46]:List UInt8).length:Int) == 0)=false from rfl,show((([46]:List UInt8).length:Int) == 1)=true from rfl]
  simp only[cond_true,cond_false]
  rw[show idx ([46]:List UInt8) 0=some 46 from rfl,K_]
  show(aI p 46).bind some=_
  cases aI p 46<;>rfl
 have hhead:∀r,p≠46::r:=by
  intro r er;rcases h.root with h1 | h1
  ·rw[h1]at er;cases er
  ·obtain⟨t,h1⟩:=h1;rw[er]at h1;cases h1
 unfold l8;rw[e];unfold aI;dsimp only
 rw[aj (by omega) (by omega),yk p hp p.length (MO _),RB,nL]
 have hle:=(QeV (· != 46) (l:=p.reverse)).length_le;rw[QdH]at hle
 have hone:(p.reverse.dropWhile (· != 46)).length≠1:=by
  intro h1;rcases v9 p with⟨h2,_⟩ | ⟨r,h2,h3⟩
  ·cases hd:p.reverse.dropWhile (· != 46)with
   | nil=>rw[hd]at h1;cases h1
   | cons x d=>
    have:=QgQ (λy:UInt8=>y != 46) p.reverse;rw[hd]at this
    have hx:x=46:=by simpa using this
    have hm:x∈p.reverse:=List.dropWhile_subset _ (by rw[hd];simp)
    exact h2 (hx▸QgE.1 hm)
  ·rw[nL,h1]at h3
   exact hhead r (by simpa using h3)
 generalize(p.reverse.dropWhile (· != 46)).length=n at hle hone ⊢;by_cases h:n=0
 ·subst h;rfl
 ·rw[if_neg h];simp only[K_]
  rw[decide_eq_false (by omega)]
  unfold slc;simp only[cond_false]
  rw[if_pos ⟨by omega,by omega,by omega⟩]
  simp only[K_,Qg_,QeC]
  have hne:(p.take (n - 1) == [])=false:=by rw[beq_eq_false_iff_ne];intro e0;have:=congrArg List.length e0;rw[Ox,Xb]at this;omega
  have e1:((n:Int) - 1).toNat=n - 1:=by omega
  rw[e1,hne];rfl
theorem Au{c:Lg}(h:Nj c)(p:Str):ri c p=some (Ma c p):=by
 have hq:=h.qs
 have e:=bQ (λ(l:List Str) i=>(l,i)) c.Lh (λq=>!(aL q.LB == [])&&aL q.LB == p) (·.LB) (step:=oE c p) (by omega) ?_ ?_
 ·unfold ri;rw[e,K_];unfold Ma;by_cases hp:p = []
  ·subst hp
   rw[if_pos rfl,QdS.2 (by simp)]
   rfl
  ·rw[if_neg hp]
   congr 2
   refine List.filter_congr λq _=>?_;by_cases e1:aL q.LB=p
   ·have:aL q.LB≠[]:=by rw[e1];exact hp
    rw[beq_eq_false_iff_ne.2 this];simp
   ·rw[beq_eq_false_iff_ne.2 e1];simp
 ·intro k hk l hl;unfold oE;rw[ah hk,cond_true];dsimp only;rw[ai hk,K_,EG (jP h (Nq hk)),K_];dsimp only
  cases e1:(aL c.Lh[k].LB == [])with
  | true=>simp
  | false=>
   cases e2:(aL c.Lh[k].LB == p)with
   | false=>simp
   | true=>
    simp only[Wy,cond_true,K_,Bool.and_self,if_true]
    rw[ao (by simp;omega) (by omega)]
    rfl
 ·intro l;unfold oE;rw[am];rfl
theorem kU(n:Int):0≤Mv n∧Mv n≤1125899906842624:=by
 unfold Mv
 split<;>omega
theorem Hf{n:Int}(h:0≤n):Mv n≤n:=by
 unfold Mv
 split<;>omega
theorem pq(n:Int):kh n=some (Mv n):=jw n
def sp1(x:Int×Int×Int)(left:Int):Int:=Nh (Nh (Nh (Mv x.1) (Mv x.2.1)) (Mv x.2.2)) left
def st1(t:List Int×Int)(x:Int×Int×Int):List Int×Int:=(t.1++[sp1 x t.2],t.2 - sp1 x t.2)
def sp2(x:(Int×Int×Int)×Int)(left:Int):Int:=Nh (imax (Nh (Mv x.1.2.1) (Mv x.1.2.2) - x.2) 0) left
def st2(t:List Int×Int)(x:(Int×Int×Int)×Int):List Int×Int:=(t.1++[x.2+sp2 x t.2],t.2 - sp2 x t.2)
def ax(total:Int)(l:List (Int×Int×Int)):List Int×Int:=l.foldl st1 ([],Mv total)
def lG(total:Int)(l:List (Int×Int×Int)):List Int:=((l.zip (ax total l).1).foldl st2 ([],(ax total l).2)).1
theorem AW(x:Int×Int×Int){left:Int}(h:0≤left):0≤sp1 x left∧sp1 x left≤left∧sp1 x left≤Mv x.2.1∧sp1 x left≤Mv x.2.2:=by
 have h1:=kU x.1;have h2:=kU x.2.1;have h3:=kU x.2.2;unfold sp1 Nh
 repeat' split
 all_goals omega
theorem wI(x:(Int×Int×Int)×Int){left:Int}(h:0≤left)(h2:x.2≤Mv x.1.2.1∧x.2≤Mv x.1.2.2):0≤sp2 x left∧sp2 x left≤left∧x.2+sp2 x left≤Mv x.1.2.1∧x.2+sp2 x left≤Mv x.1.2.2:=by
 obtain⟨q1,q2⟩:=h2;unfold sp2 Nh imax
 repeat' split
 all_goals omega
structure Yt(OH:Int)(l:List (Int×Int×Int))(t:List Int×Int):Prop where
 len:t.1.length=l.length
 left:0≤t.2
 sum:t.1.sum+t.2=OH
 bd:∀k (h:k<l.length) (h':k<t.1.length),0≤t.1[k]∧t.1[k]≤Mv l[k].2.1∧t.1[k]≤Mv l[k].2.2
theorem KQ{OH:Int}{l:List (Int×Int×Int)}{t:List Int×Int}(h:Yt OH l t)(x:Int×Int×Int):Yt OH (l++[x]) (st1 t x):=by
 have hb:=AW x h.left;have hl:=h.len
 refine⟨by simp[st1,hl],by unfold st1;dsimp only;omega,?_,?_⟩
 ·have:=h.sum;simp only[st1,List.sum_append,Wn,List.sum_nil];omega
 ·intro k h1 h2;by_cases hk:k<l.length
  ·have:=h.bd k hk (by omega)
   simp only[st1]
   rw[QfG (by omega),QfG hk]
   exact this
  ·have hk:k=l.length:=by simp at h1;omega
   subst hk;simp only[st1]
   rw[Qf_ (by omega),Qf_ (by omega)]
   simp only[hl,Nat.sub_self,QgW];exact⟨hb.1,hb.2.2.1,hb.2.2.2⟩
theorem vX{OH:Int}:∀(r l:List (Int×Int×Int)) (t:List Int×Int),Yt OH l t→Yt OH (l++r) (r.foldl st1 t)
 | [],l,t,h=>by simpa using h
 | x::r,l,t,h=>by have:=vX r (l++[x]) _ (KQ h x);simpa using this
theorem eU(total:Int)(l:List (Int×Int×Int)):Yt (Mv total) l (ax total l):=by
 have:=vX (OH:=Mv total) l [] ([],Mv total) ⟨rfl,(kU total).1,by simp,λk h=>absurd h (by simp)⟩
 simpa[ax]using this
structure Yr(OH:Int)(l:List ((Int×Int×Int)×Int))(t:List Int×Int):Prop where
 len:t.1.length=l.length
 left:0≤t.2
 sum:t.1.sum+t.2=OH+(l.map (·.2)).sum
 bd:∀k (h:k<l.length) (h':k<t.1.length),0≤t.1[k]∧t.1[k]≤Mv l[k].1.2.1∧t.1[k]≤Mv l[k].1.2.2
theorem KM{OH:Int}{l:List ((Int×Int×Int)×Int)}{t:List Int×Int}(h:Yr OH l t){x:(Int×Int×Int)×Int}(hx:0≤x.2∧x.2≤Mv x.1.2.1∧x.2≤Mv x.1.2.2):Yr OH (l++[x]) (st2 t x):=by
 have hb:=wI x h.left hx.2;have hl:=h.len
 refine⟨by simp[st2,hl],by unfold st2;dsimp only;omega,?_,?_⟩
 ·have:=h.sum;simp only[st2,List.sum_append,Wn,List.sum_nil,Uo,Nr,Oj];omega
 ·intro k h1 h2;by_cases hk:k<l.length
  ·have:=h.bd k hk (by omega)
   simp only[st2]
   rw[QfG (by omega),QfG hk]
   exact this
  ·have hk:k=l.length:=by simp at h1;omega
   subst hk;simp only[st2]
   rw[Qf_ (by omega),Qf_ (by omega)]
   simp only[hl,Nat.sub_self,QgW];omega
theorem vO{OH:Int}:∀(r l:List ((Int×Int×Int)×Int)) (t:List Int×Int),Yr OH l t→(∀x∈r,0≤x.2∧x.2≤Mv x.1.2.1∧x.2≤Mv x.1.2.2)→Yr OH (l++r) (r.foldl st2 t)
 | [],l,t,h,_=>by simpa using h
 | x::r,l,t,h,hr=>by
  have:=vO r (l++[x]) _ (KM h (hr x (by simp))) (λy hy=>hr y (by simp[hy]))
  simpa using this
theorem uF(total:Int)(l:List (Int×Int×Int)):∀x∈l.zip (ax total l).1,0≤x.2∧x.2≤Mv x.1.2.1∧x.2≤Mv x.1.2.2:=by
 have h:=eU total l;intro x hx;obtain⟨k,hk,rfl⟩:=UL hx;have hl:=h.len
 have hz:k<l.length:=by simp at hk;omega
 rw[YP]
 exact h.bd k hz (by omega)
theorem tG(total:Int)(l:List (Int×Int×Int)):Yr (ax total l).2 (l.zip (ax total l).1) ((l.zip (ax total l).1).foldl st2 ([],(ax total l).2)):=by
 have:=vO (OH:=(ax total l).2) (l.zip (ax total l).1) [] ([],(ax total l).2) ⟨rfl,(eU total l).left,by simp,λk h=>absurd h (by simp)⟩ (uF total l)
 simpa using this
theorem Eu(total:Int)(l:List (Int×Int×Int)):(lG total l).length=l.length:=by have h1:=(eU total l).len;have h2:=(tG total l).len;unfold lG;rw[h2,QeW,h1,QfH]
theorem yc{α β : Type}:∀{l:List α}{m:List β},l.length=m.length→(l.zip m).map (·.2)=m
 | [],[],_=>rfl
 | a::l,b::m,h=>by simp only[List.zip_cons_cons,Nr];rw[yc (by simpa using h)]
 | [],_::_,h=>by simp at h
 | _::_,[],h=>by simp at h
theorem Fs{total:Int}(h0:0≤total)(l:List (Int×Int×Int)):(lG total l).sum≤total:=by have h1:=eU total l;have h2:=tG total l;have h3:=h2.sum;rw[yc h1.len.symm]at h3;have h4:=h1.sum;have h5:=Hf h0;have h6:=h2.left;show((l.zip (ax total l).1).foldl st2 ([],(ax total l).2)).1.sum≤total;omega
theorem G8(total:Int)(l:List (Int×Int×Int))(k:Nat)(h:k<l.length)(h':k<(lG total l).length):0≤(lG total l)[k]∧(lG total l)[k]≤Mv l[k].2.1:=by
 have h1:=eU total l;have h2:=tG total l
 have hz:k<(l.zip (ax total l).1).length:=by rw[QeW,h1.len];omega
 have:=h2.bd k hz h';rw[YP]at this;exact⟨this.1,this.2.1⟩
theorem rl(first:Int)(l:List Int)(hl:l.length≤100):jQ first l=some (l.foldl Nh first):=by
 unfold jQ
 have h:=az (Q:=λx=>x=l.foldl Nh first) (λ(n:Int) i=>(n,i)) l.length (λk n=>n=(l.take k).foldl Nh first) (step:=mA l) (by omega) ?_ ?_ (s:=first) (by simp)
 ·obtain⟨x,e,rfl⟩:=h;rw[e,K_]
 ·rintro k hk n rfl
  refine bY (a:=.inl ((l.take (k+1)).foldl Nh first,LC ((k:Int)+1))) ?_ (.inl ⟨_,rfl,rfl⟩)
  unfold mA;dsimp only;rw[ah hk,cond_true,ai hk,K_,Ra hk,QfV];rfl
 ·rintro n rfl
  refine bY (a:=.inr ((l.take l.length).foldl Nh first)) ?_ ⟨_,rfl,by rw[RB]⟩
  unfold mA;dsimp only;rw[am];rfl
theorem yf(a:Int):Nh a a=a:=by unfold Nh;split<;>rfl
section
variable(total:Int)(l:List (Int×Int×Int))
def fs1(k:Nat):List Int×Int:=(l.take k).foldl st1 ([],Mv total)
def P_(k:Nat):List Int×Int:=((l.zip (ax total l).1).take k).foldl st2 ([],(ax total l).2)
theorem Bi(k:Nat):Yt (Mv total) (l.take k) (fs1 total l k):=by
 have:=vX (OH:=Mv total) (l.take k) [] ([],Mv total) ⟨rfl,(kU total).1,by simp,λk h=>absurd h (by simp)⟩
 simpa[fs1]using this
theorem Ai{k:Nat}(hk:k<l.length):fs1 total l (k+1)=st1 (fs1 total l k) l[k]:=by unfold fs1;rw[Ra hk,QfV];rfl
theorem zY(k:Nat):Yr (ax total l).2 ((l.zip (ax total l).1).take k) (P_ total l k):=by
 have:=vO (OH:=(ax total l).2) ((l.zip (ax total l).1).take k) [] ([],(ax total l).2) ⟨rfl,(eU total l).left,by simp,λk h=>absurd h (by simp)⟩ (λx hx=>uF total l x (QdM hx))
 simpa[P_]using this
theorem WE:(l.zip (ax total l).1).length=l.length:=by rw[QeW,(eU total l).len,QfH]
theorem zO{k:Nat}(hk:k<l.length)(hk':k<(ax total l).1.length):P_ total l (k+1)=st2 (P_ total l k) (l[k],(ax total l).1[k]):=by
 have hz:k<(l.zip (ax total l).1).length:=by rw[WE];exact hk
 unfold P_;rw[Ra hz,QfV,YP];rfl
theorem vY(k:Nat):0≤(fs1 total l k).2∧(fs1 total l k).2≤1125899906842624:=by
 have h:=Bi total l k;have h1:=h.sum;have h2:=(kU total).2
 have h3:0≤(fs1 total l k).1.sum:=by
  have gen:∀m:List Int,(∀j (h:j<m.length),0≤m[j])→0≤m.sum:=by
   intro m
   induction m with
   | nil=>intro _;simp
   | cons a m ih=>
    intro hm
    have h0:=hm 0 (by simp)
    have:=ih λj hj=>by have:=hm (j+1) (by simp;omega);simpa using this
    simp only[Wn];simp only[QgW]at h0;omega
  exact gen _ λj hj=>(h.bd j (by have:=h.len;omega) hj).1
 have:=h.left;omega
theorem A_(k:Nat):0≤(P_ total l k).2∧(P_ total l k).2≤1125899906842624:=by
 have h1:=(vY total l l.length).2
 have e:fs1 total l l.length=ax total l:=by unfold fs1 ax;rw[RB]
 rw[e]at h1;refine⟨(zY total l k).left,?_⟩
 have gen:∀(m:List ((Int×Int×Int)×Int)) (t:List Int×Int),0≤t.2→(∀x∈m,0≤x.2∧x.2≤Mv x.1.2.1∧x.2≤Mv x.1.2.2)→(m.foldl st2 t).2≤t.2:=by
  intro m
  induction m with
  | nil=>intro t _ _;exact YG _
  | cons x m ih=>
   intro t ht hm
   have hb:=wI x ht (hm x (by simp)).2
   have:=ih (st2 t x) (by unfold st2;dsimp only;omega) (λy hy=>hm y (by simp[hy]))
   simp only[TN];unfold st2 at this ⊢;dsimp only at this ⊢;omega
 have:=gen ((l.zip (ax total l).1).take k) ([],(ax total l).2) (eU total l).left (λx hx=>uF total l x (QdM hx));unfold P_;dsimp only at this;omega
theorem Ey(hl:l.length≤100):dq total (l.map (·.1)) (l.map (·.2.1)) (l.map (·.2.2))=some (lG total l):=by
 unfold dq;simp only[PI,yf];rw[jw,K_]
 have h1:=az (Q:=λx=>x=((ax total l).2,(ax total l).1)) (λ(t:Int×List Int) i=>(t.1,t.2,i)) l.length (λk t=>t=((fs1 total l k).2,(fs1 total l k).1)) (step:=bW (l.map (·.1)) (l.map (·.2.1)) (l.map (·.2.2)) (l.length:Int)) (by omega) ?_ ?_ (s:=(Mv total,[])) rfl
 ·obtain⟨x,e,rfl⟩:=h1;rw[e,K_];dsimp only
  have h2:=az (Q:=λx=>x=lG total l) (λ(t:Int×List Int) i=>(t.1,t.2,i)) l.length (λk t=>t=((P_ total l k).2,(P_ total l k).1++(ax total l).1.drop k)) (step:=bX (l.map (·.2.1)) (l.map (·.2.2)) (l.length:Int)) (by omega) ?_ ?_ (s:=((ax total l).2,(ax total l).1)) (by simp[P_])
  ·obtain⟨x,e,rfl⟩:=h2;rw[e,K_]
  ·rintro k hk t rfl;have hp:=(eU total l).len
   have hk':k<(ax total l).1.length:=by omega
   have hlen:=(zY total l k).len;rw[Ox,WE]at hlen;have hL:=A_ total l k
   have hz:=uF total l (l[k],(ax total l).1[k]) (by
    have:k<(l.zip (ax total l).1).length:=by rw[WE];exact hk
    have e:(l.zip (ax total l).1)[k]=(l[k],(ax total l).1[k]):=YP;rw[← e];exact Nq this)
   have hb:=wI (l[k],(ax total l).1[k]) hL.1 hz.2;dsimp only at hb hz;have g1:=kU l[k].2.1;have g2:=kU l[k].2.2
   have hm:0≤Nh (Mv l[k].2.1) (Mv l[k].2.2)∧Nh (Mv l[k].2.1) (Mv l[k].2.2)≤1125899906842624:=by unfold Nh;split<;>omega
   have hget:((P_ total l k).1++(ax total l).1.drop k)[k]? = some (ax total l).1[k]:=by
    rw[RD (by omega),show k - (P_ total l k).1.length=0 by omega,Tc,U9,La hk']
   have U2:k<((P_ total l k).1++(ax total l).1.drop k).length:=by simp;omega
   have hset:∀v:Int,List.set ((P_ total l k).1++(ax total l).1.drop k) k v=(P_ total l k).1++[v]++(ax total l).1.drop (k+1):=by
    intro v
    rw[QgA _ _ (by omega),show k - (P_ total l k).1.length=0 by omega,Wq hk',QfP]
    simp
   refine bY (a:=.inl ((P_ total l (k+1)).2,(P_ total l (k+1)).1++(ax total l).1.drop (k+1),LC ((k:Int)+1))) ?_ (.inl ⟨(_,_),rfl,rfl⟩);unfold bX;dsimp only
   rw[ah hk,cond_true,ai (by simpa using hk),K_,jw,K_,ai (by simpa using hk),K_,jw,K_]
   simp only[aC U2,K_,hget,QeP,hset]
   rw[zO total l hk hk',aj (x:=Nh _ _ - _) (by omega) (by omega)]
   have esp:Nh (imax (Nh (Mv l[k].2.1) (Mv l[k].2.2) - (ax total l).1[k]) 0) (P_ total l k).2=sp2 (l[k],(ax total l).1[k]) (P_ total l k).2:=rfl
   rw[esp,aj (x:=(P_ total l k).2 - _) (by omega) (by omega),aj (x:=(ax total l).1[k]+_) (by omega) (by omega)]
   rfl
  ·rintro t rfl;have hp:=(eU total l).len;refine bY (a:=.inr ((P_ total l l.length).1++(ax total l).1.drop l.length)) ?_ ⟨_,rfl,?_⟩
   ·unfold bX;dsimp only;rw[am];rfl
   ·rw[← hp,QdL,Wo,hp];unfold P_ lG
    rw[WC (by rw[WE];exact MO _)]
 ·rintro k hk t rfl;have hL:=vY total l k;have hb:=AW l[k] hL.1;have hlen:=(Bi total l k).len;rw[Ox]at hlen;refine bY (a:=.inl ((fs1 total l (k+1)).2,(fs1 total l (k+1)).1,LC ((k:Int)+1))) ?_ (.inl ⟨(_,_),rfl,rfl⟩);unfold bW;dsimp only
  rw[ah hk,cond_true,ai (by simpa using hk),K_,jw,K_,ai (by simpa using hk),K_,jw,K_,ai (by simpa using hk),K_,jw,K_,ao (by simp;omega) (by omega),K_]
  simp only[QeP];have esp:Nh (Nh (Nh (Mv l[k].1) (Mv l[k].2.1)) (Mv l[k].2.2)) (fs1 total l k).2=sp1 l[k] (fs1 total l k).2:=rfl
  rw[Ai total l hk,esp,aj (by omega) (by omega)]
  rfl
 ·rintro t rfl;refine bY (a:=.inr ((fs1 total l l.length).2,(fs1 total l l.length).1)) ?_ ⟨_,rfl,?_⟩
  ·unfold bW;dsimp only;rw[am];rfl
  ·unfold fs1 ax;rw[RB]
theorem D7(hl:l.length≤100):pN total (l.map (·.1)) (l.map (·.2.1)) (l.map (·.2.2))=some (lG total l):=by
 unfold pN
 rw[rl _ _ (by simp),K_]
 simp only[PI,TN,List.foldl_nil,yf]
 have e0:Wh 8 (l.length:Int) (l.length:Int) (0:Int)=some (List.replicate l.length 0):=by
  unfold Wh
  rw[if_pos ⟨by omega,by omega,by unfold maxLen;omega,by omega⟩]
  simp
 rw[e0,K_,pq,K_]
 have h1:=az (Q:=λx=>x=ax total l) (λ(t:List Int×Int) i=>(t.1,t.2,i)) l.length (λk t=>t=((fs1 total l k).1++List.replicate (l.length - k) 0,(fs1 total l k).2)) (step:=np (l.map (·.1)) (l.map (·.2.1)) (l.map (·.2.2)) (l.length:Int)) (by omega) ?_ ?_ (s:=(List.replicate l.length 0,Mv total)) (by simp[fs1])
 ·obtain⟨x,e,rfl⟩:=h1;rw[e,K_]
  have h2:=az (Q:=λx=>x=lG total l) (λ(t:List Int×Int) i=>(t.1,t.2,i)) l.length (λk t=>t=((P_ total l k).1++(ax total l).1.drop k,(P_ total l k).2)) (step:=nq (l.map (·.2.1)) (l.map (·.2.2)) (l.length:Int)) (by omega) ?_ ?_ (s:=ax total l) (by simp[P_])
  ·obtain⟨x,e,rfl⟩:=h2;rw[e,K_]
  ·rintro k hk t rfl;have hp:=(eU total l).len
   have hk':k<(ax total l).1.length:=by omega
   have hlen:=(zY total l k).len;rw[Ox,WE]at hlen;have hL:=A_ total l k
   have hz:=uF total l (l[k],(ax total l).1[k]) (by
    have:k<(l.zip (ax total l).1).length:=by rw[WE];exact hk
    have e:(l.zip (ax total l).1)[k]=(l[k],(ax total l).1[k]):=YP;rw[← e];exact Nq this)
   have hb:=wI (l[k],(ax total l).1[k]) hL.1 hz.2;dsimp only at hb hz;have g1:=kU l[k].2.1;have g2:=kU l[k].2.2
   have hm:0≤Nh (Mv l[k].2.1) (Mv l[k].2.2)∧Nh (Mv l[k].2.1) (Mv l[k].2.2)≤1125899906842624:=by unfold Nh;split<;>omega
   have hget:((P_ total l k).1++(ax total l).1.drop k)[k]? = some (ax total l).1[k]:=by
    rw[RD (by omega),show k - (P_ total l k).1.length=0 by omega,Tc,U9,La hk']
   have U2:k<((P_ total l k).1++(ax total l).1.drop k).length:=by simp;omega
   have hset:∀v:Int,List.set ((P_ total l k).1++(ax total l).1.drop k) k v=(P_ total l k).1++[v]++(ax total l).1.drop (k+1):=by
    intro v
    rw[QgA _ _ (by omega),show k - (P_ total l k).1.length=0 by omega,Wq hk',QfP]
    simp
   refine bY (a:=.inl ((P_ total l (k+1)).1++(ax total l).1.drop (k+1),(P_ total l (k+1)).2,LC ((k:Int)+1))) ?_ (.inl ⟨(_,_),rfl,rfl⟩);unfold nq;dsimp only
   rw[ah hk,cond_true,ai (by simpa using hk),K_,pq,K_,ai (by simpa using hk),K_,pq,K_,rl _ _ (by simp),K_]
   simp only[aC U2,K_,hget,QeP,hset,TN,List.foldl_nil]
   rw[rl _ _ (by simp),K_]
   simp only[TN,List.foldl_nil]
   rw[zO total l hk hk',aj (x:=Nh _ _ - _) (by omega) (by omega)]
   have esp:Nh (imax (Nh (Mv l[k].2.1) (Mv l[k].2.2) - (ax total l).1[k]) 0) (P_ total l k).2=sp2 (l[k],(ax total l).1[k]) (P_ total l k).2:=rfl
   rw[esp,aj (x:=(P_ total l k).2 - _) (by omega) (by omega),aj (x:=(ax total l).1[k]+_) (by omega) (by omega)]
   rfl
  ·rintro t rfl;have hp:=(eU total l).len;refine bY (a:=.inr ((P_ total l l.length).1++(ax total l).1.drop l.length)) ?_ ⟨_,rfl,?_⟩
   ·unfold nq;dsimp only;rw[am];rfl
   ·rw[← hp,QdL,Wo,hp];unfold P_ lG
    rw[WC (by rw[WE];exact MO _)]
 ·rintro k hk t rfl;have hL:=vY total l k;have hb:=AW l[k] hL.1;have hlen:=(Bi total l k).len;rw[Ox]at hlen
  have hr:List.replicate (l.length - k) (0:Int)=0::List.replicate (l.length - (k+1)) 0:=by
   rw[show l.length - k=(l.length - (k+1))+1 by omega,QgJ]
  have U2:k<((fs1 total l k).1++List.replicate (l.length - k) (0:Int)).length:=by simp;omega
  have hset:∀v:Int,List.set ((fs1 total l k).1++List.replicate (l.length - k) (0:Int)) k v=(fs1 total l k).1++[v]++List.replicate (l.length - (k+1)) 0:=by
   intro v
   rw[QgA _ _ (by omega),show k - (fs1 total l k).1.length=0 by omega,hr,QfP]
   simp
  have hget:∀v:Int,((fs1 total l k).1++[v]++List.replicate (l.length - (k+1)) (0:Int))[k]? = some v:=by
   intro v
   rw[PS,RD (by omega),show k - (fs1 total l k).1.length=0 by omega]
   rfl
  have hlen3:∀v:Int,k<((fs1 total l k).1++[v]++List.replicate (l.length - (k+1)) (0:Int)).length:=by intro v;simp;omega
  refine bY (a:=.inl ((fs1 total l (k+1)).1++List.replicate (l.length - (k+1)) 0,(fs1 total l (k+1)).2,LC ((k:Int)+1))) ?_ (.inl ⟨(_,_),rfl,rfl⟩);unfold np;dsimp only
  rw[ah hk,cond_true,ai (by simpa using hk),K_,pq,K_,ai (by simpa using hk),K_,pq,K_,ai (by simpa using hk),K_,pq,K_,rl _ _ (by simp),K_,aC U2,K_,La U2,K_]
  simp only[hset,aC (hlen3 _),K_,hget,QeP,TN,List.foldl_nil];have esp:Nh (Nh (Nh (Mv l[k].1) (Mv l[k].2.1)) (Mv l[k].2.2)) (fs1 total l k).2=sp1 l[k] (fs1 total l k).2:=rfl
  rw[Ai total l hk,esp,aj (by omega) (by omega)]
  rfl
 ·rintro t rfl;refine bY (a:=.inr ((fs1 total l l.length).1++List.replicate (l.length - l.length) 0,(fs1 total l l.length).2)) ?_ ⟨_,rfl,?_⟩
  ·unfold np;dsimp only;rw[am];rfl
  ·unfold fs1 ax;simp
end
def Nn(s:JG)(label:Int)(x:Str):Int×Int×Int:=((NA s x label true).Mem,(MQ s x label true 0).Mem+(fI s x label).Mem,(NA s x label false).Mem)
def bk(s:JG)(label mem:Int)(kids:List Str):List Int:=lG mem (kids.map (Nn s label))
def pI:Nat→JG→Str→Int→Int→List Mr
 | 0,s,Lf,label,mem=>[⟨Lf,mem⟩]
 | d+1,s,Lf,label,mem=>if(Ma s.Lg Lf).isEmpty then[⟨Lf,mem⟩]else((Ma s.Lg Lf).zip (bk s label mem (Ma s.Lg Lf))).flatMap λx=>pI d s x.1 label x.2
theorem ol(s:JG)(label mem:Int)(kids:List Str):(bk s label mem kids).length=kids.length:=by unfold bk;rw[Eu,PI]
theorem su(s:JG)(label mem:Int)(kids:List Str):(kids.zip (bk s label mem kids)).length=kids.length:=by rw[QeW,ol,QfH]
theorem lT{α β : Type}(f:α→List β)(n:Nat):∀(l:List α),(∀x∈l,(f x).length≤n)→(l.flatMap f).length≤l.length*n
 | [],_=>by simp
 | a::l,h=>by
  have h1:=h a (by simp)
  have h2:=lT f n l λx hx=>h x (by simp[hx])
  rw[QfU,Lc,P5,TM];omega
theorem se(s:JG)(label:Int):∀(d:Nat)(Lf:Str)(mem:Int),(Ma s.Lg Lf).length≤16→(∀p,(Ma s.Lg p).length≤16)→(pI d s Lf label mem).length≤16 ^ d
 | 0,Lf,mem,_,_=>by simp[pI]
 | d+1,Lf,mem,hk,ha=>by
  unfold pI;split
  ·simp;exact Nat.one_le_pow _ _ (by omega)
  ·refine P6 (lT _ (16 ^ d) _ λx _=>se s label d x.1 x.2 (ha _) ha) ?_;rw[su,Nat.pow_succ,Nat.mul_comm (16 ^ d)];exact Ro _ hk
theorem mn{N:Nat}{s:JG}(h:Inv N s)(p:Str):(Ma s.Lg p).length≤16:=by have:=oz s.Lg p;have:=h.cf.qs;omega
theorem uE{N:Nat}{s:JG}(h:Inv N s){Lf x:Str}(hx:x∈Ma s.Lg Lf):OA x∧x.count 46=Lf.count 46+1∧(Na s.Lg x).isSome=true:=by
 obtain⟨hp,q,hq',rfl,ha⟩:=eW hx;obtain⟨q',e,_⟩:=pz hq'
 exact⟨jP h.cf hq',jq hp ha,by rw[e];rfl⟩
theorem Cn{N:Nat}{s:JG}(h:Inv N s){Lf:Str}(hc:3≤Lf.count 46):Ma s.Lg Lf = []:=by
 cases hk:Ma s.Lg Lf with
 | nil=>rfl
 | cons x l=>
  obtain⟨h1,h2,_⟩:=uE h (Lf:=Lf) (x:=x) (by rw[hk];simp)
  have:=h1.deep;omega
theorem u9{N:Nat}{s:JG}(h:Inv N s)(label:Int)(x:Str):(0≤(MQ s x label true 0).Mem∧(MQ s x label true 0).Mem≤214748364800)∧0≤(fI s x label).Mem∧(fI s x label).Mem≤6871947673600:=by have h1:=xS h.sb x label true 0;have h2:=DL h x label;have hcl:=h.cl;unfold VB at h1 h2;omega
theorem H4{N:Nat}{s:JG}(h:Inv N s)(label:Int):∀(d n:Nat)(Lf:Str)(mem:Int),3≤Lf.count 46+d→d≤n→d≤3→
  aV (n+1) s Lf label mem=some (pI d s Lf label mem):=by
 have hsc:=h.sc;have hq:=h.cf.qs;intro d
 induction d with
 | zero=>
  intro n Lf mem hc _ _;show br _ s Lf label mem=_;unfold br
  rw[nf h.cf.small,K_,Cn h (by omega)]
  rfl
 | succ d ih=>
  intro n Lf mem hc hn hd3
  obtain⟨n,rfl⟩:∃m,n=m+1:=⟨n - 1,by omega⟩
  have hkl:=mn h Lf;have hkf:=λx hx=>uE h (Lf:=Lf) (x:=x) hx;show br (aV (n+1)) s Lf label mem=_;unfold br pI;rw[nf h.cf.small,K_];generalize hK:Ma s.Lg Lf=kids at hkl hkf
  cases hkn:kids with
  | nil=>rfl
  | cons k0 kr=>
   rw[← hkn]
   have hne:kids.length≠0:=by rw[hkn];simp
   have hz:((kids.length:Int) == 0)=false:=by rw[beq_eq_false_iff_ne];omega
   have hz2:kids.isEmpty=false:=by rw[hkn];rfl
   rw[hz,cond_false,hz2,if_neg (by simp)]
   have hw:∀k (hk:k<kids.length),LC ((MQ s kids[k] label true 0).Mem+(fI s kids[k] label).Mem)=(MQ s kids[k] label true 0).Mem+(fI s kids[k] label).Mem:=λk hk=>by
    have:=u9 h label kids[k]
    exact aj (by omega) (by omega)
   have h1:=az (Q:=λx=>x=((kids.map (Nn s label)).map (·.1),(kids.map (Nn s label)).map (·.2.1),(kids.map (Nn s label)).map (·.2.2))) (λ(t:List Int×List Int×List Int) i=>(t.1,t.2.1,t.2.2,i)) kids.length (λk t=>t=(((kids.take k).map (Nn s label)).map (·.1),((kids.take k).map (Nn s label)).map (·.2.1),((kids.take k).map (Nn s label)).map (·.2.2))) (step:=bG s label kids) (by omega) ?_ ?_ (s:=([],[],[])) (by simp)
   ·obtain⟨x,e,rfl⟩:=h1;rw[e,K_];dsimp only
    rw[Ey mem (kids.map (Nn s label)) (by rw[PI];omega),K_]
    have hpl:=ol s label mem kids;have hzl:=su s label mem kids
    have h2:=az (Q:=λx=>x=(kids.zip (bk s label mem kids)).flatMap λx=>pI d s x.1 label x.2) (λ(t:List Mr) i=>(t,i)) kids.length (λk t=>t=((kids.zip (bk s label mem kids)).take k).flatMap λx=>pI d s x.1 label x.2) (step:=bf s label (aV (n+1)) kids (bk s label mem kids)) (by omega) ?_ ?_ (s:=[]) (by simp)
    ·obtain⟨x,e,rfl⟩:=h2;show((loop (bf s label (aV (n+1)) kids (bk s label mem kids)) ([],0)).bind λout=>some out)=_;rw[e];rfl
    ·rintro k hk t rfl
     have hk2:k<(bk s label mem kids).length:=by omega
     have hkz:k<(kids.zip (bk s label mem kids)).length:=by omega
     obtain⟨f1,f2,f3⟩:=hkf kids[k] (Nq hk)
     have VH:16 ^ d≤16 ^ 3:=QdV (by omega) (by omega)
     have b1:=se s label d kids[k] (bk s label mem kids)[k] (mn h _) (mn h);have b2:=lT (λx:Str×Int=>pI d s x.1 label x.2) (16 ^ d) ((kids.zip (bk s label mem kids)).take k) λx _=>se s label d x.1 x.2 (mn h _) (mn h)
     have b3:((kids.zip (bk s label mem kids)).take k).length*16 ^ d≤16*16 ^ 3:=QeO (by rw[Ox];omega) VH
     refine bY (a:=.inl (((kids.zip (bk s label mem kids)).take (k+1)).flatMap (λx=>pI d s x.1 label x.2),LC ((k:Int)+1))) ?_ (.inl ⟨_,rfl,rfl⟩);unfold bf;dsimp only
     rw[ah hk,cond_true,aC hk,K_,La hk,K_,aC hk2,K_,La hk2,K_,ih n kids[k] _ (by omega) (by omega) (by omega),K_,ao (by omega) (by omega),K_,
      Ra hkz,List.flatMap_append,YP]
     simp
    ·rintro t rfl
     refine bY (a:=.inr (((kids.zip (bk s label mem kids)).take kids.length).flatMap λx=>pI d s x.1 label x.2)) ?_ ⟨_,rfl,by rw[WC (by omega)]⟩
     unfold bf;dsimp only;rw[am];rfl
   ·rintro k hk t rfl;obtain⟨f1,f2,f3⟩:=hkf kids[k] (Nq hk)
    have hlen:kids[k].length≤1000000:=by have:=f1.len;omega
    refine bY (a:=.inl (((kids.take (k+1)).map (Nn s label)).map (·.1),((kids.take (k+1)).map (Nn s label)).map (·.2.1),((kids.take (k+1)).map (Nn s label)).map (·.2.2),LC ((k:Int)+1))) ?_ (.inl ⟨(_,_,_),rfl,rfl⟩);unfold bG;dsimp only;rw[ah hk,cond_true];simp only[aC hk,K_,La hk]
    rw[mL hsc hlen,K_,ao (by simp;omega) (by omega),K_,xW hsc hlen,K_,ao (by simp;omega) (by omega),K_,gL h.sb,K_,
     qB h,K_,ao (by simp;omega) (by omega),K_,hw k hk,Ra hk]
    simp only[Uo,Nr,Oj];rfl
   ·rintro t rfl
    refine bY (a:=.inr (((kids.take kids.length).map (Nn s label)).map (·.1),((kids.take kids.length).map (Nn s label)).map (·.2.1),((kids.take kids.length).map (Nn s label)).map (·.2.2))) ?_ ⟨_,rfl,by rw[RB]⟩
    unfold bG;dsimp only;rw[am];rfl
theorem Af{a b n:Nat}(h1:a≤b)(h2:b≤n):OV (a:Int) (b:Int) n=some (a,b - a):=by
 unfold OV
 rw[if_pos ⟨by omega,by omega,by omega⟩]
 simp
theorem J6(l:List Int)(k:Nat)(n:Nat)(hk:k<l.length)(hn:0<n)(v:Int):Rm l k n [v]=l.take k++[v]++l.drop (k+1):=by
 unfold Rm
 obtain⟨m,rfl⟩:∃m,n=m+1:=⟨n - 1,by omega⟩
 simp
theorem EL{N:Nat}{s:JG}(h:Inv N s){label:Int}(hl0:0≤label)(hl1:label<s.Lg.Lm.length):∀(d n:Nat)(Lf:Str)(mem deep:Int),3≤Lf.count 46+d→d≤n→d≤3→deep+d=4→
  eV (n+1) s Lf label mem deep=some (pI d s Lf label mem):=by
 have hsc:=h.sc;have hq:=h.cf.qs;intro d
 induction d with
 | zero=>
  intro n Lf mem deep hc _ _ hdp;show mc _ s Lf label mem deep=_;unfold mc
  rw[Au h.cf,K_,Cn h (by omega)]
  rfl
 | succ d ih=>
  intro n Lf mem deep hc hn hd3 hdp
  obtain⟨n,rfl⟩:∃m,n=m+1:=⟨n - 1,by omega⟩
  have hkl:=mn h Lf;have hkf:=λx hx=>uE h (Lf:=Lf) (x:=x) hx;show mc (eV (n+1)) s Lf label mem deep=_;unfold mc pI;rw[Au h.cf,K_];generalize hK:Ma s.Lg Lf=kids at hkl hkf
  cases hkn:kids with
  | nil=>rfl
  | cons k0 kr=>
   rw[← hkn]
   have hne:kids.length≠0:=by rw[hkn];simp
   have hz:((kids.length:Int) == 0)=false:=by rw[beq_eq_false_iff_ne];omega
   have hz2:kids.isEmpty=false:=by rw[hkn];rfl
   rw[hz,cond_false,decide_eq_false (by omega),K_,cond_false,hz2,if_neg (by simp)]
   have hw:∀k (hk:k<kids.length),LC ((MQ s kids[k] label true 0).Mem+(fI s kids[k] label).Mem)=(MQ s kids[k] label true 0).Mem+(fI s kids[k] label).Mem:=λk hk=>by
    have:=u9 h label kids[k]
    exact aj (by omega) (by omega)
   have e0:Wh 8 (kids.length:Int) (kids.length:Int) (0:Int)=some (List.replicate kids.length 0):=by
    unfold Wh
    rw[if_pos ⟨by omega,by omega,by unfold maxLen;omega,by omega⟩]
    simp
   rw[e0,K_,K_,K_];have h1:=az (Q:=λx=>x=(⟨(kids.map (Nn s label)).map (·.1),(kids.map (Nn s label)).map (·.2.1),(kids.map (Nn s label)).map (·.2.2)⟩:Nw)) (λ(t:Nw) i=>(t,i)) kids.length
    (λk t=>t=⟨((kids.take k).map (Nn s label)).map (·.1)++List.replicate (kids.length - k) 0,((kids.take k).map (Nn s label)).map (·.2.1)++List.replicate (kids.length - k) 0,((kids.take k).map (Nn s label)).map (·.2.2)++List.replicate (kids.length - k) 0⟩)
    (step:=lZ s label kids) (by omega) ?_ ?_ (s:=⟨List.replicate kids.length 0,List.replicate kids.length 0,List.replicate kids.length 0⟩) (by simp)
   ·obtain⟨x,e,rfl⟩:=h1;rw[e,K_];dsimp only
    rw[D7 mem (kids.map (Nn s label)) (by rw[PI];omega),K_]
    have hpl:=ol s label mem kids;have hzl:=su s label mem kids
    have h2:=az (Q:=λx=>x=(kids.zip (bk s label mem kids)).flatMap λx=>pI d s x.1 label x.2) (λ(t:List Mr) i=>(t,i)) kids.length (λk t=>t=((kids.zip (bk s label mem kids)).take k).flatMap λx=>pI d s x.1 label x.2) (step:=jH s label deep (eV (n+1)) kids (bk s label mem kids)) (by omega) ?_ ?_ (s:=[]) (by simp)
    ·obtain⟨x,e,rfl⟩:=h2;show((loop (jH s label deep (eV (n+1)) kids (bk s label mem kids)) ([],0)).bind λout=>some out)=_;rw[e];rfl
    ·rintro k hk t rfl
     have hk2:k<(bk s label mem kids).length:=by omega
     have hkz:k<(kids.zip (bk s label mem kids)).length:=by omega
     obtain⟨f1,f2,f3⟩:=hkf kids[k] (Nq hk)
     have VH:16 ^ d≤16 ^ 3:=QdV (by omega) (by omega)
     have b1:=se s label d kids[k] (bk s label mem kids)[k] (mn h _) (mn h);have b2:=lT (λx:Str×Int=>pI d s x.1 label x.2) (16 ^ d) ((kids.zip (bk s label mem kids)).take k) λx _=>se s label d x.1 x.2 (mn h _) (mn h)
     have b3:((kids.zip (bk s label mem kids)).take k).length*16 ^ d≤16*16 ^ 3:=QeO (by rw[Ox];omega) VH
     refine bY (a:=.inl (((kids.zip (bk s label mem kids)).take (k+1)).flatMap (λx=>pI d s x.1 label x.2),LC ((k:Int)+1))) ?_ (.inl ⟨_,rfl,rfl⟩);unfold jH;dsimp only
     have hd4:LC (deep+1)=deep+1:=aj (by omega) (by omega)
     rw[hpl,ah hk,cond_true,aC hk,K_,La hk2,K_,K_,La hk,K_,hd4,ih n kids[k] _ _ (by omega) (by omega) (by omega) (by omega),K_,ao (by omega) (by omega),K_,
      Ra hkz,List.flatMap_append,YP]
     simp
    ·rintro t rfl
     refine bY (a:=.inr (((kids.zip (bk s label mem kids)).take kids.length).flatMap λx=>pI d s x.1 label x.2)) ?_ ⟨_,rfl,by rw[WC (by omega)]⟩
     unfold jH;dsimp only;rw[hpl,am];rfl
   ·rintro k hk t rfl;obtain⟨f1,f2,f3⟩:=hkf kids[k] (Nq hk)
    have hlen:kids[k].length≤1000000:=by have:=f1.len;omega
    have hr:List.replicate (kids.length - k) (0:Int)=0::List.replicate (kids.length - (k+1)) 0:=by
     rw[show kids.length - k=(kids.length - (k+1))+1 by omega,QgJ]
    have row:∀(f:Int×Int×Int→Int)(v:Int),Rm (((kids.take k).map (Nn s label)).map f++List.replicate (kids.length - k) 0) k (kids.length - k) [v]=((kids.take k).map (Nn s label)).map f++[v]++List.replicate (kids.length - (k+1)) 0:=by
     intro f v
     have hl:(((kids.take k).map (Nn s label)).map f).length=k:=by simp;omega
     rw[J6 _ _ _ (by simp;omega) (by omega),QfS (by omega),WC (by omega),List.drop_append,hl,List.drop_of_length_le (by omega),hr]
     simp
    have hlr:∀(f:Int×Int×Int→Int),(((kids.take k).map (Nn s label)).map f++List.replicate (kids.length - k) (0:Int)).length=kids.length:=by intro f;simp;omega
    refine bY (a:=.inl (⟨((kids.take (k+1)).map (Nn s label)).map (·.1)++List.replicate (kids.length - (k+1)) 0,((kids.take (k+1)).map (Nn s label)).map (·.2.1)++List.replicate (kids.length - (k+1)) 0,((kids.take (k+1)).map (Nn s label)).map (·.2.2)++List.replicate (kids.length - (k+1)) 0⟩,LC ((k:Int)+1))) ?_ (.inl ⟨_,rfl,rfl⟩);unfold lZ;dsimp only;rw[ah hk,cond_true,aC hk,K_,La hk,K_,yY hsc hlen hl0 hl1,K_,qP h hlen,K_,vp h hlen,K_,G4 hsc hlen hl0 hl1,K_,hw k hk]
    simp only[hlr,Af (show k≤kids.length by omega) (MO _),K_]
    have s0:∀a b c:Int,OV 0 1 [a,b,c].length=some (0,1):=λ_ _ _=>rfl;have s1:∀a b c:Int,OV 1 2 [a,b,c].length=some (1,1):=λ_ _ _=>rfl;have s2:∀a b c:Int,OV 2 3 [a,b,c].length=some (2,1):=λ_ _ _=>rfl;have u0:∀a b c:Int,sub [a,b,c] 0 1 = [a]:=λ_ _ _=>rfl;have u1:∀a b c:Int,sub [a,b,c] 1 1 = [b]:=λ_ _ _=>rfl;have u2:∀a b c:Int,sub [a,b,c] 2 1 = [c]:=λ_ _ _=>rfl;simp only[s0,s1,s2,K_,u0,u1,u2,row];rw[Ra hk];simp only[Uo,Nr,Oj];rfl
   ·rintro t rfl
    refine bY (a:=.inr ⟨((kids.take kids.length).map (Nn s label)).map (·.1)++List.replicate (kids.length - kids.length) 0,((kids.take kids.length).map (Nn s label)).map (·.2.1)++List.replicate (kids.length - kids.length) 0,((kids.take kids.length).map (Nn s label)).map (·.2.2)++List.replicate (kids.length - kids.length) 0⟩) ?_ ⟨_,rfl,by simp⟩
    unfold lZ;dsimp only;rw[am];rfl
theorem rh:∀a:Str,Op.bytesLess a a=false
 | []=>rfl
 | x::a=>by
  unfold Op.bytesLess;rw[rh a]
  have:¬ x<x:=by rw[UInt8.lt_iff_toNat_lt];omega
  simp[this]
theorem vH:∀{a b c:Str},Op.bytesLess a b=true→Op.bytesLess b c=true→Op.bytesLess a c=true
 | _,[],_,h,_=>by simp[Op.bytesLess]at h
 | _,_::_,[],_,h=>by simp[Op.bytesLess]at h
 | [],y::b,z::c,_,_=>by simp[Op.bytesLess]
 | x::a,y::b,z::c,h1,h2=>by
  unfold Op.bytesLess at *;simp only[UG,decide_eq_true_eq,Ng,beq_iff_eq]at *;simp only[UInt8.lt_iff_toNat_lt]at *;rcases h1 with h1 | ⟨rfl,h1⟩
  ·rcases h2 with h2 | ⟨rfl,h2⟩
   ·left;omega
   ·left;exact h1
  ·rcases h2 with h2 | ⟨rfl,h2⟩
   ·left;exact h2
   ·right;exact⟨rfl,vH h1 h2⟩
theorem Bg:∀{a b:Str},Op.bytesLess a b=false→a≠b→Op.bytesLess b a=true
 | [],[],_,h=>absurd rfl h
 | [],_::_,h,_=>by simp[Op.bytesLess]at h
 | _::_,[],_,_=>by simp[Op.bytesLess]
 | x::a,y::b,h,hn=>by
  unfold Op.bytesLess at *;simp only[YT,decide_eq_false_iff_not,QeT,beq_eq_false_iff_ne,UG,decide_eq_true_eq,Ng,beq_iff_eq]at *;simp only[UInt8.lt_iff_toNat_lt]at *;by_cases hx:x=y
  ·subst hx;right
   refine⟨rfl,Bg ?_ (λe=>hn (by rw[e]))⟩
   rcases h.2 with h | h
   ·exact absurd rfl h
   ·exact h
  ·left;have:x.toNat≠y.toNat:=λe=>hx (UInt8.toNat_inj.1 e);omega
theorem DF{c:Lg}(h:Nj c):(c.Lh.map (·.LB)).Pairwise λx y=>Op.bytesLess x y=true:=by
 have hn:∀j (hj:j+1<c.Lh.length),Op.bytesLess c.Lh[j].LB c.Lh[j+1].LB=true:=by
  intro j hj
  have:=(h.q (j+1) hj).less c.Lh[j] (by omega) (by simp)
  unfold SH at this;rw[YT,beq_eq_false_iff_ne]at this;exact Bg this.1 this.2
 have key:∀j i (hij:i<j) (hj:j<c.Lh.length),Op.bytesLess (c.Lh[i]'(by omega)).LB c.Lh[j].LB=true:=by
  intro j
  induction j with
  | zero=>intro i hij;omega
  | succ j ih=>
   intro i hij hj;by_cases he:i=j
   ·subst he;exact hn i hj
   ·exact vH (ih i (by omega) (by omega)) (hn j hj)
 rw[QeH];intro i j hi hj hij;rw[QeP,QeP]
 exact key j i hij (by simpa using hj)
def Ext(p x:Str):Prop:=x=p∨∃r,x=p++46::r
theorem Ext.trans{p q x:Str}(h:Ext p q)(k:Ext q x):Ext p x:=by
 rcases k with rfl | ⟨r,rfl⟩
 ·exact h
 ·rcases h with rfl | ⟨t,rfl⟩
  ·exact .inr ⟨r,rfl⟩
  ·exact .inr ⟨t++46::r,by simp⟩
theorem Ap:∀(u a b:Str),Op.bytesLess (u++a) (u++b)=Op.bytesLess a b
 | [],_,_=>rfl
 | x::u,a,b=>by
  have e:Op.bytesLess (x::u++a) (x::u++b)=(decide (x<x)||(x == x&&Op.bytesLess (u++a) (u++b))):=rfl
  have:¬ x<x:=by rw[UInt8.lt_iff_toNat_lt];omega
  rw[e,decide_eq_false this,beq_self_eq_true,QfM,YH];exact Ap u a b
theorem Ga{α : Type}{p:α→Bool}:∀{l:List α},(∀x∈l,p x=true)→l.takeWhile p=l
 | [],_=>rfl
 | a::l,h=>by rw[List.takeWhile_cons,if_pos (h a (by simp)),Ga λx hx=>h x (by simp[hx])]
theorem Fe:∀{n m:Str},(∀c∈m,c≠46∧46≤c.toNat)→Op.bytesLess n m=true→∀{n' m':Str},Ext n n'→Ext m m'→Op.bytesLess n' m'=true
 | _,[],_,h,_,_,_,_=>by simp[Op.bytesLess]at h
 | [],y::m,hm,_,n',m',hn',hm'=>by
  have hy:=hm y (by simp)
  have hy2:(46:UInt8)<y:=by rw[UInt8.lt_iff_toNat_lt];have:(46:UInt8).toNat≠y.toNat:=λe=>hy.1 (UInt8.toNat_inj.1 e).symm;have e:(46:UInt8).toNat=46:=rfl;omega
  rcases hn' with rfl | ⟨r,rfl⟩<;>rcases hm' with rfl | ⟨t,rfl⟩<;>simp[Op.bytesLess,hy2]
 | x::n,y::m,hm,h,n',m',hn',hm'=>by
  have hh:∃n2,n'=x::n2∧Ext n n2:=by
   rcases hn' with rfl | ⟨r,rfl⟩
   ·exact⟨n,rfl,.inl rfl⟩
   ·exact⟨n++46::r,rfl,.inr ⟨r,rfl⟩⟩
  have hk:∃m2,m'=y::m2∧Ext m m2:=by
   rcases hm' with rfl | ⟨r,rfl⟩
   ·exact⟨m,rfl,.inl rfl⟩
   ·exact⟨m++46::r,rfl,.inr ⟨r,rfl⟩⟩
  obtain⟨n2,rfl,en⟩:=hh;obtain⟨m2,rfl,em⟩:=hk;unfold Op.bytesLess at h ⊢;simp only[UG,decide_eq_true_eq,Ng,beq_iff_eq]at h ⊢;rcases h with h | ⟨rfl,h⟩
  ·exact .inl h
  ·exact .inr ⟨rfl,Fe (λc hc=>hm c (by simp[hc])) h en em⟩
theorem xy{c:Lg}{Lf x:Str}(hx:x∈Ma c Lf):∃r,46∉r∧x=Lf++46::r:=by
 obtain⟨hp,q,hq,rfl,ha⟩:=eW hx;rcases v9 q.LB with⟨_,h⟩ | ⟨r,h1,h2⟩
 ·rw[ha]at h;exact absurd h hp
 ·rw[ha]at h2;exact⟨r,h1,h2⟩
theorem FT{c:Lg}(h:Nj c)(p:Str):(Ma c p).Pairwise λx y=>Op.bytesLess x y=true:=by
 unfold Ma;split
 ·exact List.Pairwise.nil
 ·exact(DF h).sublist (QdC.map _)
theorem Hp{c:Lg}(h:Nj c){Lf a b a' b':Str}(ha:a∈Ma c Lf)(hb:b∈Ma c Lf)(hl:Op.bytesLess a b=true)(ea:Ext a a')(eb:Ext b b'):Op.bytesLess a' b'=true:=by
 obtain⟨r,hr,rfl⟩:=xy ha;obtain⟨t,ht,rfl⟩:=xy hb
 have hch:∀c∈t,c≠46∧46≤c.toNat:=by
  intro x hx;obtain⟨_,q,hq,e,_⟩:=eW hb
  have h1:=(jP h hq).ch x (by rw[e];simp[hx])
  have h2:=h.nd q hq x (by rw[e];simp[hx])
  refine⟨λe=>ht (by rw[← e];exact hx),?_⟩
  have:x.toNat≠45:=λe=>h2 (UInt8.toNat_inj.1 e);omega
 have cut:∀{r a':Str},Ext (Lf++46::r) a'→∃a2,a'=(Lf++[46])++a2∧Ext r a2:=by
  intro r a' e;rcases e with rfl | ⟨u,rfl⟩
  ·exact⟨r,by simp,.inl rfl⟩
  ·exact⟨r++46::u,by simp,.inr ⟨u,rfl⟩⟩
 obtain⟨a2,rfl,e1⟩:=cut ea;obtain⟨b2,rfl,e2⟩:=cut eb;rw[Ap]
 have hl2:Op.bytesLess ((Lf++[46])++r) ((Lf++[46])++t)=true:=by simpa using hl
 rw[Ap]at hl2;exact Fe hch hl2 e1 e2
theorem Ad{N:Nat}{s:JG}(h:Inv N s)(label:Int):∀(d:Nat)(Lf:Str)(mem:Int),∀x∈pI d s Lf label mem,Ext Lf x.LB
 | 0,Lf,mem,x,hx=>by
  have:x=⟨Lf,mem⟩:=by simpa[pI]using hx
  subst this;exact .inl rfl
 | d+1,Lf,mem,x,hx=>by
  unfold pI at hx;split at hx
  ·have:x=⟨Lf,mem⟩:=by simpa using hx
   subst this;exact .inl rfl
  ·obtain⟨y,hy,hxy⟩:=QhA.1 hx;have hk:y.1∈Ma s.Lg Lf:=(List.of_mem_zip (a:=y.1) (b:=y.2) hy).1;obtain⟨r,_,e⟩:=xy hk;exact Ext.trans (.inr ⟨r,e⟩) (Ad h label d y.1 y.2 x hxy)
theorem KA{α β : Type}{R:α→α→Prop}{l:List α}{m:List β}(h:l.Pairwise R):(l.zip m).Pairwise λa b=>R a.1 b.1:=by
 rw[QeH]at h ⊢;intro i j hi hj hij;rw[YP,YP]
 exact h i j (by rw[QeW]at hi;omega) (by rw[QeW]at hj;omega) hij
theorem uL{N:Nat}{s:JG}(h:Inv N s)(label:Int):∀(d:Nat)(Lf:Str)(mem:Int),(pI d s Lf label mem).Pairwise λx y=>Op.bytesLess x.LB y.LB=true
 | 0,Lf,mem=>by simp[pI]
 | d+1,Lf,mem=>by
  unfold pI;split
  ·simp
  ·rw[List.pairwise_flatMap];refine⟨λx _=>uL h label d x.1 x.2,?_⟩;have hz:=KA (m:=bk s label mem (Ma s.Lg Lf)) (FT h.cf Lf);refine List.Pairwise.imp_of_mem ?_ hz;intro a b ha hb hab x hx y hy;exact Hp h.cf (List.of_mem_zip (a:=a.1) (b:=a.2) ha).1 (List.of_mem_zip (a:=b.1) (b:=b.2) hb).1 hab (Ad h label d _ _ x hx) (Ad h label d _ _ y hy)
theorem HK(s:JG)(label mem:Int)(kids:List Str):∀x∈kids.zip (bk s label mem kids),0≤x.2∧x.2≤Mv (Nn s label x.1).2.1:=by
 intro x hx;obtain⟨k,hk,rfl⟩:=UL hx
 have hk1:k<kids.length:=by rw[su]at hk;exact hk
 have hk2:k<(bk s label mem kids).length:=by rw[ol];exact hk1
 rw[YP]
 have:=G8 mem (kids.map (Nn s label)) k (by rw[PI];exact hk1) hk2
 rw[QeP]at this;exact this
theorem wj:∀(l:List Mr),(∀x∈l,0≤x.Mem)→0≤(l.map (·.Mem)).sum
 | [],_=>by simp
 | a::l,h=>by
  have h1:=h a (by simp)
  have h2:=wj l λx hx=>h x (by simp[hx])
  simp only[Nr,Wn];omega
theorem Ag(f:Str×Int→List Mr):∀(l:List (Str×Int)),(∀x∈l,((f x).map (·.Mem)).sum≤x.2)→((l.flatMap f).map (·.Mem)).sum≤(l.map (·.2)).sum
 | [],_=>by simp
 | a::l,h=>by
  have h1:=h a (by simp)
  have h2:=Ag f l λx hx=>h x (by simp[hx])
  simp only[QfU,Uo,List.sum_append,Nr,Wn];omega
theorem A9(s:JG)(label:Int):∀(d:Nat)(Lf:Str)(mem:Int),0≤mem→((pI d s Lf label mem).map (·.Mem)).sum≤mem∧∀x∈pI d s Lf label mem,0≤x.Mem
 | 0,Lf,mem,h0=>by simp[pI,h0]
 | d+1,Lf,mem,h0=>by
  unfold pI;split
  ·simp[h0]
  ·have hb:=HK s label mem (Ma s.Lg Lf);constructor
   ·refine Int.le_trans (Ag _ _ λx hx=>(A9 s label d x.1 x.2 (hb x hx).1).1) ?_;rw[yc (ol s label mem _).symm];exact Fs h0 _
   ·intro x hx;obtain⟨y,hy,hxy⟩:=QhA.1 hx;exact(A9 s label d y.1 y.2 (hb y hy).1).2 x hxy
theorem GO(l:List Mr)(hl:l.length≤4096)(hr:l.Pairwise λx y=>Op.bytesLess x.LB y.LB=true):loop (bh l) ([],0)=some l:=by
 have h:=az (Q:=λx=>x=l) (λ(t:List Mr) i=>(t,i)) l.length (λk t=>t=l.take k) (step:=bh l) (by omega) ?_ ?_ (s:=[]) (by simp)
 ·obtain⟨x,e,rfl⟩:=h;exact e
 ·rintro k hk t rfl
  have hlt:(l.take k).length=k:=by rw[Ox];omega
  have ht:(l.take k).takeWhile (λy=>Op.bytesLess y.LB l[k].LB)=l.take k:=by
   refine Ga λy hy=>?_;obtain⟨j,hj,rfl⟩:=UL hy;rw[List.getElem_take]
   exact(QeH.1 hr) j k (by omega) hk (by omega)
  have ew:=kL (l.take k) (λy=>Op.bytesLess y.LB l[k].LB) (step:=bH l (l.take k,(k:Int))) (by omega) ?_ ?_
  ·rw[ht,hlt]at ew;refine bY (a:=.inl (l.take (k+1),LC ((k:Int)+1))) ?_ (.inl ⟨_,rfl,rfl⟩);unfold bh;dsimp only;rw[ah hk,cond_true,ew,K_,hlt]
   have i0:OV 0 (k:Int) k=some (0,k):=by have:=Af (a:=0) (b:=k) (n:=k) (by omega) (MO _);simpa using this
   rw[i0,K_]
   have u0:sub (l.take k) 0 k=l.take k:=by unfold sub;rw[QeC,List.take_take,QfH]
   dsimp only
   rw[u0,ao (by simp;omega) (by omega),K_,aC hk,K_,La hk,K_,ao (by simp;omega) (by omega),K_,Af (MO _) (MO _),K_]
   have u1:sub (l.take k) k (k - k) = []:=by simp[sub]
   dsimp only
   rw[u1,ao (by simp;omega) (by omega),K_,Ra hk]
   simp
  ·intro j hj;unfold bH;dsimp only;rw[ah hj,cond_true,aC hj,K_,La hj,K_,aC hk,K_,La hk,K_,K_]
   cases Op.bytesLess (l.take k)[j].LB l[k].LB<;>rfl
  ·unfold bH;dsimp only;rw[am];rfl
 ·rintro t rfl
  refine bY (a:=.inr (l.take l.length)) ?_ ⟨_,rfl,by rw[RB]⟩
  unfold bh;dsimp only;rw[am];rfl
def L_(s:JG)(label:Int):List Mr:=pI 3 s root label (gk s label).Mem
theorem mY{N:Nat}{s:JG}(h:Inv N s)(label:Int):(L_ s label).length≤4096:=se s label 3 root _ (mn h _) (mn h)
theorem tf{N:Nat}{s:JG}(h:Inv N s)(label:Int):cj s label=some (L_ s label):=by
 unfold cj kg;rw[nX h.sb,K_]
 have e:aV 64 s ([114,111,111,116]:List UInt8) label (gk s label).Mem=some (L_ s label):=H4 h label 3 63 root _ (by decide) (by omega) (by omega)
 rw[e,K_,GO _ (mY h label) (uL h label 3 root _)];rfl
theorem ub{N:Nat}{s:JG}(h:Inv N s){label:Int}(hl0:0≤label)(hl1:label<s.Lg.Lm.length):lH s label=some (L_ s label):=by
 unfold lH rC;rw[tA h.sc,K_]
 have e:eV 64 s ([114,111,111,116]:List UInt8) label (gk s label).Mem 1=some (L_ s label):=EL h hl0 hl1 3 63 root _ 1 (by decide) (by omega) (by omega) (by omega)
 rw[e];rfl
theorem nV{τ ρ σ : Type}(mk:σ→Int→τ)(step:τ→Option (τ ⊕ ρ))(n:Nat)(Inv:Nat→σ→Prop)(fin:σ→ρ)
  (h1:∀k,k<n→∀s,Inv k s→∃s',step (mk s (k:Int))=some (.inl (mk s' ((k+1:Nat):Int)))∧Inv (k+1) s')
  (h2:∀s,Inv n s→step (mk s (n:Int))=some (.inr (fin s))) {s:σ} (h0:Inv 0 s):∃s',loop step (mk s 0)=some (fin s')∧Inv n s':=by
 have key:∀(m k:Nat),m+k=n→∀s,Inv k s→∃s',loop step (mk s (k:Int))=some (fin s')∧Inv n s':=by
  intro m
  induction m with
  | zero=>
   intro k hk s hs
   have hk:k=n:=by omega
   subst hk
   exact⟨s,by rw[aP,h2 s hs],hs⟩
  | succ m ih=>
   intro k hk s hs
   obtain⟨s',e,hs'⟩:=h1 k (by omega) s hs
   rw[aP,e]
   exact ih (k+1) (by omega) s' hs'
 exact key n 0 rfl s h0
theorem mN{α : Type}{l:List α}{k:Nat}(h:k<l.length):idx l (k:Int)=some l[k]:=by
 unfold idx
 rw[if_pos (by omega),TG,La h]
theorem KG{α : Type}{b:Nat}{l m:List α}(h:(l++m).length≤1000000)(hb:b≤100000):app b l m=some (l++m):=by unfold app;rw[if_pos];have:(l++m).length*b≤1000000*100000:=QeO h hb;unfold maxLen;omega
theorem HF{ρ : Type}(step:Int→Option (Int ⊕ ρ))(n:Nat)(p:Nat→Bool)(bad:Nat→ρ)(good:ρ)(h1:∀k:Nat,k<n→step k=some (bif p k then .inl ((k+1:Nat):Int)else .inr (bad k)))(h2:step (n:Int)=some (.inr good)) :
  ((∀i,i<n→p i=true)∧loop step 0=some good)∨∃i,i<n∧p i=false∧loop step 0=some (bad i):=by
 have key:∀(m k:Nat),m+k=n→((∀i,k≤i→i<n→p i=true)∧loop step (k:Int)=some good)∨∃i,i<n∧p i=false∧loop step (k:Int)=some (bad i):=by
  intro m
  induction m with
  | zero=>
   intro k hk
   have hk:k=n:=by omega
   subst hk
   exact .inl ⟨λi h1 h2=>by omega,by rw[aP,h2]⟩
  | succ m ih=>
   intro k hk
   have hk':k<n:=by omega
   cases hp:p k with
   | true=>
    rw[aP,h1 k hk',hp];simp only[cond_true]
    rcases ih (k+1) (by omega)with⟨a,b⟩ | h
    ·refine .inl ⟨λi h1 h2=>?_,b⟩;by_cases e:i=k
     ·subst e;exact hp
     ·exact a i (by omega) h2
    ·exact .inr h
   | false=>refine .inr ⟨k,hk',hp,?_⟩;rw[aP,h1 k hk',hp];rfl
 rcases key n 0 rfl with⟨a,b⟩ | h
 ·exact .inl ⟨λi hi=>a i (by omega) hi,b⟩
 ·exact .inr h
theorem lM{α : Type}{b:Nat}{l:List α}(h:l.length≤1000000)(hb:b≤100000):app b [] l=some l:=by
 have:=KG (b:=b) (l:=[]) (m:=l) (by simpa using h) hb
 simpa using this
theorem KH{α : Type}{b:Nat}{n:Nat}{z:α}(h:n≤1000000)(hb:b≤100000):Wh b (n:Int) (n:Int) z=some (List.replicate n z):=by
 unfold Wh;rw[if_pos]
 ·simp
 ·have:b*n≤100000*1000000:=QeO hb h
  refine⟨by omega,by omega,?_,?_⟩<;>simp only[TG]<;>unfold maxLen at * <;> omega
theorem JH{α : Type}{l m:List α}(h:l.length=m.length):Rm l 0 l.length m=m:=by unfold Rm;rw[h,RB,QfH,← h];simp
structure WX(a:LM):Prop where
 asks:a.Mq.length≤1000000
 grants:a.MC.length≤1000000
 kills:a.Np.length≤1000000
 told:a.Told.length≤1000000
 lost:a.NW.length≤1000000
structure Small(s:JG):Prop where
 labels:s.Lg.Lm.length≤1000
 queues:s.Lg.Lh.length≤1000
 caps:∀q∈s.Lg.Lh,q.MS.length≤1000
 nodes:s.Lu.length≤1000
 apps:s.Lv.length≤1000
 app:∀a∈s.Lv,WX a
 V6:s.Kl.length≤1000
 slots:s.LH.length≤1000
 plans:s.LJ.length≤1000
theorem uX{l:List Int}(h:l.length≤1000000):mS l=some l:=by
 unfold mS
 rw[KH (by omega) (by omega)]
 simp only[K_]
 rw[JH (by simp)]
theorem t_{a:LM}(h:WX a):qR a=some a:=by
 unfold qR vQ
 rw[lM (by have:=h.asks;omega) (by omega),uX h.grants,uX h.kills,uX h.told,uX h.lost]
 rfl
theorem Inv.small{N:Nat}{s:JG}(h:Inv N s)(hN:N≤1000000):Small s:=by
 have c:=h.cf;have h1:=c.lab;have h2:=c.qs;have h3:=h.nl;have h4:=h.al;have h5:=h.cl;have h6:=h.sl;have h7:=h.pl
 refine⟨by omega,by omega,?_,by omega,by omega,?_,by omega,by omega,by omega⟩
 ·intro q hq;obtain⟨i,hi,rfl⟩:=UL hq;have:=(c.q i hi).caps;omega
 ·intro a ha;have:=h.ak a ha;have k1:=this.al;have k2:=this.gr;have k3:=this.ki;have k4:=this.to;have k5:=this.lo
  exact⟨by omega,by omega,by omega,by omega,by omega⟩
theorem yz{s:JG}(hn:s.Lv.length≤1000)(i:Int):(∃k,∃(hk:k<s.Lv.length),M9 s i=some s.Lv[k]∧pj s i=some (k:Int))∨(M9 s i=none∧pj s i=some (-1)):=by
 unfold pj M9 v8
 have e:=sS (λi=>i) s.Lv (λx=>x.Id == i) (λk=>(.inl k:Int ⊕ Unit)) (.inr ()) (step:=nG s.Lv (λa'=>qe a'.1 i)) (by omega) ?_ ?_ ?_
 ·rcases e with⟨k,hk,e1,e2⟩ | ⟨e1,e2⟩
  ·exact .inl ⟨k,hk,e1,by rw[e2];rfl⟩
  ·exact .inr ⟨e1,by rw[e2];rfl⟩
 ·intro k hk hp;unfold nG qe;rw[ah hk,ai hk];simp only[cond_true,K_,hp,cond_false]
 ·intro k hk hp;unfold nG qe;rw[ah hk,ai hk];simp only[cond_true,K_,hp]
 ·unfold nG;rw[am];rfl
theorem vi{s:JG}(h:Small s)(i:Int):nZ s i=some ((M9 s i).elim (Yy,false) λx=>(x,true)):=by
 unfold nZ;rcases yz h.apps i with⟨k,hk,e1,e2⟩ | ⟨e1,e2⟩
 ·rw[e2,e1];simp only[K_,Option.elim_some]
  rw[decide_eq_false (by omega),cond_false,ai hk,K_,t_ (h.app _ (Nq hk))]
  rfl
 ·rw[e2,e1];rfl
section
variable{α κ : Type}[DecidableEq κ][BEq κ][LawfulBEq κ]{key:α→κ}
theorem oy{q q':κ}:∀{l:List α}{y z:α},key y=q'→Oi (λx=>q == key x) (OQ (λx=>q' == key x) l y) z=if q=q' then y else Oi (λx=>q == key x) l z
 | [],y,z,hy=>by
  unfold Oi OQ;subst hy;by_cases h:q=key y
  ·rw[if_pos h];simp[h]
  ·rw[if_neg h]
   have:(q == key y)=false:=by rw[beq_eq_false_iff_ne];exact h
   simp[List.find?,this]
 | x::l,y,z,hy=>by
  have ih:=oy (q:=q) (l:=l) (y:=y) (z:=z) hy;subst hy;unfold OQ
  cases hx:key y == key x with
  | true=>
   rw[cond_true]
   have hxy:key y=key x:=by simpa using hx
   unfold Oi;by_cases h:q=key y
   ·rw[if_pos h];simp[h]
   ·rw[if_neg h]
    have h1:(q == key y)=false:=by rw[beq_eq_false_iff_ne];exact h
    have h2:(q == key x)=false:=by rw[beq_eq_false_iff_ne,← hxy];exact h
    simp[List.find?,h1,h2]
  | false=>
   rw[cond_false];unfold Oi at ih ⊢
   cases hq:q == key x with
   | true=>
    have hqx:q=key x:=by simpa using hq
    have hne:q≠key y:=λe=>by rw[beq_eq_false_iff_ne]at hx;exact hx (e▸hqx)
    rw[if_neg hne];simp[List.find?,hq]
   | false=>simp only[List.find?,hq];exact ih
end
section
variable{α κ : Type}[BEq κ][LawfulBEq κ]{key:α→κ}
theorem rn{q q':κ}:∀{l:List α}{y:α},key y=q'→O6 (λx=>q == key x) (OQ (λx=>q' == key x) l y)=(q == q'||O6 (λx=>q == key x) l)
 | [],y,hy=>by subst hy;simp[O6,OQ]
 | x::l,y,hy=>by
  have ih:=rn (l:=l) (y:=y) (q:=q) hy;subst hy;unfold OQ
  cases hx:key y == key x with
  | true=>
   rw[cond_true]
   have hxy:key y=key x:=by simpa using hx
   simp[O6,hxy]
  | false=>
   rw[cond_false];unfold O6 at ih ⊢;simp only[List.any_cons,ih]
   cases q == key x<;>cases q == key y<;>simp
end
section
variable{α : Type}
end
theorem si:∀{l1 l2:List Nat},l1.Nodup→(∀x∈l1,x∈l2)→l1.length≤l2.length
 | [],_,_,_=>QeQ _
 | a::l,l2,hn,hs=>by
  have hn':=Un.1 hn
  have h:=si (l2:=l2.erase a) hn'.2 (λx hx=>by
   have hxa:x≠a:=λe=>hn'.1 (e▸hx)
   exact(List.mem_erase_of_ne hxa).2 (hs x (by simp[hx])))
  have ha:=hs a (by simp)
  rw[QgN ha]at h;have:=QeR ha;simp only[P5];omega
theorem Hy{n m:Nat}{seen:List Nat}(hn:seen.Nodup)(hl:∀x∈seen,x<n)(h:m+1+seen.length=n):∃k,k<n∧k∉seen:=by
 refine Classical.byContradiction λhc=>?_
 have hall:∀k∈List.range n,k∈seen:=by intro k hk;refine Classical.byContradiction λhk'=>hc ⟨k,QfZ.1 hk,hk'⟩
 have:=si QgZ hall;simp at this;omega
theorem zy{τ α ω : Type}(ob:ω){step:ω→τ→α→Option τ}{l:List α}:∀{m:Nat}{seen:List Nat}{t r r':τ},seen.Nodup→(∀x∈seen,x<l.length)→m+seen.length=l.length→Sg step l m seen t r→Sg step l m seen t r'→r'=r
 | 0,seen,t,r,r',_,_,_,h,h'=>by have h1:t=r:=h;have h2:t=r':=h';rw[← h1,← h2]
 | m+1,seen,t,r,r',hn,hl,hc,h,h'=>by
  obtain⟨k,hk,hks⟩:=Hy hn hl hc;obtain⟨t1,a1,b1⟩:=h k l[k] hks (La hk);obtain⟨t2,a2,b2⟩:=h' k l[k] hks (La hk)
  have:t1=t2:=by have:=a1 ob;rw[a2 ob]at this;exact(Option.some.inj this).symm
  subst this;refine zy ob ?_ ?_ ?_ b1 b2
  ·rw[Xd]
   exact⟨hn,by simp,λx hx y hy=>by rw[Ld]at hy;subst hy;exactλe=>hks (e▸hx)⟩
  ·intro x hx;rcases N_.1 hx with hx | hx
   ·exact hl x hx
   ·rw[Ld]at hx;subst hx;exact hk
  ·simp;omega
theorem HV{τ α ω : Type}(ob:ω){t0:ω→Option τ}{step:ω→τ→α→Option τ}{l:List α}(I:List Nat→τ→Prop){t r:τ}(h0:∀ob,t0 ob=some t)(hI:I [] t)
  (hstep:∀seen t k (hk:k<l.length),I seen t→k∉seen→∃t',(∀ob,step ob t l[k]=some t')∧I (seen++[k]) t') (hend:∀seen t,I seen t→(∀k,k<l.length→k∈seen)→t=r):rng t0 step l=some r:=by
 have key:∀(m:Nat)(seen:List Nat)(t:τ),seen.Nodup→(∀x∈seen,x<l.length)→m+seen.length=l.length→I seen t→Sg step l m seen t r:=by
  intro m
  induction m with
  | zero=>
   intro seen t hn hl hc hi;refine hend seen t hi λk hk=>?_;refine Classical.byContradiction λhks=>?_;have h1:(k::seen).Nodup:=Un.2 ⟨hks,hn⟩
   have h2:=si (l2:=List.range l.length) h1 (λx hx=>by
    rw[QfZ];rcases NH.1 hx with rfl | hx
    ·exact hk
    ·exact hl x hx)
   simp at h2;omega
  | succ m ih=>
   intro seen t hn hl hc hi k x hks hx;have hk:k<l.length:=(Lb.1 hx).1;have hxe:l[k]=x:=(Lb.1 hx).2;obtain⟨t',a,b⟩:=hstep seen t k hk hi hks;rw[hxe]at a;refine⟨t',a,ih _ _ ?_ ?_ ?_ b⟩
   ·rw[Xd]
    exact⟨hn,by simp,λa ha b hb=>by rw[Ld]at hb;subst hb;exactλe=>hks (e▸ha)⟩
   ·intro x hx;rcases N_.1 hx with hx | hx
    ·exact hl x hx
    ·rw[Ld]at hx;subst hx;exact hk
   ·simp;omega
 have h:=key l.length [] t QeB (by simp) (by simp) hI
 have hx:∃r t,(∀ob,t0 ob=some t)∧Sg step l l.length [] t r:=⟨r,t,h0,h⟩;unfold rng;rw[dif_pos hx];obtain⟨t',h1,h2⟩:=hx.choose_spec
 have:t'=t:=by have:=h1 ob;rw[h0 ob]at this;exact(Option.some.inj this).symm
 subst this
 rw[zy ob QeB (by simp) (by simp) h h2]
theorem Hl(x y:Int):lS x y=some (if x<y then -1 else if y<x then 1 else 0):=by
 unfold lS m_;simp only[K_,bne_self_eq_false,cond_false];by_cases h:x<y
 ·rw[decide_eq_true h,if_pos h];rfl
 ·rw[decide_eq_false h,if_neg h,cond_false];by_cases h2:y<x
  ·rw[if_pos h2,decide_eq_true (show x>y from h2)];rfl
  ·rw[if_neg h2,decide_eq_false (show¬ x>y from h2)];rfl
theorem GF(x y:Str):j_ x y=some (if Op.bytesLess x y=true then -1 else if x=y then 0 else 1):=by
 unfold j_ lk;simp only[K_,beq_self_eq_true,PG,cond_false]
 cases h:Op.bytesLess x y with
 | true=>rfl
 | false=>
  simp only[cond_false,R3,if_false];unfold SH;rw[h,QfM];by_cases e:x=y
  ·rw[if_pos e];subst e;simp
  ·rw[if_neg e]
   have:(x == y)=false:=by rw[beq_eq_false_iff_ne];exact e
   rw[this];rfl
theorem HN(x y:Int):pH [x,y]=some (if x≠0 then x else y):=by
 unfold pH
 have e0:jx [x,y] 0=some (bif x != 0 then .inr (.inl x)else .inl 1):=by
  unfold jx
  rw[show idx [x,y] 0=some x from rfl]
  simp only[K_]
  cases x != 0<;>rfl
 have e1:jx [x,y] 1=some (bif y != 0 then .inr (.inl y)else .inl 2):=by
  unfold jx
  rw[show idx [x,y] 1=some y from rfl]
  simp only[K_]
  cases y != 0<;>rfl
 have e2:jx [x,y] 2=some (.inr (.inr ())):=rfl;rw[aP,e0];by_cases hx:x=0
 ·subst hx;simp only[bne_self_eq_false,cond_false];rw[aP,e1];by_cases hy:y=0
  ·subst hy;simp only[bne_self_eq_false,cond_false];rw[aP,e2];rfl
  ·have:(y != 0)=true:=by simp[hy]
   rw[this];simp
 ·have:(x != 0)=true:=by simp[hx]
  rw[this];simp[hx]
def oval(k:L9)(p:Str):Int:=(Oi (λx:Mc=>p == x.k) k.over ⟨p,0⟩).v
def nval(k:L9)(i:Int):Int:=(Oi (λx:NP=>i == x.k) k.Oc ⟨i,0⟩).v
def R8(k:L9)(i:Int):Bool:=O6 (λx:L6=>i == x.k) k.leaf
def lval(k:L9)(i:Int):Str:=(Oi (λx:L6=>i == x.k) k.leaf ⟨i,[]⟩).v
theorem Ek(k:L9)(c:Lx):b8 k c=some ⟨k.s,k.label,OQ (λx:Mc=>lval k c.Id == x.k) k.over ⟨lval k c.Id,LC (oval k (lval k c.Id) - c.LY.Mem)⟩,k.leaf,OQ (λx:NP=>c.Id == x.k) k.Oc ⟨c.Id,LC (nval k c.Id+1)⟩,LC (k.gone+c.LY.Mem)⟩:=rfl
def YE(k:L9)(a b:Str):Prop:=oval k b<oval k a∨(oval k b=oval k a∧Op.bytesLess a b=true)
theorem EJ{k:L9}{a b c:Str}(h:YE k a b)(h':YE k b c):YE k a c:=by
 rcases h with h | ⟨h,l⟩<;>rcases h' with h' | ⟨h',l'⟩
 ·exact .inl (by omega)
 ·exact .inl (by omega)
 ·exact .inl (by omega)
 ·exact .inr ⟨by omega,vH l l'⟩
theorem KO{k:L9}{a b:Str}(h:¬ YE k a b)(h':¬ YE k b a):a=b:=by
 unfold YE at h h';refine Classical.byContradiction λhne=>?_;rw[not_or]at h h'
 have he:oval k a=oval k b:=by omega
 have h1:Op.bytesLess a b≠true:=λe=>h.2 ⟨he.symm,e⟩;have h2:Op.bytesLess b a≠true:=λe=>h'.2 ⟨he,e⟩
 exact h2 (Bg (by simpa using h1) hne)
theorem zD(k:L9)(ob:Obj)(t:Str)(e:Lr)(ht:t≠[]):∃b:Bool,(b=true↔YE k e.k t)∧bV k ob t e=some (bif b then e.k else t):=by
 have h0:(t == ([]:List UInt8))=false:=by rw[beq_eq_false_iff_ne];exact ht
 refine⟨decide ((if(if oval k t<oval k e.k then(-1:Int)else if oval k e.k<oval k t then 1 else 0)≠0 then(if oval k t<oval k e.k then(-1:Int)else if oval k e.k<oval k t then 1 else 0)else(if Op.bytesLess e.k t=true then(-1:Int)else if e.k=t then 0 else 1))<0),?_,?_⟩
 ·rw[decide_eq_true_eq];unfold YE;by_cases h1:oval k t<oval k e.k
  ·simp[h1]
  ·by_cases h2:oval k e.k<oval k t
   ·simp[h1,h2];omega
   ·have he:oval k t=oval k e.k:=by omega
    simp only[h1,h2,if_false,ne_eq,not_true_eq_false,he,false_or,true_and]
    cases hb:Op.bytesLess e.k t with
    | true=>simp
    | false=>
     simp only[R3,if_false,iff_false]
     by_cases hq:e.k=t<;>simp[hq]
 ·unfold bV;rw[h0,cond_false];dsimp only;have e1:(Oi (λx6:Mc=>t == x6.k) k.over (⟨t,0⟩:Mc)).v=oval k t:=rfl;have e2:(Oi (λx7:Mc=>e.k == x7.k) k.over (⟨e.k,0⟩:Mc)).v=oval k e.k:=rfl;rw[e1,e2,Hl,K_,GF,K_,HN,K_,K_];generalize decide (_<(0:Int))=q
  cases q<;>rfl
theorem E7(k:L9)(ob:Obj)(e:Lr):bV k ob [] e=some e.k:=rfl
def Bst(k:L9)(b:List Lr)(seen:List Nat)(t:Str):Prop:=
 (seen = []∧t = [])∨(t≠[]∧(∃j,j∈seen∧∃hj:j<b.length,b[j].k=t)∧∀j,j∈seen→∀hj:j<b.length,¬ YE k b[j].k t)
theorem zE{k:L9}{b:List Lr}(hb:∀e∈b,e.k≠[])(seen:List Nat)(t:Str)(j:Nat)(hj:j<b.length)(h:Bst k b seen t):∃t',(∀ob,bV k ob t b[j]=some t')∧Bst k b (seen++[j]) t':=by
 have irr:∀p,¬ YE k p p:=by
  intro p hp;rcases hp with hp | ⟨_,hp⟩
  ·omega
  ·rw[rh]at hp;cases hp
 rcases h with⟨rfl,rfl⟩ | ⟨h1,h2,h3⟩
 ·refine⟨b[j].k,λob=>E7 k ob _,.inr ⟨hb _ (Nq hj),⟨j,by simp,hj,rfl⟩,?_⟩⟩
  intro i hi hi';simp only[PX,Ld]at hi;subst hi;exact irr _
 ·obtain⟨q,hq,_⟩:=zD k (.deferred none) t b[j] h1
  have hstep:∀ob,bV k ob t b[j]=some (bif q then b[j].k else t):=by
   intro ob;obtain⟨q',hq',e⟩:=zD k ob t b[j] h1
   have:q'=q:=by
    cases q<;>cases q'<;>simp_all
   rw[e,this]
  refine⟨_,hstep,?_⟩
  cases hqq:q with
  | true=>
   have apw:=hq.1 hqq
   refine .inr ⟨hb _ (Nq hj),⟨j,by simp,hj,rfl⟩,?_⟩
   intro i hi hi' hbi;rcases N_.1 hi with hi | hi
   ·exact h3 i hi hi' (EJ hbi apw)
   ·rw[Ld]at hi;subst hi;exact irr _ hbi
  | false=>
   have hnb:¬ YE k b[j].k t:=λhx=>by rw[hq.2 hx]at hqq;cases hqq
   obtain⟨i,hi,hi',e⟩:=h2
   refine .inr ⟨h1,⟨i,by simp[hi],hi',e⟩,?_⟩
   intro i hi hi';rcases N_.1 hi with hi | hi
   ·exact h3 i hi hi'
   ·rw[Ld]at hi;subst hi;exact hnb
theorem Hv{k:L9}{b:List Lr}(hb:∀e∈b,e.k≠[]):Gv (rng (ω:=Obj) (λ_=>some ([]:List UInt8)) (bV k) b) λr=>Bst k b (List.range b.length) r:=by
 have pre:∀n,n≤b.length→∃t,Bst k b (List.range n) t:=by
  intro n
  induction n with
  | zero=>intro _;exact⟨[],.inl ⟨rfl,rfl⟩⟩
  | succ n ih=>
   intro hn
   obtain⟨t,ht⟩:=ih (by omega)
   obtain⟨t',_,ht'⟩:=zE hb _ t n (by omega) ht
   exact⟨t',by rw[List.range_succ];exact ht'⟩
 obtain⟨r,hr⟩:=pre b.length (MO _);refine⟨r,HV (.deferred none) (Bst k b) (t:=[]) (λ_=>rfl) (.inl ⟨rfl,rfl⟩) (λseen t j hj hi _=>zE hb seen t j hj hi) ?_,hr⟩;intro seen t hi hall;rcases hi with⟨rfl,rfl⟩ | ⟨h1,⟨j,hj,hj',rfl⟩,h3⟩
 ·have:b.length=0:=by
   refine Classical.byContradiction λhne=>?_
   have:=hall 0 (by omega)
   simp at this
  rcases hr with⟨_,hr⟩ | ⟨_,⟨j,_,hj,_⟩,_⟩
  ·exact hr.symm
  ·omega
 ·rcases hr with⟨hr,_⟩ | ⟨_,⟨i,hi,hi',rfl⟩,k3⟩
  ·have:=congrArg List.length hr;rw[List.length_range,Xb]at this;omega
  ·exact KO (k3 j (QfZ.2 hj') hj') (h3 i (hall i hi') hi')
structure LK(s:JG)(label:Int)(n:Nat)(k:L9):Prop where
 st:k.s=s
 lab:k.label=label
 leaf:∀id,R8 k id=true→∃c∈s.Kl,c.Id=id∧c.Ll=label∧∃a∈s.Lv,a.Id=c.LM∧lval k id=a.Ls
 ov:∀p,0<oval k p→∃x∈L_ s label,x.LB=p∧x.Mem<(MQ s p label true 0).Mem
 nb:∀id,0≤nval k id∧nval k id≤n
 ob:∀p,-(4503599627370496+n*1073741824)≤oval k p∧oval k p≤4503599627370496
 gb:0≤k.gone∧k.gone≤n*1073741824
theorem LK.mono{s:JG}{label:Int}{n m:Nat}{k:L9}(h:LK s label n k)(hm:n≤m):LK s label m k:=by
 refine⟨h.st,h.lab,h.leaf,h.ov,λid=>?_,λp=>?_,?_⟩
 ·have:=h.nb id;omega
 ·have:=h.ob p;omega
 ·have:=h.gb;omega
theorem xk:∀{l:List Mr}{x:Mr},(∀y∈l,0≤y.Mem)→x∈l→x.Mem≤(l.map (·.Mem)).sum
 | a::l,x,h,hx=>by
  have h1:=wj l λy hy=>h y (by simp[hy])
  have h2:=h a (by simp)
  rw[Nr,Wn];rcases NH.1 hx with rfl | hx
  ·omega
  ·have:=xk (λy hy=>h y (by simp[hy])) hx
   omega
section
variable{N:Nat}{s:JG}{label:Int}
theorem mJ(h:Inv N s){x:Mr}(hx:x∈L_ s label):(0≤x.Mem∧x.Mem≤12884901888)∧x.LB.length≤1000000∧Nu s.Lg x.LB=true:=by
 have htb:=mR h.sb label;have hnl:=h.nl
 have hT:0≤(gk s label).Mem∧(gk s label).Mem≤12*1073741824:=by unfold VB at htb;omega
 have hsum:=A9 s label 3 root _ hT.1;have hdef:L_ s label=pI 3 s root label (gk s label).Mem:=rfl;rw[← hdef]at hsum;have h1:=xk hsum.2 hx;have h2:=hsum.2 x hx;obtain⟨y,ey,hy⟩:=rE h label;rw[tf h]at ey;cases ey;have h3:=(kC h.cf (hy.2 x hx)).len
 exact⟨⟨h2,by omega⟩,by omega,hy.2 x hx⟩
theorem jI(h:Inv N s)(p:Str):0≤(MQ s p label true 0).Mem∧(MQ s p label true 0).Mem≤214748364800:=(u9 h label p).1
theorem Gs{α : Type}{l:List α}{k:Nat}(h:k<l.length){x:α}(hx:x∈l.take (k+1)):x∈l.take k∨x=l[k]:=by
 rw[Ra h]at hx;rcases N_.1 hx with hx | hx
 ·exact .inl hx
 ·exact .inr (by simpa using hx)
end
section
variable{N:Nat}{s:JG}{label:Int}
theorem Gq(h:Inv N s)(p:Str):0≤(fI s p label).Mem∧(fI s p label).Mem≤6871947673600:=(u9 h label p).2
theorem uj(h:Inv N s)(p:Str):0≤(NA s p label true).Mem∧(NA s p label true).Mem≤12884901888:=by have h1:=h.sc.X6 (Lf:=p) label true;have h2:=h.nl;unfold VB at h1;omega
end
section
variable{N:Nat}{s:JG}{label:Int}
theorem sP(h:Inv N s){x y:Mr}(hx:x∈L_ s label)(hy:y∈L_ s label)(e:x.LB=y.LB):x=y:=by
 have hp:(L_ s label).Pairwise λx y=>Op.bytesLess x.LB y.LB=true:=uL h label 3 root _;generalize L_ s label=l at hx hy hp
 induction l with
 | nil=>cases hx
 | cons a l ih=>
  have hp':=SY.1 hp;rcases NH.1 hx with hx1 | hx1
  ·rcases NH.1 hy with hy1 | hy1
   ·rw[hx1,hy1]
   ·have:=hp'.1 y hy1;rw[← hx1,e,rh]at this;cases this
  ·rcases NH.1 hy with hy1 | hy1
   ·have:=hp'.1 x hx1;rw[← hy1,e,rh]at this;cases this
   ·exact ih hx1 hy1 hp'.2
theorem Hd(h:Inv N s){x:Mr}(hx:x∈L_ s label):eP s label x.LB=some x.Mem:=by
 have hil:=mY h label;unfold eP;rw[tf h,K_]
 have e:=eT (λi=>i) (L_ s label) (λy=>y.LB == x.LB) (λy=>(.inl y.Mem:Int ⊕ Unit)) (.inr ()) (step:=bL x.LB (L_ s label)) (by omega) ?_ ?_ ?_
 ·rw[e]
  cases hf:(L_ s label).find? λy=>y.LB == x.LB with
  | none=>have:=QdJ.1 hf x hx;simp at this
  | some y=>
   have h1:=QeG hf;have h2:=QgM hf
   rw[sP h h1 hx (by simpa using h2)]
   rfl
 ·intro k hk hp;unfold bL;rw[ah hk,cond_true,aC hk,K_,La hk,K_,hp,cond_false]
 ·intro k hk hp;unfold bL;rw[ah hk,cond_true,aC hk,K_,La hk,K_,hp,cond_true,K_,La hk];rfl
 ·unfold bL;rw[am];rfl
end
theorem G1{step:Int→Option (Int ⊕ (Bool ⊕ Unit))}(n:Nat)(hn:n<1000000000)(h1:∀k,k<n→step (k:Int)=some (.inl (LC ((k:Int)+1))))(h2:step (n:Int)=some (.inr (.inr ()))):loop step 0=some (.inr ()):=by obtain⟨x,e,rfl⟩:=az (σ:=Unit) (Q:=λx=>x=(.inr ():Bool ⊕ Unit)) (λ_ i=>i) n (λ_ _=>True) (step:=step) hn (λk hk _ _=>bY (h1 k hk) (.inl ⟨(),rfl,trivial⟩)) (λ_ _=>bY h2 ⟨_,rfl,rfl⟩) (s:=()) trivial;exact e
theorem IC(x:Script):de x=some (decide (x.Ns.length≤30)&&decide (x.UC.length≤80)):=by
 unfold de
 have e1:decide ((x.Ns.length:Int)≤30)=decide (x.Ns.length≤30):=by rw[decide_eq_decide];omega
 have e2:decide ((x.UC.length:Int)≤80)=decide (x.UC.length≤80):=by rw[decide_eq_decide];omega
 rw[e1,e2]
 cases decide (x.Ns.length≤30)<;>rfl
theorem akL{x:Script}{m:JG→Option Bool}(h:∀s,Inv 400000 s→m s=some true):((de x).bind λx2=>bif ! x2 then some true else(cG x).bind m)=some true:=by
 rw[IC,K_];by_cases h1:x.Ns.length≤30
 ·by_cases h2:x.UC.length≤80
  ·rw[decide_eq_true h1,decide_eq_true h2];obtain⟨s,e,hs⟩:=Ho x h1 h2;rw[e];exact h s hs
  ·rw[decide_eq_false h2,Bool.and_false];rfl
 ·rw[decide_eq_false h1];rfl
theorem bU{τ σ : Type}{step:τ→Option (τ ⊕ σ)}{t:τ}{r:σ}(h:step t=some (.inr r)):loop step t=some r:=by rw[aP,h]
theorem zj{α : Type}{t:List α}{i:Nat}{x:α}(hi:i<t.length):(t.set i x).take (i+1)=t.take i++[x]:=by
 have h:i<(t.set i x).length:=by rw[Yc];exact hi
 rw[Ra h,List.getElem_set_self,List.take_set_of_le (MO i)]
theorem J7{α : Type}{s t:List α}{j:Nat}(h:t.drop j=s.drop j)(hs:j<s.length)(ht:j<t.length):t[j]=s[j]:=by rw[Wq ht,Wq hs]at h;exact(List.cons.inj h).1
theorem zc{α : Type}{s t:List α}{j:Nat}(h:t.drop j=s.drop j):t.drop (j+1)=s.drop (j+1):=by rw[← QfY,← QfY,h]
theorem aaP{α σ τ ρ : Type}(p:α→Bool)(acc:σ→α→σ)(I:Nat→σ→Prop)(mk:List α→σ→Int→Int→τ)(fin:List α→σ→Int→ρ){step:τ→Option (τ ⊕ ρ)}{s:List α}
  (h1:∀(t:List α)(a:σ)(i j:Nat)(hi:i<t.length) (hj:j<t.length),t.length=s.length→I j a→step (mk t a (i:Int) (j:Int))=some (.inl (mk (if p t[j]=true then t else t.set i t[j]) (acc a t[j]) ((if p t[j]=true then i else i+1:Nat):Int) ((j+1:Nat):Int)))∧I (j+1) (acc a t[j]))
  (h2:∀(t:List α)(a:σ)(i:Nat),t.length=s.length→step (mk t a (i:Int) (s.length:Int))=some (.inr (fin t a i))) :
  ∀(m j:Nat),m+j=s.length→∀(t:List α)(a:σ)(i:Nat),i<j→t.length=s.length→I j a→t.take i=(s.take j).filter (λx=>!p x)→t.drop j=s.drop j→
   ∃(t':List α)(i':Nat),loop step (mk t a (i:Int) (j:Int))=some (fin t' ((s.drop j).foldl acc a) i')∧t'.length=s.length∧i'≤s.length∧t'.take i'=s.filter (λx=>!p x)∧I s.length ((s.drop j).foldl acc a)
 | 0,j,hm,t,a,i,hij,hl,ha,ht,hd=>by
  have hj:j=s.length:=by omega
  subst hj;rw[RB]at ht
  refine⟨t,i,?_,hl,by omega,ht,?_⟩
  ·rw[aP,h2 t a i hl,QdL];rfl
  ·rw[QdL];exact ha
 | m+1,j,hm,t,a,i,hij,hl,ha,ht,hd=>by
  have hj:j<s.length:=by omega
  have hjt:j<t.length:=by omega
  obtain⟨e,ha'⟩:=h1 t a i j (by omega) hjt hl ha
  have hx:t[j]=s[j]:=J7 hd hj hjt;rw[hx]at e ha';rw[aP,e,Wq hj,TN];dsimp only
  cases hp:p s[j]with
  | true=>
   rw[if_pos rfl,if_pos rfl]
   refine aaP p acc I mk fin h1 h2 m (j+1) (by omega) t _ i (by omega) hl ha' ?_ (zc hd)
   rw[Ra hj,YR,ht];simp[hp]
  | false=>
   rw[if_neg (by simp),if_neg (by simp)]
   refine aaP p acc I mk fin h1 h2 m (j+1) (by omega) _ _ (i+1) (by omega) (by rw[Yc];exact hl) ha' ?_ ?_
   ·rw[zj (by omega),Ra hj,YR,ht]
    simp[hp]
   ·rw[List.drop_set_of_lt (by omega)]
    exact zc hd
theorem zP{α : Type}{t:List α}{i:Nat}(h:i≤t.length)(z:α){β : Type}(f:List α→Option β):((OV (i:Int) (t.length:Int) t.length).bind λp=>(OV 0 (i:Int) (Rm t p.1 p.2 (List.replicate p.2 z)).length).bind λq=>f (List.take q.2 (Rm t p.1 p.2 (List.replicate p.2 z))))=f (t.take i):=by
 have e1:OV (i:Int) (t.length:Int) t.length=some (i,t.length - i):=by
  unfold OV
  rw[if_pos (by omega)]
  simp
 rw[e1,K_];dsimp only
 have e2:Rm t i (t.length - i) (List.replicate (t.length - i) z)=t.take i++List.replicate (t.length - i) z:=by
  unfold Rm
  rw[List.length_replicate,QfH,List.take_replicate,QfH,show i+(t.length - i)=t.length by omega,QdL,Wo]
 rw[e2]
 have e3:OV 0 (i:Int) (t.take i++List.replicate (t.length - i) z).length=some (0,i):=by
  unfold OV
  rw[if_pos (by simp;omega)]
  simp
 rw[e3,K_];show f (List.take i (t.take i++_))=_
 rw[QfS (by rw[Ox];omega),List.take_take,QfH]
theorem qt{α : Type}(l:List α)(p:α→Bool){step:Int→Option (Int ⊕ (Int ⊕ Unit))}(hn:l.length<1000000000)
  (h1:∀k (hk:k<l.length),step (k:Int)=some (bif p l[k]then .inr (.inl (k:Int))else .inl (LC ((k:Int)+1))))
  (h3:step (l.length:Int)=some (.inr (.inr ()))) :
  (∃k,∃(hk:k<l.length),(l.take k).all (λx=>!p x)=true∧p l[k]=true∧loop step 0=some (.inl (k:Int)))∨(l.all (λx=>!p x)=true∧loop step 0=some (.inr ())):=by
 have h:=az (σ:=Unit) (Q:=λx=>(∃k,∃(hk:k<l.length),(l.take k).all (λx=>!p x)=true∧p l[k]=true∧x = .inl (k:Int))∨(l.all (λx=>!p x)=true∧x = .inr ())) (λ_ i=>i) l.length (λk _=>(l.take k).all (λx=>!p x)=true) (step:=step) hn ?_ ?_ (s:=()) rfl
 ·obtain⟨x,e,hx⟩:=h;rw[e];rcases hx with⟨k,hk,a,b,rfl⟩ | ⟨a,rfl⟩
  ·exact .inl ⟨k,hk,a,b,rfl⟩
  ·exact .inr ⟨a,rfl⟩
 ·intro k hk _ hs;rw[h1 k hk]
  cases hp:p l[k]with
  | false=>refine aa (.inl ⟨(),rfl,?_⟩);rw[Ra hk,List.all_append,hs];simp[hp]
  | true=>exact aa (.inr ⟨_,rfl,.inl ⟨k,hk,hs,hp,rfl⟩⟩)
 ·intro _ hs;rw[RB]at hs;rw[h3];exact aa ⟨_,rfl,.inr ⟨hs,rfl⟩⟩
theorem xJ{α : Type}{id:α→Int}:∀{l:List α}(hs:l.Pairwise λx y=>id x<id y){k:Nat}(hk:k<l.length) {a:α} (e:id l[k]=id a),l.set k a=N9 id l a
 | [],_,k,hk,a,e=>absurd hk (by simp)
 | b::l,hs,0,hk,a,e=>by
  have e:id b=id a:=e;unfold N9
  rw[QdO (by simp;omega),Qe_ (by simp;omega)]
  simp[e]
 | b::l,hs,k+1,hk,a,e=>by
  have hk':k<l.length:=by simpa using hk
  have e:id l[k]=id a:=e;have hb:=(SY.1 hs).1 _ (Nq hk');have ih:=xJ (SY.1 hs).2 hk' e;unfold N9 at ih ⊢
  rw[QdP (by simp;omega),QdQ (by simp;omega),List.set_cons_succ,ih,UH]
theorem wF{α : Type}{p:α→Bool}{l:List α}{k:Nat}(hk:k<l.length)(h:(l.take k).all (λx=>!p x)=true)(hp:p l[k]=true):l.find? p=some l[k]:=by
 have hs:(l.take k).find? p=none:=by rw[QdJ];intro x hx;have:=Tg.1 h x hx;simpa using this
 conv=>lhs;rw[← Xe k l]
 rw[QfW,hs,VD,Wq hk,QgV hp]
theorem yw{α : Type}{p:α→Bool}{l:List α}(h:l.all (λx=>!p x)=true):l.find? p=none:=by rw[QdJ];intro x hx;have:=Tg.1 h x hx;simpa using this
theorem qm{α : Type}{p:α→Bool}{l:List α}(h:l.all (λx=>!p x)=true):l.filter (λx=>!p x)=l:=QeN.2 (Tg.1 h)
theorem CI{s:List Lx}(hn:s.length≤100000)(p:Lx→Bool){f:M7 fam [.st 7]→Option Bool}(hf:∀x,f (x,())=some (p x)) :
  (∃k,∃(hk:k<s.length),(s.take k).all (λx=>!p x)=true∧p s[k]=true∧ju s f=some (k:Int))∨(s.all (λx=>!p x)=true∧ju s f=some (-1)):=by
 unfold ju
 have h:=qt s p (step:=oC s f) (by omega) ?_ ?_
 ·rcases h with⟨k,hk,a,b,e⟩ | ⟨a,e⟩
  ·exact .inl ⟨k,hk,a,b,by rw[e];rfl⟩
  ·exact .inr ⟨a,by rw[e];rfl⟩
 ·intro k hk;unfold oC;rw[ah hk,cond_true,ai hk,K_,hf,K_]
  cases p s[k]<;>rfl
 ·unfold oC;rw[am];rfl
theorem I8{s:List Nt}(hn:s.length≤100000)(p:Nt→Bool){f:M7 fam [.st 8]→Option Bool}(hf:∀x,f (x,())=some (p x)) :
  (∃k,∃(hk:k<s.length),(s.take k).all (λx=>!p x)=true∧p s[k]=true∧mg s f=some (k:Int))∨(s.all (λx=>!p x)=true∧mg s f=some (-1)):=by
 unfold mg
 have h:=qt s p (step:=lV s f) (by omega) ?_ ?_
 ·rcases h with⟨k,hk,a,b,e⟩ | ⟨a,e⟩
  ·exact .inl ⟨k,hk,a,b,by rw[e];rfl⟩
  ·exact .inr ⟨a,by rw[e];rfl⟩
 ·intro k hk;unfold lV;rw[ah hk,cond_true,ai hk,K_,hf,K_]
  cases p s[k]<;>rfl
 ·unfold lV;rw[am];rfl
theorem Jc{s:List Nt}(hn:s.length≤100000)(p:Nt→Bool){f:M7 fam [.st 8]→Option Bool}(hf:∀x,f (x,())=some (p x)):nP s f=some (s.filter λx=>!p x):=by
 unfold nP;rcases I8 hn p hf with⟨k,hk,a,b,e⟩ | ⟨a,e⟩
 ·rw[e,K_,show((k:Int) == -1)=false by rw[beq_eq_false_iff_ne];omega,cond_false,du (by omega)]
  obtain⟨t,i,e1,h1,h2,h3,_⟩:=aaP p (λ(u:Unit) _=>u) (λ_ _=>True) (λt _ i j=>(t,i,j)) (λt _ i=>(t,i)) (step:=lP f) (s:=s) (by
   intro t u i j hi hj hl _;refine⟨?_,trivial⟩;unfold lP;dsimp only;rw[ah hj,cond_true,aC hj,K_,La hj,K_,hf,K_]
   cases p t[j]with
   | true=>simp only[PG,cond_false,K_,if_true];rw[du (by omega)]
   | false=>
    simp only[Wy,cond_true,R3,if_false]
    rw[aC hi,K_,La hi,K_,K_,du (by omega),du (by omega)]) (by
   intro t u i hl;unfold lP;dsimp only
   rw[hl,am,cond_false]) (s.length - (k+1)) (k+1) (by omega) s () k (by omega) rfl trivial (by rw[Ra hk,YR,qm a];simp[b]) rfl
  rw[e1,K_];dsimp only
  rw[zP (by omega) _ some,h3]
 ·rw[e,K_,qm a];rfl
theorem yg(c:Lx)(p:Int){l:List Int}(h:l.length≤1000):mK c p l=some (c.LM == p,if(c.LM == p)=true then l++[c.Id]else l):=by
 unfold mK
 cases c.LM == p with
 | true=>rw[cond_true,ao (by simp;omega) (by omega)];rfl
 | false=>rfl
theorem JM{s:List Lx}(hn:s.length≤500)(i:Int):∃g,mG s () i []=some (s.filter λc=>!(c.LM == i),g):=by
 unfold mG;have e:=az (σ:=List Int) (Q:=λx=>(∃k,∃(hk:k<s.length),(s.take k).all (λx=>!(x.LM == i))=true∧(s[k].LM == i)=true∧x=(.inl ([s[k].Id],(k:Int)):(List Int×Int) ⊕ List Int))∨(s.all (λx=>!(x.LM == i))=true∧x = .inr []))
  (λa k=>(a,k)) s.length (λk a=>(s.take k).all (λx=>!(x.LM == i))=true∧a = []) (step:=na s i) (by omega) ?_ ?_ (s:=[]) ⟨rfl,rfl⟩
 ·obtain⟨x,e,hx⟩:=e;unfold rK;rw[e];rcases hx with⟨k,hk,a,b,rfl⟩ | ⟨a,rfl⟩
  ·rw[K_,K_];dsimp only
   rw[show((k:Int) == -1)=false by rw[beq_eq_false_iff_ne];omega,cond_false,du (by omega)]
   obtain⟨t,j,e1,h1,h2,h3,_⟩:=aaP (λx:Lx=>x.LM == i) (λ(l:List Int) c=>if(c.LM == i)=true then l++[c.Id]else l) (λk l=>l.length≤k) (λt l i j=>(t,l,i,j)) (λt l i=>(t,l,i)) (step:=ku i) (s:=s) (by
    intro t l j m hj hm hl hlen;refine⟨?_,?_⟩
    ·unfold ku;dsimp only
     rw[ah hm,cond_true,aC hm,K_,La hm,K_,yg _ _ (by omega),K_]
     dsimp only
     cases t[m].LM == i with
     | true=>simp only[PG,cond_false,K_,if_true];rw[du (by omega)]
     | false=>
      simp only[Wy,cond_true,R3,if_false]
      rw[aC hj,K_,La hj,K_,K_,du (by omega),du (by omega)]
    ·split
     ·simp;omega
     ·omega) (by
    intro t l j hl;unfold ku;dsimp only
    rw[hl,am,cond_false]) (s.length - (k+1)) (k+1) (by omega) s [s[k].Id] k (by omega) rfl (by simp) (by rw[Ra hk,YR,qm a];simp[b]) rfl
   rw[e1,K_];dsimp only
   rw[zP (by omega) _ λl=>some (l,_),h3]
   exact⟨_,rfl⟩
  ·rw[K_,K_,qm a];exact⟨_,rfl⟩
 ·rintro k hk l ⟨ha,rfl⟩;unfold na;dsimp only
  rw[ah hk,cond_true,aC hk,K_,La hk,K_,yg _ _ (by simp),K_]
  dsimp only
  cases hp:s[k].LM == i with
  | true=>exact aa (.inr ⟨_,rfl,.inl ⟨k,hk,ha,hp,by simp⟩⟩)
  | false=>
   refine aa (.inl ⟨[],by simp,?_,rfl⟩)
   rw[Ra hk,List.all_append,ha];simp[hp]
 ·rintro l ⟨ha,rfl⟩;unfold na;dsimp only;rw[am,cond_false];rw[RB]at ha;exact aa ⟨_,rfl,.inr ⟨ha,rfl⟩⟩
theorem HJ{s:JG}(hc:s.Kl.length≤500)(hl:s.LH.length≤100000)(i:Int):∃g,oU s i=some (UR s i,g):=by unfold oU;obtain⟨g,e⟩:=JM hc i;rw[e,K_,Jc hl (λx=>x.LM == i) (λx=>rfl),K_];exact⟨g,rfl⟩
theorem GD(a:LM):qn a=some [iz a]:=by
 unfold qn wg wh
 rw[show Wh 64 (([]:List Ask).length:Int) (([]:List Ask).length:Int) (⟨0,0,⟨0,0⟩,0,0,0,0⟩:Ask)=some []from rfl,K_,K_]
 have e1:∀f,oI (Rm ([]:List Ask) 0 ([]:List Ask).length []) f=some []:=by
  intro f;unfold oI qF
  rw[bU (r:=.inr ()) (by unfold rv;rfl)]
  rfl
 rw[e1,K_]
 rw[show((1:Int) == 0)=false from rfl,cond_false]
 rw[bU (r:=0) (by unfold vv;rfl)]
 rfl
theorem Y7:∀k:Nat,Nat.ble k k=true
 | 0=>rfl
 | k+1=>Y7 k
theorem z6{α : Type}{l:List α}{k:Nat}(h:k<l.length):l.set k l[k]=l:=by simp
theorem wu{s:JG}(h:Small s):qO s=some s:=by
 unfold qO eX pv tN mV tO ud qM
 rw[lM (by have:=h.labels;omega) (by omega),lM (by have:=h.queues;omega) (by omega)]
 simp only[K_]
 obtain⟨x,e,hx⟩:=nV (λ(v:List Ls)(k:Int)=>(v,k.toNat,k)) (nH s.Lg.Lh) s.Lg.Lh.length (λ_ v=>v=s.Lg.Lh) (λv=>(v,s.Lg.Lh.length,(s.Lg.Lh.length:Int))) (by
  rintro k hk v rfl;refine⟨s.Lg.Lh,?_,rfl⟩;have hq:=h.queues;have hc:=h.caps _ (Nq hk);unfold nH qK;dsimp only
  rw[ah hk,cond_true,aC hk,K_,TG,Y7 k,cond_true,La hk,K_,lM (by omega) (by omega),K_,K_,YO,cond_true,La hk,K_,du (by omega)]
  rw[show(⟨s.Lg.Lh[k].LB,s.Lg.Lh[k].MS,s.Lg.Lh[k].User⟩:Ls)=s.Lg.Lh[k]from rfl,z6 hk]
  rfl) (by
  rintro v rfl;unfold nH;dsimp only;rw[am];rfl) (s:=s.Lg.Lh) rfl
 have e':loop (nH s.Lg.Lh) (s.Lg.Lh,0,0)=some (x,s.Lg.Lh.length,(s.Lg.Lh.length:Int)):=e;rw[e',hx];simp only[K_];rw[Y7 _,cond_true]
 rw[lM (by have:=h.nodes;omega) (by omega),lM (by have:=h.V6;omega) (by omega),lM (by have:=h.slots;omega) (by omega),lM (by have:=h.plans;omega) (by omega),lM (by have:=h.apps;omega) (by omega)]
 simp only[K_]
 obtain⟨y,e,hy⟩:=nV (λ(v:List LM)(k:Int)=>(v,k.toNat,k)) (nF s.Lv) s.Lv.length (λ_ v=>v=s.Lv) (λv=>(v,s.Lv.length,(s.Lv.length:Int))) (by
  rintro k hk v rfl;refine⟨s.Lv,?_,rfl⟩;have hq:=h.apps;unfold nF;dsimp only
  rw[ah hk,cond_true,aC hk,K_,TG,Y7 k,cond_true,La hk,K_,t_ (h.app _ (Nq hk)),K_,K_,YO,cond_true,La hk,K_,du (by omega),z6 hk]
  rfl) (by
  rintro v rfl;unfold nF;dsimp only;rw[am];rfl) (s:=s.Lv) rfl
 have e':loop (nF s.Lv) (s.Lv,0,0)=some (y,s.Lv.length,(s.Lv.length:Int)):=e;rw[e',hy];simp only[K_];rw[Y7 _,cond_true]
def UW(s:JG)(a:LM):LM:=⟨a.Id,1,a.Ls,a.User,a.LD,⟨a.Lp.Mem,a.Lp.LA⟩,[iz a],s.Now,0,[],[],[],[]⟩
def Ua(a:LM)(i:Int):LM:=⟨a.Id,a.JG,a.Ls,a.User,a.LD,⟨a.Lp.Mem,a.Lp.LA⟩,a.Mq,a.NV,a.Nc,a.MC.filter λx=>x != i,if a.MC.contains i=true then a.Np else a.Np++[i],a.Told,a.NW⟩
def OG(s:JG)(i:Int):JG:=match cN s i with
 | none=>s
 | some c=>match M9 s c.LM with
  | none=>s
  | some a=>if c.Lp=true then UR (Pe s (UW s a)) a.Id else Pe (Xm s i) (Ua a i)
theorem zU{α : Type}{id:α→Int}:∀{l:List α},l.Pairwise (λx y=>id x<id y)→∀{k:Nat}(hk:k<l.length),l.take k++l.drop (k+1)=l.filter λx=>id x != id l[k]
 | b::l,h,0,hk=>by
  have h1:=(SY.1 h).1;show l=(b::l).filter λx=>id x != id b
  rw[QdW (by simp)]
  refine(QeN.2 λx hx=>?_).symm;have:=h1 x hx;simp;omega
 | b::l,h,k+1,hk=>by
  have h1:=(SY.1 h).1
  have hk':k<l.length:=by simpa using hk
  have ih:=zU (SY.1 h).2 hk';have hb:=h1 _ (Nq hk');show b::(l.take k++l.drop (k+1))=(b::l).filter λx=>id x != id l[k]
  rw[QfK (by simp;omega),ih]
theorem Dd{l:List Int}(h:l.Pairwise λx y=>x<y)(i:Int)(hn:l.length≤1000000) :
  (∃j:Nat,l.contains i=true∧bK l i=some (j:Int)∧cU l (j:Int) (LC ((j:Int)+1))=some (l.filter λx=>x != i))∨(l.contains i=false∧bK l i=some (-1)∧(l.filter λx=>x != i)=l):=by
 have e:=qt l (λx=>i == x) (step:=dK l i) (by omega) ?_ ?_
 ·rcases e with⟨k,hk,a,b,e⟩ | ⟨a,e⟩
  ·have b:i=l[k]:=by simpa using b
   refine .inl ⟨k,?_,by unfold bK;rw[e];rfl,?_⟩
   ·rw[YI,b];exact Nq hk
   ·unfold cU del
    rw[du (by omega),if_pos (by omega),TG,TG,zU (id:=λx:Int=>x) h hk,← b]
  ·refine .inr ⟨?_,by unfold bK;rw[e];rfl,?_⟩
   ·rw[Bool.eq_false_iff];intro hc;have:=Tg.1 a i (YI.1 hc);simp at this
   ·refine QeN.2 λx hx=>?_;have:=Tg.1 a x hx;simp only[UJ,beq_eq_false_iff_ne]at this;simp only[bne_iff_ne,ne_eq];exactλe=>this e.symm
 ·intro k hk;unfold dK;rw[ah hk,cond_true,ai hk,K_]
  cases i == l[k]<;>rfl
 ·unfold dK;rw[am];rfl
theorem E2{E:SA}{N:Nat}{s:JG}(h:MJ E N s){a:LM}(ha:a∈s.Lv):∃k,∃(hk:k<s.Lv.length),s.Lv[k]=a∧pj s a.Id=some (k:Int):=by
 have hal:=h.al
 rcases yz (s:=s) (by omega) a.Id with⟨k,hk,e1,e2⟩ | ⟨e1,e2⟩
 ·rw[h.M9 ha]at e1;exact⟨k,hk,(Option.some.inj e1).symm,e2⟩
 ·rw[h.M9 ha]at e1;cases e1
theorem GY{N:Nat}{s:JG}(h:Inv N s)(hN:N≤1000000)(ids:List Int){k:Nat}(hk:k<ids.length)(hkn:k<1000000):lK ids (s,(k:Int))=some (.inl (OG s ids[k],((k+1:Nat):Int))):=by
 unfold lK;dsimp only
 rw[ah hk,cond_true,ai hk,K_,du (by omega)]
 generalize ids[k]=i;have hcl:=h.cl
 have key:∀(m:Option JG),m=some (OG s i)→(m.bind λs1=>some (.inl (s1,((k+1:Nat):Int)):(JG×Int) ⊕ JG))=some (.inl (OG s i,((k+1:Nat):Int))):=λm e=>by rw[e];rfl
 refine key _ ?_
 rcases CI (s:=s.Kl) (by omega) (λc=>c.Id == i) (f:=λa'=>rL a'.1 i) (λx=>rfl)with⟨j,hj,a,b,e⟩ | ⟨a,e⟩
 ·rw[e,K_,decide_eq_false (by omega),cond_false,aC hj,K_,La hj,K_]
  have hfd:cN s i=some s.Kl[j]:=wF hj a b
  have hci:s.Kl[j].Id=i:=by simpa using b
  have hcm:s.Kl[j]∈s.Kl:=Nq hj;obtain⟨p,hp,hpi,hp2⟩:=(h.ck _ hcm).app;obtain⟨q,hq,hqe,e2⟩:=E2 h hp
  rw[← hpi,e2,K_,decide_eq_true (by omega),cond_true,K_]
  have hat:M9 s s.Kl[j].LM=some p:=by rw[← hpi];exact h.M9 hp
  unfold OG;rw[hfd];dsimp only;rw[hat];dsimp only
  cases hm:s.Kl[j].Lp with
  | true=>
   rw[cond_true,if_pos rfl];unfold rJ;rw[aC hq,K_,La hq,K_,GD,K_,K_,YO,cond_true,La hq,K_];rw[hqe]
   have hset:s.Lv.set q (UW s p)=N9 (·.Id) s.Lv (UW s p):=xJ h.Rb hq (by rw[hqe];rfl)
   obtain⟨g,e3⟩:=HJ (s:=Pe s (UW s p)) (by show s.Kl.length≤500;omega) (by show s.LH.length≤100000;have:=h.sl;omega) p.Id
   unfold Pe at e3;rw[← hset]at e3;have e4:oU (⟨⟨s.Lg.Lm,s.Lg.Lh⟩,s.Lu,List.set s.Lv q (⟨p.Id,1,p.Ls,p.User,p.LD,⟨p.Lp.Mem,p.Lp.LA⟩,[iz p],s.Now,0,[],[],[],[]⟩:LM),s.Kl,s.LH,s.LJ,s.Now,s.L8,s.Seq⟩:JG) p.Id=_:=e3;rw[e4,K_,K_,hset];rfl
  | false=>
   rw[cond_false,if_neg (by simp)]
   have e3:o5 s.Kl (j:Int) (LC ((j:Int)+1))=some (s.Kl.filter λc=>c.Id != i):=by
    unfold o5 del
    rw[du (by omega),if_pos (by omega),TG,TG,zU (id:=λc:Lx=>c.Id) h.cs hj,hci]
   rw[e3,K_,decide_eq_false (by omega),cond_false,aC hq,K_,La hq,K_,hqe]
   have hpk:=h.ak p hp;have hg:=h.en.2.2 p hp
   have e4:((bK p.MC i).bind λj=>
       bif decide (j≥0)then
        (cU p.MC j (LC (j+1))).bind λx6=>
        some (⟨p.Id,p.JG,p.Ls,p.User,p.LD,⟨p.Lp.Mem,p.Lp.LA⟩,p.Mq,p.NV,p.Nc,x6,p.Np,p.Told,p.NW⟩:LM)
       else
        (app 8 p.Np [i]).bind λl=>
        some (⟨p.Id,p.JG,p.Ls,p.User,p.LD,⟨p.Lp.Mem,p.Lp.LA⟩,p.Mq,p.NV,p.Nc,p.MC,l,p.Told,p.NW⟩:LM))=some (Ua p i):=by
    unfold Ua
    rcases Dd hg.1 i (by have:=hpk.gr;omega)with⟨j,a1,a2,a3⟩ | ⟨a1,a2,a3⟩
    ·rw[a2,K_,decide_eq_true (by omega),cond_true,a3,K_,a1]
     rfl
    ·rw[a2,K_,decide_eq_false (by omega),cond_false,ao (by have:=hpk.ki;simp;omega) (by omega),K_,a1,a3]
     rfl
   rw[e4,K_,K_,YO,cond_true,La hq,K_]
   have hset:s.Lv.set q (Ua p i)=N9 (·.Id) s.Lv (Ua p i):=xJ h.Rb hq (by rw[hqe];rfl)
   rw[hset];rfl
 ·rw[e,K_,decide_eq_true (by omega),cond_true]
  unfold OG
  rw[show cN s i=none from yw a]
theorem Ha{N:Nat}{s:JG}(h:Inv N s)(hN:N≤1000000):m0 s []=some s:=by
 unfold m0
 rw[wu (h.small hN),K_,bU (r:=s) (by unfold lK;rfl),K_,wu (h.small hN)]
 rfl
theorem EK(l:List Int)(i:Int):decide ((l.filter λx=>x != i).length<l.length)=l.contains i:=by
 cases hc:l.contains i with
 | true=>
  refine decide_eq_true ?_;rw[List.length_filter_lt_length_iff_exists]
  exact⟨i,YI.1 hc,by simp⟩
 | false=>
  refine decide_eq_false ?_
  have:(l.filter λx=>x != i)=l:=by refine QeN.2 λx hx=>?_;simp only[bne_iff_ne,ne_eq];rintro rfl;rw[YI.2 hx]at hc;cases hc
  rw[this];omega
section
variable{N:Nat}{s:JG}
theorem wJ(h:Inv N s)(hN:N≤1000000)(i:Int):bB s [i]=some (OG s i):=by
 unfold bB
 have key:∀(m:Option JG),m=some (OG s i)→(m.bind λs1=>some (.inl (s1,1):(JG×Int) ⊕ JG))=some (.inl (OG s i,1)):=λm e=>by rw[e];rfl
 have e:b_ [i] (s,0)=some (.inl (OG s i,1)):=by
  unfold b_;dsimp only
  rw[show decide ((0:Int)<(([i]:List Int).length:Int))=true from rfl,cond_true,show idx [i] 0=some i from rfl,K_,show LC ((0:Int)+1)=1 from rfl]
  refine key _ ?_;rw[fP h.z,K_];unfold OG
  cases hc:cN s i with
  | none=>rfl
  | some c=>
   obtain⟨hcm,hci⟩:=lR hc;obtain⟨a,ha,e1,e2⟩:=(h.ck c hcm).app;have hak:=h.ak a ha
   have hat:M9 s c.LM=some a:=by rw[← e1];exact h.M9 ha
   simp only[Option.elim,PG,cond_false];rw[dJ h.z,hat,K_];simp only[Option.elim]
   cases hm:c.Lp with
   | true=>
    rw[cond_true,if_pos rfl];show(some [iz a]).bind _=_;rw[K_,oi h.z,K_,xx]
    ·rw[K_,← e1];rfl
    ·refine⟨h.z.n,?_,h.z.c,h.z.l,h.z.p⟩;have:=(mT (id:=λx:LM=>x.Id) (l:=s.Lv) (a:=UW s a)).1;have h2:=h.al;show(N9 (λx:LM=>x.Id) s.Lv (UW s a)).length≤100000;omega
   | false=>
    rw[cond_false,if_neg (by simp),x_ h.z,K_,sK (by have:=hak.gr;omega),K_]
    dsimp only;rw[hci,EK]
    have e3:(bif !(a.MC.contains i)then
       (app 8 [] a.Np).bind λl=>
       (app 8 l [i]).bind λl1=>
       some (⟨a.Id,a.JG,a.Ls,a.User,a.LD,⟨a.Lp.Mem,a.Lp.LA⟩,a.Mq,a.NV,a.Nc,a.MC.filter λx=>x != i,l1,a.Told,a.NW⟩:LM)
      else
       some (⟨a.Id,a.JG,a.Ls,a.User,a.LD,⟨a.Lp.Mem,a.Lp.LA⟩,a.Mq,a.NV,a.Nc,a.MC.filter λx=>x != i,a.Np,a.Told,a.NW⟩:LM))=some (Ua a i):=by
     unfold Ua
     cases a.MC.contains i with
     | true=>rfl
     | false=>
      rw[Wy,cond_true,ao (by have:=hak.ki;simp;omega) (by omega),K_,ao (by have:=hak.ki;simp;omega) (by omega)]
      rfl
    rw[e3,K_,oi (s:=Xm s i) ⟨h.z.n,h.z.a,P6 (TP _ _) h.z.c,h.z.l,h.z.p⟩];rfl
 rw[aP,e];dsimp only
 rw[bU (r:=OG s i) (by unfold b_;rfl)]
 rfl
theorem Bl(h:Inv N s)(hN:N<1000000)(i:Int):Inv (N+1) (OG s i)∧NW s (OG s i) [i]:=by
 obtain⟨t,e,ht⟩:=wd h (ids:=[i]) (by simp;omega)
 rw[wJ h (by omega)]at e
 cases e;exact ht
theorem Jv(h:Inv N s)(hN:N<1000000)(i:Int):m0 s [i]=some (OG s i):=by
 unfold m0
 rw[wu (h.small (by omega)),K_,aP]
 have e:lK [i] (s,0)=some (.inl (OG s i,1)):=GY h (by omega) [i] (k:=0) (by simp) (by omega)
 rw[e];dsimp only
 rw[bU (r:=OG s i) (by unfold lK;rfl),K_,wu ((Bl h hN i).1.small (by omega))]
 rfl
end
section
variable{N:Nat}{s:JG}
theorem Jm{label:Int}{p:Str}(hp:Nu s.Lg p=true)(mem:Int):∀d:Nat,(⟨p,mem⟩:Mr)∈pI d s p label mem
 | 0=>by simp[pI]
 | d+1=>by unfold Nu at hp;simp only[Ng]at hp;unfold pI;rw[if_pos hp.2];simp
theorem tD(h:Inv N s)(label:Int){p:Str}(hp:Nu s.Lg p=true):∃x∈L_ s label,x.LB=p:=by
 have key:∀n,n≤3→∀p:Str,(Na s.Lg p).isSome=true→p.count 46=n→∃mem,∀x∈pI (3 - n) s p label mem,x∈L_ s label:=by
  intro n
  induction n with
  | zero=>
   intro _ p hf hc;obtain⟨q,hq⟩:=QdI.1 hf;obtain⟨hq1,hq2⟩:=jt hq;have hr:=(jP h.cf hq1).root;rw[hq2]at hr;rcases hr with rfl | ⟨t,rfl⟩
   ·exact⟨(gk s label).Mem,λx hx=>hx⟩
   ·rw[QgT,QgT]at hc;simp at hc
  | succ n ih=>
   intro hn p hf hc;obtain⟨q,hq⟩:=QdI.1 hf;obtain⟨hq1,hq2⟩:=jt hq;obtain⟨i,hi,e⟩:=UL hq1
   have hi0:0<i:=by
    refine Nat.pos_of_ne_zero ?_;rintro rfl;obtain⟨q0,h0,h1,_⟩:=h.cf.root;rw[La hi,e]at h0;cases h0;rw[hq2]at h1;subst h1
    rw[show root.count 46=0 by decide]at hc
    omega
   have hup:=(h.cf.q i hi).up hi0;rw[e,hq2]at hup;obtain⟨q',hq'⟩:=QdI.1 hup;obtain⟨hq3,hq4⟩:=jt hq'
   have hne:aL p≠[]:=by
    have hr:=(jP h.cf hq3).root;rw[hq4]at hr;intro e0;rw[e0]at hr;rcases hr with hr | ⟨t,hr⟩
    ·cases hr
    ·cases hr
   have hcnt:=jq (x:=p) hne rfl
   obtain⟨mem',hm⟩:=ih (by omega) (aL p) hup (by omega)
   have hk:p∈Ma s.Lg (aL p):=by
    unfold Ma;rw[if_neg hne]
    exact RA.2 ⟨q,Ta.2 ⟨hq1,by rw[hq2];simp⟩,hq2⟩
   obtain⟨j,hj,ej⟩:=UL hk
   have hjl:j<(bk s label mem' (Ma s.Lg (aL p))).length:=by rw[ol];exact hj
   refine⟨(bk s label mem' (Ma s.Lg (aL p)))[j],λx hx=>hm x ?_⟩
   rw[show 3 - n=(3 - (n+1))+1 by omega]
   unfold pI
   rw[if_neg (by intro he;rw[QgD]at he;rw[he]at hk;cases hk)]
   refine QhA.2 ⟨(p,(bk s label mem' (Ma s.Lg (aL p)))[j]),?_,hx⟩
   have hz:j<((Ma s.Lg (aL p)).zip (bk s label mem' (Ma s.Lg (aL p)))).length:=by rw[QeW];omega
   have:=Nq hz;rw[YP,ej]at this;exact this
 have hd:=(kC h.cf hp).deep
 obtain⟨mem,hm⟩:=key (p.count 46) hd p (by unfold Nu at hp;simp only[Ng]at hp;exact hp.1) rfl
 exact⟨_,hm _ (Jm hp mem _),rfl⟩
theorem qb(h:Inv N s){c:Lx}(hc:c∈s.Kl):∃a∈s.Lv,a.Id=c.LM∧M9 s c.LM=some a∧cx s c=a.Ls∧Nu s.Lg a.Ls=true:=by
 obtain⟨a,ha,e1,e2⟩:=(h.ck c hc).app
 have hat:M9 s c.LM=some a:=by rw[← e1];exact h.M9 ha
 exact⟨a,ha,e1,hat,by unfold cx;rw[hat];rfl,(h.ak a ha).leaf (.inr e2)⟩
def Vh(s:JG)(c:Lx):Int:=if c.Lp=true then((s.Kl.filter λx=>x.LM == c.LM&&(x.Id != c.Id&&x.Ll == c.Ll)).map (·.LY.Mem)).sum else 0
theorem yC{α : Type}(p:α→Bool)(f:α→Int):∀(l:List α)(z:Int),l.foldl (λn x=>if p x=true then n+f x else n) z=z+((l.filter p).map f).sum
 | [],z=>by simp
 | x::l,z=>by
  rw[TN,yC p f l,Xc];split
  ·rw[Nr,Wn];omega
  ·rfl
theorem yA{α : Type}(p:α→Bool)(f:α→Int):∀(l:List α)(z:Int),l.foldl (λn x=>if p x=true then n - f x else n) z=z - ((l.filter p).map f).sum
 | [],z=>by simp
 | x::l,z=>by
  rw[TN,yA p f l,Xc];split
  ·rw[Nr,Wn];omega
  ·rfl
theorem Gb(h:Inv N s)(c:Lx):c9 s c=some (Vh s c):=by
 have hcl:=h.cl;unfold c9 Vh
 cases hm:c.Lp with
 | false=>
  rw[bU (r:=0) (by unfold bg;rw[hm];dsimp only;cases decide ((0:Int)<(s.Kl.length:Int))<;>rfl)]
  rfl
 | true=>
  have e:=(bF (λ(n:Int) i=>(n,i)) s.Kl (λn x=>if(x.LM == c.LM&&(x.Id != c.Id&&x.Ll == c.Ll))=true then n+x.LY.Mem else n) (λk n=>0≤n∧n≤1073741824*k) (λn=>n) (step:=bg s c) (by omega) ?_ ?_ (s:=0) (by simp)).1
  ·rw[e,yC];simp
  ·rintro k hk n ⟨h0,h1⟩;have hsz:=(h.ck _ (Nq hk)).size.1
   refine⟨?_,by split<;>omega⟩
   unfold bg;dsimp only;rw[ah hk,cond_true,hm,K_,cond_true];simp only[ai hk,K_]
   rw[aj (x:=n+s.Kl[k].LY.Mem) (by omega) (by omega)]
   cases s.Kl[k].LM == c.LM<;>cases s.Kl[k].Id != c.Id<;>cases s.Kl[k].Ll == c.Ll<;>rfl
  ·rintro n _;unfold bg;dsimp only;rw[am];rfl
def adg(s:JG)(c:Lx)(m:Int):Bool:=decide ((MQ s (cx s c) c.Ll true 0).Mem - Vh s c>m)
theorem KJ(h:Inv N s)(c:Lx):0≤Vh s c∧Vh s c≤214748364800:=by
 have hcl:=h.cl
 have key:∀l:List Lx,(∀x∈l,RJ x.LY)→0≤(l.map (·.LY.Mem)).sum∧(l.map (·.LY.Mem)).sum≤1073741824*l.length:=by
  intro l
  induction l with
  | nil=>simp
  | cons x l ih=>
   intro hl
   have h1:=ih λy hy=>hl y (by simp[hy])
   have h2:=(hl x (by simp)).1
   rw[Nr,Wn,P5];omega
 unfold Vh;split
 ·have h1:=key (s.Kl.filter λx=>x.LM == c.LM&&(x.Id != c.Id&&x.Ll == c.Ll)) λx hx=>(h.ck x (Ta.1 hx).1).size;have h2:=TP (λx:Lx=>x.LM == c.LM&&(x.Id != c.Id&&x.Ll == c.Ll)) s.Kl;omega
 ·omega
end
def Uf(t:Int)(c:Lx):Lx:=⟨c.Id,c.LM,c.LG,⟨c.LY.Mem,c.LY.LA⟩,c.LD,c.Ll,c.Lp,t⟩
def Od(i t:Int)(c:Lx):Lx:=if c.Id=i then Uf t c else c
def Sj(s:JG)(i t:Int):JG:=⟨s.Lg,s.Lu,s.Lv,s.Kl.map (Od i t),s.LH,s.LJ,s.Now,s.L8,s.Seq⟩
theorem xR(t:Int):∀{l:List Lx},l.Pairwise (λx y=>x.Id<y.Id)→∀{k:Nat}(hk:k<l.length),l.set k (Uf t l[k])=l.map (Od l[k].Id t)
 | b::l,h,0,hk=>by
  have h1:=(SY.1 h).1;show Uf t b::l=Od b.Id t b::l.map (Od b.Id t)
  have e:l.map (Od b.Id t)=l:=by
   conv=>rhs;rw[← QfA l]
   refine QdG λx hx=>?_;unfold Od
   rw[if_neg (by have:=h1 x hx;omega)]
   rfl
  rw[e];unfold Od;rw[if_pos rfl]
 | b::l,h,k+1,hk=>by
  have h1:=(SY.1 h).1
  have hk':k<l.length:=by simpa using hk
  have ih:=xR t (SY.1 h).2 hk';have hb:=h1 _ (Nq hk');show b::l.set k (Uf t l[k])=Od l[k].Id t b::l.map (Od l[k].Id t);rw[ih];unfold Od
  rw[if_neg (by omega)]
section
variable{N:Nat}{s:JG}
theorem sy(hl:s.Kl.length≤1000)(i t:Int):cL s i t=some (Sj s i t):=by
 unfold cL
 rw[ao (by simp;omega) (by omega),K_,PX]
 have e:=az (Q:=λx=>x=s.Kl.map (Od i t)) (λ(l:List Lx) k=>(l,k)) s.Kl.length (λk l=>l=(s.Kl.take k).map (Od i t)++s.Kl.drop k) (step:=ca i t) (by omega) ?_ ?_ (s:=s.Kl) (by simp)
 ·obtain⟨x,e,rfl⟩:=e;rw[e];rfl
 ·rintro k hk l rfl
  have hA:((s.Kl.take k).map (Od i t)).length=k:=by rw[PI,Ox];omega
  have hn:(s.Kl.take (k+1)).map (Od i t)=(s.Kl.take k).map (Od i t)++[Od i t s.Kl[k]]:=by rw[Ra hk,Uo];rfl
  rw[hn,Wq hk,PS];generalize(s.Kl.take k).map (Od i t)=A at hA;generalize hB:s.Kl.drop (k+1)=B
  have hlen:s.Kl.length=A.length+(B.length+1):=by rw[← hB,hA,Rn];omega
  generalize s.Kl[k]=x;subst hA
  have hx:(A++x::B)[A.length]? = some x:=by simp
  have hkl:A.length<(A++x::B).length:=by simp
  unfold ca;dsimp only;rw[ah hkl,cond_true];simp only[aC hkl,K_,hx]
  show Gv ((bif x.Id == i then some (List.set (A++x::B) A.length (Uf t x))else some (A++x::B)).bind _) _
  have hs:List.set (A++x::B) A.length (Uf t x)=A++(Uf t x::B):=by simp
  unfold Od
  cases hp:x.Id == i with
  | true=>
   rw[cond_true,K_,hs,if_pos (by simpa using hp)]
   exact aa (.inl ⟨_,rfl,rfl⟩)
  | false=>
   rw[cond_false,K_,if_neg (by simpa using hp)]
   exact aa (.inl ⟨_,rfl,rfl⟩)
 ·rintro l rfl;rw[RB,QdL,Wo];unfold ca;dsimp only;rw[PI,am,cond_false];exact aa ⟨_,rfl,rfl⟩
theorem Bh(h:Inv N s)(i t:Int)(ht:0≤t∧t≤imax s.Now 1):Inv N (Sj s i t):=by
 obtain⟨u,e,hu⟩:=xI h i t ht
 rw[sy (by have:=h.cl;omega)]at e
 cases e;exact hu.1
theorem Hq{s:List Mr}(hn:s.length≤100000)(p:Mr→Bool){f:M7 fam [.st 16]→Option Bool}(hf:∀x,f (x,())=some (p x)) :
  (∃k,∃(hk:k<s.length),(s.take k).all (λx=>!p x)=true∧p s[k]=true∧mP s f=some (k:Int))∨(s.all (λx=>!p x)=true∧mP s f=some (-1)):=by
 unfold mP
 have h:=qt s p (step:=mE s f) (by omega) ?_ ?_
 ·rcases h with⟨k,hk,a,b,e⟩ | ⟨a,e⟩
  ·exact .inl ⟨k,hk,a,b,by rw[e];rfl⟩
  ·exact .inr ⟨a,by rw[e];rfl⟩
 ·intro k hk;unfold mE;rw[ah hk,cond_true,ai hk,K_,hf,K_]
  cases p s[k]<;>rfl
 ·unfold mE;rw[am];rfl
theorem ta(h:Inv N s)(hN:N≤1000000){c:Lx}(hc:c∈s.Kl):∃b,ml s c=some b∧∀x∈L_ s c.Ll,x.LB=cx s c→b=adg s c x.Mem:=by
 obtain⟨a,ha,e1,hat,hlf,hpl⟩:=qb h hc;have hlab:=(h.ck c hc).label;have hil:=mY h c.Ll;have hcl:=h.cl
 have hlen:a.Ls.length≤1000000:=by have:=(kC h.cf hpl).len;omega
 unfold ml;rw[vi (h.small hN),hat,K_];dsimp only[Option.elim_some];rw[qP h hlen,K_];have hu:=jI (label:=c.Ll) h a.Ls
 have e:=(bF (λ(n:Int) i=>(n,i)) s.Kl (λn x=>if(c.Lp&&(x.LM == c.LM&&(x.Id != c.Id&&x.Ll == c.Ll)))=true then n - x.LY.Mem else n) (λk n=>-(1073741824*(k:Int))≤n∧n≤214748364800) (λn=>n) (step:=lQ s c) (by omega) ?_ ?_ (s:=(MQ s a.Ls c.Ll true 0).Mem) ⟨by have:=hu.1;omega,hu.2⟩).1
 ·rw[e,K_,yA,ub h hlab.1 hlab.2,K_]
  have hoth:((s.Kl.filter λx=>c.Lp&&(x.LM == c.LM&&(x.Id != c.Id&&x.Ll == c.Ll))).map (·.LY.Mem)).sum=Vh s c:=by
   unfold Vh
   cases c.Lp with
   | true=>simp
   | false=>
    rw[if_neg (by simp),QdS.2 (λx _=>by simp)]
    rfl
  rw[hoth]
  rcases Hq (s:=L_ s c.Ll) (by omega) (λx=>x.LB == a.Ls) (f:=λa'=>oD a'.1 a) (λx=>rfl)with⟨k,hk,_,hp,e2⟩ | ⟨hno,e2⟩
  ·rw[e2,K_,decide_eq_true (by omega),cond_true,aC hk,K_,La hk,K_]
   refine⟨_,rfl,λx hx hxp=>?_⟩
   have:x=(L_ s c.Ll)[k]:=sP h hx (Nq hk) (by rw[hxp,hlf];simpa using(by simpa using hp:(L_ s c.Ll)[k].LB=a.Ls).symm)
   unfold adg;rw[this,hlf]
  ·obtain⟨x,hx,hxp⟩:=tD h c.Ll hpl;have:=Tg.1 hno x hx;simp[hxp]at this
 ·rintro k hk n ⟨h0,h1⟩;have hsz:=(h.ck _ (Nq hk)).size.1
  refine⟨?_,by split<;>omega⟩
  unfold lQ;dsimp only
  rw[ah hk,cond_true,ai hk,K_,aj (x:=n - s.Kl[k].LY.Mem) (by omega) (by omega)]
  cases c.Lp<;>cases s.Kl[k].LM == c.LM<;>cases s.Kl[k].Id != c.Id<;>cases s.Kl[k].Ll == c.Ll<;>rfl
 ·rintro n _;unfold lQ;dsimp only;rw[am];rfl
end
def Pf(c:Lx)(label now:Int):Bool:=c.Ll == label&&(c.Mw != 0&&decide (c.Mw+3≤now))
noncomputable def Px(t:JG)(c:Lx):Option JG:=match cN t c.Id with
 | none=>some t
 | some d=>(ml t d).bind λb=>some (if b=true then OG t d.Id else Sj t d.Id 0)
section
variable{N:Nat}{s:JG}
theorem EE(h:Inv N s)(hN:N<1000000)(c:Lx):Gv (Px s c) λt=>Inv (N+1) t∧t.Now=s.Now∧t.Lg=s.Lg∧∀d∈t.Kl,d∈s.Kl∨d.Id=c.Id:=by
 unfold Px
 cases hc:cN s c.Id with
 | none=>exact aa ⟨h.mono (by omega),rfl,rfl,λd hd=>.inl hd⟩
 | some d=>
  obtain⟨Wj,hdi⟩:=lR hc
  obtain⟨b,e,_⟩:=ta h (by omega) Wj
  dsimp only;rw[e,K_];refine aa ?_;split
  ·obtain⟨h1,h2⟩:=Bl h hN d.Id;refine⟨h1,?_,?_,λx hx=>.inl (h2.ct x hx).1⟩
   ·unfold OG;split
    ·rfl
    ·split
     ·rfl
     ·split<;>rfl
   ·unfold OG;split
    ·rfl
    ·split
     ·rfl
     ·split<;>rfl
  ·refine⟨(Bh h d.Id 0 ⟨YG _,by unfold imax;split<;>omega⟩).mono (by omega),rfl,rfl,λx hx=>?_⟩
   obtain⟨y,hy,rfl⟩:=RA.1 hx;unfold Od;split
   ·rename_i e
    exact .inr (by rw[← hdi,← e];rfl)
   ·exact .inl hy
theorem II(h:Inv N s)(hN:N<1000000){label:Int}{l:List Lx}{k:Nat}(hk:k<l.length)(hkn:k<1000000)(hlb:∀d,cN s l[k].Id=some d→d.Ll=label) :
  aZ label l (s,(k:Int))=(Px s l[k]).bind λt=>some (.inl (t,((k+1:Nat):Int))):=by
 unfold aZ Px;dsimp only
 rw[ah hk,cond_true,aC hk,K_,La hk,K_,fP h.z,K_,du (by omega)]
 cases hc:cN s l[k].Id with
 | none=>rfl
 | some d=>
  obtain⟨Wj,hdi⟩:=lR hc
  obtain⟨b,e,hb⟩:=ta h (by omega) Wj
  obtain⟨a,ha,e1,hat,hlf,hpl⟩:=qb h Wj;have hdl:=hlb d hc;obtain⟨x,hx,hxp⟩:=tD h d.Ll hpl
  have hxp:x.LB=cx s d:=by rw[hlf];exact hxp
  have hm:=Hd h hx;have hbx:=hb x hx hxp;have hu:=jI (label:=d.Ll) h (cx s d);have ho:=KJ h d;rw[hxp,hdl]at hm;simp only[Option.elim,PG,cond_false];rw[oq h.z,K_,gL h.sb,K_,Gb h,K_,K_,hm,K_];rw[hdl]at hu
  rw[aj (by omega) (by omega),wJ h (by omega),sy (by have:=h.cl;omega),e,K_]
  have:b=decide ((MQ s (cx s d) label true 0).Mem - Vh s d>x.Mem):=by rw[hbx];unfold adg;rw[hdl]
  rw[← this]
  cases b<;>rfl
theorem Ar(h:Inv N s)(i:Int){f:M7 fam [.st 7]→Option Bool}(hf:∀x,f (x,())=some (x.Id == i)) :
  (∃k,∃(hk:k<s.Kl.length),cN s i=some s.Kl[k]∧s.Kl[k].Id=i∧ju s.Kl f=some (k:Int))∨(cN s i=none∧ju s.Kl f=some (-1)):=by
 have hcl:=h.cl
 rcases CI (s:=s.Kl) (by omega) (λc=>c.Id == i) hf with⟨k,hk,a,b,e⟩ | ⟨a,e⟩
 ·exact .inl ⟨k,hk,wF hk a b,by simpa using b,e⟩
 ·exact .inr ⟨yw a,e⟩
theorem HM(h:Inv N s)(hN:N<1000000)(label:Int)(c:Lx)(hcd:∀d,cN s c.Id=some d→d=c) :
  kA label c s=if Pf c label s.Now=true then Px s c else some s:=by
 unfold kA Px;rcases Ar h c.Id (f:=λa'=>pF a'.1 c) (λx=>rfl)with⟨k,hk,e1,e2,e3⟩ | ⟨e1,e3⟩
 ·have hck:=hcd _ e1
  have hcm:c∈s.Kl:=by rw[← hck];exact Nq hk
  obtain⟨b,e,_⟩:=ta h (by omega) hcm
  have hnt:=h.sd.Vq c hcm;have ady:=h.now
  have Xt:oF c label s.Now=some (Pf c label s.Now):=by
   unfold oF Pf
   have:imax s.Now 1≤1000000000:=by unfold imax;split<;>omega
   rw[aj (by omega) (by omega),show decide (s.Now - c.Mw≥3)=decide (c.Mw+3≤s.Now)by rw[decide_eq_decide];omega]
   cases c.Ll == label<;>cases c.Mw != 0<;>rfl
  rw[e3,K_,decide_eq_false (by omega),cond_false,aC hk,K_,La hk,K_,hck,Xt,K_,K_]
  cases hl:Pf c label s.Now with
  | false=>rfl
  | true=>
   rw[PG,cond_false,if_pos rfl,e1,hck,e,K_];dsimp only;rw[e,K_,Jv h hN]
   cases b with
   | true=>rfl
   | false=>
    rw[cond_false,K_,La hk,K_,hck];have hs:=xR 0 h.cs hk;rw[hck]at hs
    rw[if_neg (by simp)]
    unfold Sj;rw[← hs];rfl
 ·rw[e3,K_,decide_eq_true (by omega),cond_true,e1]
  split<;>rfl
noncomputable def mM:JG→List Lx→Option JG
 | t,[]=>some t
 | t,c::l=>(Px t c).bind λu=>mM u l
theorem Dv(l m:List Lx):∀t,mM t (l++m)=(mM t l).bind λu=>mM u m:=by
 induction l with
 | nil=>intro t;rfl
 | cons c l ih=>
  intro t;show(Px t c).bind _=((Px t c).bind _).bind _
  cases Px t c with
  | none=>rfl
  | some u=>exact ih u
structure Kept(s:JG)(l:List Lx)(N:Nat)(t:JG):Prop where
 inv:Inv N t
 now:t.Now=s.Now
 conf:t.Lg=s.Lg
 ct:∀d∈t.Kl,d∈s.Kl∨∃c∈l,d.Id=c.Id
theorem Kept.step{l:List Lx}{t:JG}(h:Kept s l N t)(hN:N<1000000)(c:Lx):Gv (Px t c) (Kept s (l++[c]) (N+1)):=by
 refine nr (EE h.inv hN c) ?_;rintro u ⟨h1,h2,h3,h4⟩;refine⟨h1,h2.trans h.now,h3.trans h.conf,λd hd=>?_⟩;rcases h4 d hd with h5 | h5
 ·rcases h.ct d h5 with h6 | ⟨x,hx,h6⟩
  ·exact .inl h6
  ·exact .inr ⟨x,by simp[hx],h6⟩
 ·exact .inr ⟨c,by simp,h5⟩
theorem Kept.all:∀(m:List Lx){l:List Lx}{t:JG}{N:Nat},Kept s l N t→N+m.length<1000000→Gv (mM t m) (Kept s (l++m) (N+m.length))
 | [],l,t,N,h,_=>by rw[Wo];exact aa h
 | c::m,l,t,N,h,hN=>by
  simp only[P5]at hN
  refine ad (h.step (by omega) c) λu hu=>?_
  have:=Kept.all m hu (by omega)
  rw[PS]at this;refine nr this λv hv=>?_
  rw[P5,show N+(m.length+1)=N+1+m.length by omega]
  exact hv
end
def OJ(s:JG)(label:Int):List Lx:=(s.Kl.filter λc=>Pf c label s.Now).reverse
section
variable{N:Nat}{s:JG}{label:Int}
theorem yE(h:Inv N s):∀(k:Nat),k≤s.Kl.length→∀acc:List Lx,acc.length+k≤1000→loop (cI s label) (acc,(k:Int) - 1)=some (acc++((s.Kl.take k).filter λc=>Pf c label s.Now).reverse)
 | 0,_,acc,_=>by
  rw[bU (r:=acc) (by unfold cI;rfl)]
  simp
 | k+1,hk,acc,hl=>by
  have hk':k<s.Kl.length:=by omega
  have hnt:=h.sd.Vq _ (Nq hk');have ady:=h.now
  have him:imax s.Now 1≤1000000000:=by unfold imax;split<;>omega
  have ih:=λacc h=>yE h0 k (by omega) acc h
  rw[Ra hk',YR,QeM];generalize hx:s.Kl[k]=x at hnt
  have e:cI s label (acc,((k+1:Nat):Int) - 1)=some (.inl (if Pf x label s.Now=true then acc++[x]else acc,(k:Int) - 1)):=by
   unfold cI Pf;dsimp only
   rw[show((k+1:Nat):Int) - 1=(k:Int)by omega,decide_eq_true (by omega),cond_true,ai hk',K_,hx,aj (x:=x.Mw+3) (by omega) (by omega),aj (x:=(k:Int) - 1) (by omega) (by omega),ao (by simp;omega) (by omega),K_]
   cases x.Ll == label<;>cases x.Mw != 0<;>cases decide (x.Mw+3≤s.Now)<;>rfl
  rw[aP,e];dsimp only
  cases hl2:Pf x label s.Now with
  | true=>
   rw[if_pos rfl,ih _ (by simp;omega)]
   simp[hl2]
  | false=>
   rw[if_neg (by simp),ih _ (by omega)]
   simp[hl2]
where h0:Inv N s:=h
theorem wz(h:Inv N s)(hN:N+500<1000000){l:List Lx}(hd:l.Pairwise λx y=>x.Id≠y.Id)(hs:∀c∈l,c∈s.Kl∧c.Ll=label)(hl:l.length≤200) :
  ∀(m a:List Lx),l=a++m→∀t,Kept s a (N+a.length) t→loop (aZ label l) (t,(a.length:Int))=mM t m
 | [],a,e,t,ht=>by
  rw[Wo]at e;subst e
  rw[bU (r:=t) (by unfold aZ;dsimp only;rw[am,cond_false])]
  rfl
 | c::m,a,e,t,ht=>by
  have hal:a.length<l.length:=by rw[e];simp
  have hla:l[a.length]=c:=by simp[e]
  have e2:=II (label:=label) ht.inv (by omega) hal (by omega) (λd hd'=>by
   obtain⟨d1,d2⟩:=lR hd';rw[hla]at d2
   have hcs:=hs c (by rw[e];simp)
   rcases ht.ct d d1 with h5 | ⟨x,hx,h5⟩
   ·have:=gC (id:=λx:Lx=>x.Id) h.cs h5 hcs.1 d2;rw[this];exact hcs.2
   ·rw[e,QcX]at hd
    exact absurd (by omega) (hd.2.2 x hx c (by simp)))
  rw[hla]at e2;rw[aP,e2]
  obtain⟨u,eu,hu⟩:=ht.step (by omega) c
  show(match(Px t c).bind λt=>some (.inl (t,((a.length+1:Nat):Int)):(JG×Int) ⊕ JG)with | _=>_)=(Px t c).bind _
  rw[eu]
  have:=wz h hN hd hs hl m (a++[c]) (by rw[e];simp) u (by rw[Lc];exact hu)
  rw[Lc]at this;exact this
theorem vq(h:Inv N s)(label:Int):(OJ s label).Pairwise (λx y=>x.Id≠y.Id)∧(∀c∈OJ s label,c∈s.Kl∧c.Ll=label)∧(OJ s label).length≤200:=by
 unfold OJ;refine⟨?_,λc hc=>?_,?_⟩
 ·rw[List.pairwise_reverse];refine(h.cs.sublist QdC).imp λhxy=>?_;omega
 ·obtain⟨h1,h2⟩:=Ta.1 (QgE.1 hc);refine⟨h1,?_⟩;unfold Pf at h2;simp only[Ng]at h2;simpa using h2.1
 ·rw[QdH];exact P6 (TP _ _) h.cl
theorem xM(h:Inv N s)(hN:N+500<1000000):bP s label=mM s (OJ s label):=by
 have hcl:=h.cl;unfold bP;dsimp only
 rw[aj (by omega) (by omega),yE h s.Kl.length (MO _) [] (by simp;omega),K_,PX,RB]
 obtain⟨h1,h2,h3⟩:=vq h label;have:=wz h hN h1 h2 h3 (OJ s label) [] rfl s ⟨h,rfl,rfl,λd hd=>.inl hd⟩;show(loop (aZ label (OJ s label)) (s,0)).bind _=_
 rw[show loop (aZ label (OJ s label)) (s,0)=mM s (OJ s label)from this]
 cases mM s (OJ s label)<;>rfl
theorem y_(h:Inv N s)(hN:N+500<1000000):∀(r p:List Lx),s.Kl=p++r→Z6 (kA label) r s=mM s ((r.filter λc=>Pf c label s.Now).reverse)
 | [],p,e=>rfl
 | x::r,p,e=>by
  have ih:=y_ h hN r (p++[x]) (by rw[e];simp)
  show(Z6 (kA label) r s).bind _=_;rw[ih]
  have hlen:((r.filter λc=>Pf c label s.Now).reverse).length≤200:=by rw[QdH];have h1:=TP (λc=>Pf c label s.Now) r;have h2:=h.cl;have h3:=congrArg List.length e;simp at h3;omega
  have hk:=Kept.all (s:=s) ((r.filter λc=>Pf c label s.Now).reverse) (l:=[]) (t:=s) (N:=N) ⟨h,rfl,rfl,λd hd=>.inl hd⟩ (by omega)
  obtain⟨t,et,ht⟩:=hk;rw[PX]at ht
  have hxs:x∈s.Kl:=by rw[e];simp
  have e3:=HM ht.inv (by omega) label x (λd hd=>by
   obtain⟨d1,d2⟩:=lR hd;rcases ht.ct d d1 with h5 | ⟨y,hy,h5⟩
   ·exact gC (id:=λx:Lx=>x.Id) h.cs h5 hxs d2
   ·have hy:=(Ta.1 (QgE.1 hy)).1;have hp:=h.cs;rw[e,QcX]at hp;have:=(SY.1 hp.2.1).1 y hy;omega)
  rw[et,K_,e3,ht.now,Xc]
  cases hl:Pf x label s.Now with
  | true=>
   rw[if_pos rfl,if_pos rfl,List.reverse_cons,Dv,et,K_];show _=(Px t x).bind λu=>some u
   cases Px t x<;>rfl
  | false=>
   rw[if_neg (by simp),if_neg (by simp)]
   exact et.symm
theorem G3(h:Inv N s)(hN:N+500<1000000):m6 s label=bP s label:=by
 have hcl:=h.cl;unfold m6 mV
 rw[lM (by omega) (by omega),K_,y_ h hN s.Kl [] rfl,xM h hN]
 unfold OJ
 cases mM s ((s.Kl.filter λc=>Pf c label s.Now).reverse)<;>rfl
theorem Ep(h:Inv N s)(hN:N+500<1000000):Gv (bP s label) λt=>Inv (N+200) t∧t.Now=s.Now∧t.Lg=s.Lg:=by
 rw[xM h hN];have h3:=(vq h label).2.2
 refine nr (Kept.all (s:=s) (OJ s label) (l:=[]) (t:=s) (N:=N) ⟨h,rfl,rfl,λd hd=>.inl hd⟩ (by omega)) λt ht=>⟨ht.inv.mono (by omega),ht.now,ht.conf⟩
end
theorem sx{α ρ : Type}(l:List α)(p:α→Bool)(v:ρ){step:Int→Option (Int ⊕ (ρ ⊕ Unit))}(hn:l.length<1000000000)
  (h1:∀k (hk:k<l.length),step (k:Int)=some (bif p l[k]then .inr (.inl v)else .inl (LC ((k:Int)+1)))) (h3:step (l.length:Int)=some (.inr (.inr ()))) :
  loop step 0=some (bif l.any p then .inl v else .inr ()):=by
 have h:=az (σ:=Unit) (Q:=λx=>x=(bif l.any p then .inl v else .inr ():ρ ⊕ Unit)) (λ_ i=>i) l.length (λk _=>(l.take k).any p=false) (step:=step) hn ?_ ?_ (s:=()) rfl
 ·obtain⟨x,e,rfl⟩:=h;exact e
 ·intro k hk _ hs;rw[h1 k hk]
  cases hp:p l[k]with
  | false=>refine aa (.inl ⟨(),rfl,?_⟩);rw[Ra hk,List.any_append,hs];simp[hp]
  | true=>
   have:l.any p=true:=QfF.2 ⟨_,Nq hk,hp⟩
   exact aa (.inr ⟨_,rfl,by rw[this];rfl⟩)
 ·intro _ hs;rw[RB]at hs;rw[h3]
  exact aa ⟨_,rfl,by rw[hs];rfl⟩
def Sk(s:JG)(Lf:Str)(label:Int)(a:LM):Bool:=a.Mq.any λx=>x.Ll == label&&decide (x.LY.Mem+(MQ s Lf label true 0).Mem≤(NA s Lf label true).Mem)
def xd(s:JG)(Lf:Str)(label:Int):Bool:=s.Lv.any λa=>Mt a&&(a.Ls == Lf&&Sk s Lf label a)
def pW(s:JG)(Lf:Str)(label:Int):Int:=Nh (fI s Lf label).Mem ((NA s Lf label true).Mem - (MQ s Lf label true 0).Mem)
def m8(s:JG)(Lf:Str)(label:Int):Int:=bif xd s Lf label then pW s Lf label else 0
section
variable{N:Nat}{s:JG}{label:Int}
theorem IP(h:Inv N s)(Lf:Str):-214748364800≤pW s Lf label∧pW s Lf label≤6871947673600:=by
 have h1:=jI (label:=label) h Lf;have h2:=Gq (label:=label) h Lf;have h3:=uj (label:=label) h Lf;unfold pW Nh
 split<;>omega
theorem vN(h:Inv N s)(Lf:Str):-214748364800≤m8 s Lf label∧m8 s Lf label≤6871947673600:=by
 have:=IP (label:=label) h Lf;unfold m8
 cases xd s Lf label with
 | true=>exact this
 | false=>exact⟨by show(-214748364800:Int)≤0;omega,by show(0:Int)≤6871947673600;omega⟩
theorem BJ(h:Inv N s){Lf:Str}(hp:Lf.length≤1000000):dv s Lf label=some (m8 s Lf label):=by
 have hal:=h.al;have hu:=jI (label:=label) h Lf;have hle:=uj (label:=label) h Lf;unfold dv;rw[gL h.sb,K_,mL h.sc hp,K_]
 rw[sx s.Lv (λa=>Mt a&&(a.Ls == Lf&&Sk s Lf label a)) (pW s Lf label) (step:=bS s Lf label _ _) (by omega)]
 ·rw[K_];unfold m8 xd
  cases s.Lv.any λa=>Mt a&&(a.Ls == Lf&&Sk s Lf label a)<;>rfl
 ·intro k hk;have ha:=Nq hk;unfold bS;rw[ah hk,cond_true,ai hk,K_];generalize s.Lv[k]=a at ha;have hak:=h.ak a ha;have apx:=hak.al
  cases hg:Mt a&&a.Ls == Lf with
  | false=>
   rw[bU (r:=.inr ()) (by
    unfold bz;rw[jy,K_]
    cases hl:Mt a with
    | false=>cases decide ((0:Int)<(a.Mq.length:Int))<;>rfl
    | true=>
     rw[hl,YH]at hg;rw[hg]
     cases decide ((0:Int)<(a.Mq.length:Int))<;>rfl)]
   have:(Mt a&&(a.Ls == Lf&&Sk s Lf label a))=false:=by rw[← Bool.and_assoc,hg,Bool.false_and]
   rw[this];rfl
  | true=>
   obtain⟨g1,g2⟩:=(Ng _ _).mp hg
   rw[sx a.Mq (λx=>x.Ll == label&&decide (x.LY.Mem+(MQ s Lf label true 0).Mem≤(NA s Lf label true).Mem)) (pW s Lf label) (step:=bz s Lf label _ _ a) (by omega)]
   ·have:(Mt a&&(a.Ls == Lf&&Sk s Lf label a))=Sk s Lf label a:=by rw[g1,g2];rfl
    rw[this];unfold Sk
    cases a.Mq.any λx=>x.Ll == label&&decide (x.LY.Mem+(MQ s Lf label true 0).Mem≤(NA s Lf label true).Mem)<;>rfl
   ·intro j hj;have hsz:=(hak.ask _ (Nq hj)).size.1;unfold bz;rw[ah hj,cond_true,jy,K_,g1,cond_true,g2,K_,cond_true];simp only[ai hj,K_]
    rw[aj (x:=a.Mq[j].LY.Mem+_) (by omega) (by omega),qB h,K_,aj (x:=(NA s Lf label true).Mem - _) (by omega) (by omega)]
    cases a.Mq[j].Ll == label<;>cases decide (a.Mq[j].LY.Mem+(MQ s Lf label true 0).Mem≤(NA s Lf label true).Mem)<;>rfl
   ·unfold bz;rw[am];rfl
 ·unfold bS;rw[am];rfl
theorem Ei(h:Inv N s)(hl0:0≤label)(hl1:label<s.Lg.Lm.length){k:L9}(hk:k.s=s)(hlb:k.label=label){Lf:Str}(hp:Lf.length≤1000000):iT k Lf=some (m8 s Lf label,k):=by
 have hal:=h.al;have hu:=jI (label:=label) h Lf;have hle:=uj (label:=label) h Lf;unfold iT;rw[hk,hlb,qP h hp,K_,yY h.sc hp hl0 hl1,K_]
 rw[sx s.Lv (λa=>Mt a&&(a.Ls == Lf&&Sk s Lf label a)) (pW s Lf label) (step:=fc k Lf _ _) (by omega)]
 ·rw[K_];unfold m8 xd
  cases s.Lv.any λa=>Mt a&&(a.Ls == Lf&&Sk s Lf label a)<;>rfl
 ·intro i hi;have ha:=Nq hi;unfold fc;rw[hk,ah hi,cond_true,ai hi,K_];generalize s.Lv[i]=a at ha;have hak:=h.ak a ha;have apx:=hak.al
  have hlv:n_ a=some (Mt a):=by
   unfold n_ Mt
   cases a.JG == 1<;>rfl
  rw[hlv,K_]
  cases hl:Mt a with
  | false=>rfl
  | true=>
   rw[PG,cond_false,K_]
   cases hq:a.Ls == Lf with
   | false=>rfl
   | true=>
    rw[PG,cond_false]
    rw[sx a.Mq (λx=>x.Ll == label&&decide (x.LY.Mem+(MQ s Lf label true 0).Mem≤(NA s Lf label true).Mem)) (pW s Lf label) (step:=fk k Lf _ _ a) (by omega)]
    ·rw[YH,YH];unfold Sk
     cases a.Mq.any λx=>x.Ll == label&&decide (x.LY.Mem+(MQ s Lf label true 0).Mem≤(NA s Lf label true).Mem)<;>rfl
    ·intro j hj;have hsz:=(hak.ask _ (Nq hj)).size.1;unfold fk
     rw[ah hj,cond_true,ai hj,K_,hk,hlb,aj (x:=(MQ s Lf label true 0).Mem+_) (by omega) (by omega),vp h hp,K_,aj (x:=(NA s Lf label true).Mem - _) (by omega) (by omega),Int.add_comm (MQ s Lf label true 0).Mem]
     cases a.Mq[j].Ll == label<;>cases decide (a.Mq[j].LY.Mem+(MQ s Lf label true 0).Mem≤(NA s Lf label true).Mem)<;>rfl
    ·unfold fk;rw[am];rfl
 ·unfold fc;rw[hk,am];rfl
def RN(s:JG)(label:Int)(l:List Mr):Int:=(l.map λx=>m8 s x.LB label).sum
def qG(s:JG)(label:Int):Int:=imax ((gk s label).Mem - (MQ s root label true 0).Mem) 0
def Xk(s:JG)(label:Int):Int:=RN s label (L_ s label) - qG s label
theorem ul{α : Type}(f:α→Int):∀(l:List α)(z:Int),l.foldl (λn x=>n+f x) z=z+(l.map f).sum
 | [],z=>by simp
 | x::l,z=>by rw[TN,ul f l,Nr,Wn];omega
theorem Am(h:Inv N s):0≤qG s label∧qG s label≤12884901888:=by
 have htb:=mR h.sb label;have hnl:=h.nl;have hu:=jI (label:=label) h root;unfold VB at htb;unfold qG imax
 split<;>omega
theorem Cx(h:Inv N s):∀l:List Mr,-(214748364800*(l.length:Int))≤RN s label l∧RN s label l≤6871947673600*l.length
 | []=>by simp[RN]
 | x::l=>by have h1:=Cx h l;have h2:=vN (label:=label) h x.LB;unfold RN at h1 ⊢;rw[Nr,Wn,P5];omega
theorem Iw(h:Inv N s)(hl0:0≤label)(hl1:label<s.Lg.Lm.length){k:L9}(hk:k.s=s)(hlb:k.label=label):j8 k=some (Xk s label,k):=by
 have hil:=mY h label;unfold j8;rw[hk,hlb,ub h hl0 hl1,K_]
 have e:=(bF (λ(t:L9×Int) i=>(t.1,t.2,i)) (L_ s label) (λt x=>(t.1,t.2+m8 s x.LB label)) (λj t=>t.1=k∧(-(214748364800*(j:Int))≤t.2∧t.2≤6871947673600*(j:Int))) (λt=>t) (step:=cq (L_ s label)) (by omega) ?_ ?_ (s:=(k,0)) ⟨rfl,by simp⟩)
 ·obtain⟨e,e2,_⟩:=e
  have hf:∀(l:List Mr)(z:Int),l.foldl (λ(t:L9×Int) x=>(t.1,t.2+m8 s x.LB label)) (k,z)=(k,z+RN s label l):=by
   intro l
   induction l with
   | nil=>intro z;simp[RN]
   | cons x l ih=>intro z;rw[TN,ih];unfold RN;rw[Nr,Wn,Int.add_assoc]
  rw[hf]at e;show(loop (cq (L_ s label)) (k,0,0)).bind _=_
  rw[show loop (cq (L_ s label)) (k,0,0)=some (k,0+RN s label (L_ s label))from e,K_]
  dsimp only;have htb:=mR h.sb label;have hnl:=h.nl;have hu:=jI (label:=label) h root;have hfr:=Am (label:=label) h;have hsb:=Cx (label:=label) h (L_ s label);unfold VB at htb
  rw[hk,hlb,tA h.sc,K_,qP h (by decide),K_]
  have hr:([114,111,111,116]:Str)=root:=rfl
  rw[hr,aj (x:=(gk s label).Mem - _) (by omega) (by omega)]
  show some (LC (0+RN s label (L_ s label) - qG s label),k)=_
  rw[aj (by omega) (by omega),Int.zero_add]
  rfl
 ·rintro j hj ⟨k',z⟩ ⟨h1,h2⟩;dsimp only at h1 h2;subst h1;have hx:=Nq hj;have hb:=vN (label:=label) h (L_ s label)[j].LB
  refine⟨?_,rfl,by dsimp only;omega⟩
  unfold cq;dsimp only;rw[ah hj,cond_true,aC hj,K_,La hj,K_,Ei h hl0 hl1 hk hlb (mJ h hx).2.1,K_];dsimp only
  rw[aj (by omega) (by omega)]
 ·rintro⟨k',z⟩ _;unfold cq;dsimp only;rw[am];rfl
theorem DK(h:Inv N s):loop (bc s label (L_ s label)) (LC (0 - (imax (LC ((gk s label).Mem - (MQ s root label true 0).Mem)) 0)),0)=some (Xk s label):=by
 have hil:=mY h label;have htb:=mR h.sb label;have hnl:=h.nl;have hu:=jI (label:=label) h root;have hfr:=Am (label:=label) h;unfold VB at htb
 rw[aj (x:=(gk s label).Mem - _) (by omega) (by omega)]
 show loop (bc s label (L_ s label)) (LC (0 - qG s label),0)=_
 rw[aj (by omega) (by omega)]
 have e:=(bF (λ(n:Int) i=>(n,i)) (L_ s label) (λn x=>n+m8 s x.LB label) (λj n=>-12884901888 - 214748364800*(j:Int)≤n∧n≤6871947673600*(j:Int)) (λn=>n) (step:=bc s label (L_ s label)) (by omega) ?_ ?_ (s:=0 - qG s label) (by omega)).1
 ·rw[e,ul];unfold Xk RN
  congr 1
  omega
 ·rintro j hj n hn;have hx:=Nq hj;have hb:=vN (label:=label) h (L_ s label)[j].LB
  refine⟨?_,by omega⟩
  unfold bc;dsimp only
  rw[ah hj,cond_true,aC hj,K_,La hj,K_,BJ h (mJ h hx).2.1,K_,aj (by omega) (by omega)]
 ·rintro n _;unfold bc;dsimp only;rw[am];rfl
end
def NY(l:List Int)(c:Lx):Bool:=c.Mw != 0||W9 l c.Id
def pOf(s:JG)(Lf:Str)(label:Int)(c:Lx):Bool:=c.Ll == label&&(Lf == []||cx s c == Lf)
def Sr(s:JG)(Lf:Str)(label:Int)(l:List Int)(c:Lx):Int:=if(pOf s Lf label c&&NY l c)=true then c.LY.Mem else 0
def OE(s:JG)(cs:List Lx)(Lf:Str)(label:Int)(l:List Int):Int:=(cs.map (Sr s Lf label l)).sum
def sg(b:Lx×Bool)(c:Lx):Bool:=!b.2||((b.1.Lp&&!c.Lp)||(b.1.Lp == c.Lp&&decide (c.Id>b.1.Id)))
def SI(s:JG)(Lf:Str)(label:Int)(l:List Int)(c:Lx):Bool:=c.Ll == label&&(cx s c == Lf&&!NY l c)
def Ub(s:JG)(Lf:Str)(label:Int)(l:List Int)(b:Lx×Bool)(c:Lx):Lx×Bool:=if(SI s Lf label l c&&sg b c)=true then(c,true)else b
def Oh(s:JG)(cs:List Lx)(Lf:Str)(label:Int)(l:List Int):Lx×Bool:=cs.foldl (Ub s Lf label l) (Wu,false)
section
variable{N:Nat}{s:JG}{label:Int}
theorem CE(h:Inv N s)(Lf:Str)(l:List Int){c:Lx}(hc:c∈s.Kl):0≤Sr s Lf label l c∧Sr s Lf label l c≤1073741824:=by
 have hsz:=(h.ck c hc).size.1;unfold Sr
 split<;>omega
theorem uY(h:Inv N s)(Lf:Str)(l:List Int):∀cs:List Lx,(∀c∈cs,c∈s.Kl)→0≤OE s cs Lf label l∧OE s cs Lf label l≤1073741824*cs.length
 | [],_=>by simp[OE]
 | c::cs,hs=>by
  have h1:=uY h Lf l cs λx hx=>hs x (by simp[hx])
  have h2:=CE (label:=label) h Lf l (hs c (by simp))
  unfold OE at h1 ⊢;rw[Nr,Wn,P5];omega
theorem tT(h:Inv N s)(Lf:Str){l:List Int}(hl:l.length≤100000):co s Lf label l=some (OE s s.Kl Lf label l):=by
 have hcl:=h.cl;unfold co
 have e:=(bF (λ(n:Int) i=>(n,i)) s.Kl (λn c=>n+Sr s Lf label l c) (λk n=>0≤n∧n≤1073741824*(k:Int)) (λn=>n) (step:=bI s Lf label l) (by omega) ?_ ?_ (s:=0) (by simp)).1
 ·rw[e,ul,Int.zero_add];rfl
 ·rintro k hk n hn;have hc:=Nq hk;have hb:=CE (label:=label) h Lf l hc;have hsz:=(h.ck _ hc).size.1
  refine⟨?_,by omega⟩
  unfold bI;dsimp only;rw[ah hk,cond_true,ai hk,K_];generalize s.Kl[k]=c at hb hsz
  rw[u7 hl,oq h.z,K_,K_,aj (x:=n+c.LY.Mem) (by omega) (by omega)]
  unfold Sr pOf NY
  cases c.Ll == label with
  | false=>simp
  | true=>
   cases hp:Lf == ([]:List UInt8)with
   | true=>cases c.Mw != 0<;>cases W9 l c.Id<;>simp
   | false=>cases cx s c == Lf<;>cases c.Mw != 0<;>cases W9 l c.Id<;>simp
 ·rintro n _;unfold bI;dsimp only;rw[am];rfl
theorem Fp(h:Inv N s)(Lf:Str){l:List Int}(hl:l.length≤100000):da s Lf label l=some (Oh s s.Kl Lf label l):=by
 have hcl:=h.cl;unfold da
 have e:=(bF (λ(t:Lx×Bool) i=>(t.1,t.2,i)) s.Kl (Ub s Lf label l) (λ_ _=>True) (λt=>t) (step:=bi s Lf label l) (by omega) ?_ ?_ (s:=(Wu,false)) trivial).1
 ·show(loop (bi s Lf label l) (Wu,false,0)).bind _=_;rw[e];rfl
 ·rintro k hk ⟨b,is⟩ _;refine⟨?_,trivial⟩;unfold bi;dsimp only;rw[ah hk,cond_true,ai hk,K_];generalize s.Kl[k]=c;rw[u7 hl,oq h.z,K_,K_];unfold Ub SI sg NY;dsimp only;have hlb:(c.Ll != label)=!(c.Ll == label):=rfl;rw[hlb]
  cases c.Ll == label with
  | false=>simp
  | true=>
   cases cx s c == Lf with
   | false=>simp
   | true=>
    cases c.Mw != 0 with
    | true=>simp
    | false=>
     cases W9 l c.Id with
     | true=>simp
     | false=>
      cases is with
      | false=>simp
      | true=>
       cases b.Lp<;>cases c.Lp<;>cases decide (c.Id>b.Id)<;>simp
 ·rintro⟨b,is⟩ _;unfold bi;dsimp only;rw[am];rfl
theorem Cd{f g:Lx→Int}{c:Lx}{v:Int}(hv:g c=f c+v):∀cs:List Lx,cs.Pairwise (λx y=>x.Id<y.Id)→(∀d∈cs,d.Id≠c.Id→g d=f d)→c∈cs→(cs.map g).sum=(cs.map f).sum+v
 | [],_,_,hc=>by cases hc
 | d::cs,hp,hd,hc=>by
  have hp':=SY.1 hp;rw[Nr,Nr,Wn,Wn];rcases NH.1 hc with rfl | hc
  ·have e:cs.map g=cs.map f:=QdG λx hx=>hd x (by simp[hx]) (by have:=hp'.1 x hx;omega)
   rw[e,hv];omega
  ·rw[Cd hv cs hp'.2 (λx hx=>hd x (by simp[hx])) hc,hd d (by simp) (by have:=hp'.1 c hc;omega)]
   omega
theorem vT(l:List Int)(x n:Int):W9 (l++[x]) n=(W9 l n||n == x):=by unfold W9;rw[Yb];simp[YI]
theorem zB(h:Inv N s)(Lf:Str){l:List Int}{c:Lx}(hc:c∈s.Kl)(hlb:c.Ll=label)(hg:NY l c=false) :
  OE s s.Kl Lf label (l++[c.Id])=OE s s.Kl Lf label l+(if(Lf == []||cx s c == Lf)=true then c.LY.Mem else 0):=by
 unfold OE;refine Cd (c:=c) ?_ s.Kl h.cs ?_ hc
 ·have h1:NY (l++[c.Id]) c=true:=by unfold NY;rw[vT];simp
  unfold Sr pOf
  rw[h1,hg,show(c.Ll == label)=true by simpa using hlb]
  simp
 ·intro d hd hne;unfold Sr NY
  rw[vT,show(d.Id == c.Id)=false from beq_eq_false_iff_ne.2 hne,QgX]
end
structure LX(s:JG)(label:Int)(cs:List Lx)(l:List Int)(k:L9):Prop where
 st:k.s=s
 lab:k.label=label
 leaf:∀id,R8 k id=cs.any λc=>c.Id == id&&c.Ll == label
 lv:∀c∈cs,c.Ll=label→lval k c.Id=cx s c
 nv:∀c∈cs,c.Ll=label→(0<nval k c.Id↔NY l c=true)
 nz:∀id,(∀c∈cs,c.Id≠id)→nval k id=0
 nb:∀id,0≤nval k id∧nval k id≤100000
 ov:∀x∈L_ s label,oval k x.LB=(MQ s x.LB label true 0).Mem - x.Mem - OE s cs x.LB label l
 gn:k.gone=OE s cs [] label l
theorem z8(k:L9)(c:Lx):∃k',b8 k c=some k'∧k'.s=k.s∧k'.label=k.label∧(∀id,R8 k' id=R8 k id)∧(∀id,lval k' id=lval k id)∧
  (∀id,nval k' id=if id=c.Id then LC (nval k c.Id+1)else nval k id)∧(∀p,oval k' p=if p=lval k c.Id then LC (oval k (lval k c.Id) - c.LY.Mem)else oval k p)∧k'.gone=LC (k.gone+c.LY.Mem):=by
 refine⟨_,Ek k c,rfl,rfl,λ_=>rfl,λ_=>rfl,λid=>?_,λp=>?_,rfl⟩
 ·unfold nval;dsimp only;rw[oy (key:=λx:NP=>x.k) (q':=c.Id) rfl]
  split<;>rfl
 ·unfold oval;dsimp only;rw[oy (key:=λx:Mc=>x.k) (q':=lval k c.Id) rfl]
  split<;>rfl
section
variable{N:Nat}{s:JG}{label:Int}
theorem I0(h:Inv N s){cs:List Lx}{l:List Int}{k:L9}(hk:LX s label cs l k)(hs:∀c∈cs,c∈s.Kl)(hl:cs.length≤200){x:Mr}(hx:x∈L_ s label):-300000000000≤oval k x.LB∧oval k x.LB≤300000000000:=by have h1:=uY (label:=label) h x.LB l cs hs;have h2:=jI (label:=label) h x.LB;have h3:=(mJ h hx).1;rw[hk.ov x hx];omega
theorem IY(h:Inv N s){cs:List Lx}{l:List Int}{k:L9}(hk:LX s label cs l k)(hs:∀c∈cs,c∈s.Kl)(hl:cs.length≤200):0≤k.gone∧k.gone≤214748364800:=by have h1:=uY (label:=label) h [] l cs hs;rw[hk.gn];omega
theorem ox(cs:List Lx)(c:Lx)(Lf:Str)(l:List Int):OE s (cs++[c]) Lf label l=OE s cs Lf label l+Sr s Lf label l c:=by unfold OE;rw[Uo,List.sum_append];simp
theorem LX.next(h:Inv N s)(hN:N≤1000000){cs:List Lx}{k:L9}(hk:LX s label cs [] k)(hs:∀c∈cs,c∈s.Kl)(hl:cs.length≤200){c:Lx}(hc:c∈s.Kl)(hn:∀d∈cs,d.Id≠c.Id) :
  Gv (bif c.Ll != label then
    some k
   else
    (nZ s c.LM).bind λx5=>
    bif c.Mw != 0 then
     (b8 (⟨⟨⟨k.s.Lg.Lm,k.s.Lg.Lh⟩,k.s.Lu,k.s.Lv,k.s.Kl,k.s.LH,k.s.LJ,k.s.Now,k.s.L8,k.s.Seq⟩,k.label,k.over,OQ (λx6:L6=>c.Id == x6.k) k.leaf (⟨c.Id,x5.1.Ls⟩:L6),k.Oc,k.gone⟩:L9) c).bind λx7=>
     some x7
    else
     some (⟨⟨⟨k.s.Lg.Lm,k.s.Lg.Lh⟩,k.s.Lu,k.s.Lv,k.s.Kl,k.s.LH,k.s.LJ,k.s.Now,k.s.L8,k.s.Seq⟩,k.label,k.over,OQ (λx6:L6=>c.Id == x6.k) k.leaf (⟨c.Id,x5.1.Ls⟩:L6),k.Oc,k.gone⟩:L9)) (LX s label (cs++[c]) []):=by
 have hsz:=(h.ck c hc).size.1
 cases hlb:c.Ll != label with
 | true=>
  have hf:(c.Ll == label)=false:=by simpa using hlb
  have hz:∀Lf,Sr s Lf label [] c=0:=λLf=>by unfold Sr pOf;rw[hf];simp
  rw[cond_true]
  refine aa ⟨hk.st,hk.lab,λid=>?_,λd hd e=>?_,λd hd e=>?_,λid hi=>hk.nz id λd hd=>hi d (by simp[hd]),hk.nb,λx hx=>?_,?_⟩
  ·rw[List.any_append,hk.leaf];simp[hf]
  ·rcases N_.1 hd with hd | hd
   ·exact hk.lv d hd e
   ·rw[Ld]at hd;subst hd;rw[e]at hf;simp at hf
  ·rcases N_.1 hd with hd | hd
   ·exact hk.nv d hd e
   ·rw[Ld]at hd;subst hd;rw[e]at hf;simp at hf
  ·rw[ox,hz,QgR];exact hk.ov x hx
  ·rw[ox,hz,QgR];exact hk.gn
 | false=>
  have hlab:c.Ll=label:=by simpa using hlb
  obtain⟨a,ha,e1,hat,hlf,hpl⟩:=qb h hc;rw[cond_false,vi (h.small hN),hat,Option.elim_some,K_];dsimp only;obtain⟨k1,hk1⟩:∃k1:L9,k1=⟨⟨⟨k.s.Lg.Lm,k.s.Lg.Lh⟩,k.s.Lu,k.s.Lv,k.s.Kl,k.s.LH,k.s.LJ,k.s.Now,k.s.L8,k.s.Seq⟩,k.label,k.over,OQ (λx6:L6=>c.Id == x6.k) k.leaf (⟨c.Id,a.Ls⟩:L6),k.Oc,k.gone⟩:=⟨_,rfl⟩;rw[← hk1]
  have f1:k1.s=s:=by rw[hk1];exact hk.st
  have f2:k1.label=label:=by rw[hk1];exact hk.lab
  have f3:∀id,R8 k1 id=(id == c.Id||R8 k id):=λid=>by rw[hk1];unfold R8;dsimp only;rw[rn (key:=λx:L6=>x.k) (q':=c.Id) rfl]
  have f4:∀id,lval k1 id=if id=c.Id then a.Ls else lval k id:=λid=>by
   rw[hk1];unfold lval;dsimp only;rw[oy (key:=λx:L6=>x.k) (q':=c.Id) rfl]
   split<;>rfl
  have f5:∀id,nval k1 id=nval k id:=λid=>by rw[hk1];rfl
  have f6:∀p,oval k1 p=oval k p:=λp=>by rw[hk1];rfl
  have f7:k1.gone=k.gone:=by rw[hk1]
  clear hk1
  have g3:∀id,(id == c.Id||R8 k id)=(cs++[c]).any λd=>d.Id == id&&d.Ll == label:=λid=>by
   rw[List.any_append,← hk.leaf,Bool.or_comm];simp only[List.any_cons,List.any_nil,QgX]
   rw[show(c.Ll == label)=true by simpa using hlab,QgF,show(id == c.Id)=(c.Id == id)from Yb.2 (by rw[beq_iff_eq,beq_iff_eq];exact eq_comm)]
  have g4:∀d∈cs++[c],d.Ll=label→(if d.Id=c.Id then a.Ls else lval k d.Id)=cx s d:=λd hd e=>by
   rcases N_.1 hd with hd | hd
   ·rw[if_neg (hn d hd)];exact hk.lv d hd e
   ·rw[Ld]at hd;subst hd;rw[if_pos rfl,hlf]
  cases hnz:c.Mw != 0 with
  | false=>
   have hg:NY [] c=false:=by unfold NY W9;rw[hnz];rfl
   have hz:∀Lf,Sr s Lf label [] c=0:=λLf=>by unfold Sr;rw[hg];simp
   rw[cond_false]
   refine aa ⟨f1,f2,λid=>(f3 id).trans (g3 id),λd hd e=>(f4 d.Id).trans (g4 d hd e),λd hd e=>?_,λid hi=>(f5 id).trans (hk.nz id λd hd=>hi d (by simp[hd])),λid=>by rw[f5];exact hk.nb id,λx hx=>?_,?_⟩
   ·rw[f5];rcases N_.1 hd with hd | hd
    ·exact hk.nv d hd e
    ·rw[Ld]at hd;subst hd;rw[hk.nz d.Id hn,hg];simp
   ·rw[ox,hz,QgR,f6];exact hk.ov x hx
   ·rw[ox,hz,QgR,f7];exact hk.gn
  | true=>
   have hg:NY [] c=true:=by unfold NY;rw[hnz];rfl
   rw[cond_true];obtain⟨k2,e2,n1,n2,n3,n4,n5,n6,n7⟩:=z8 k1 c;rw[e2,K_]
   have hlc:lval k1 c.Id=a.Ls:=by rw[f4,if_pos rfl]
   have hn0:=hk.nz c.Id hn;have hgb:=IY h hk hs hl;refine aa ⟨n1.trans f1,n2.trans f2,λid=>(n3 id).trans ((f3 id).trans (g3 id)),λd hd e=>(n4 d.Id).trans ((f4 d.Id).trans (g4 d hd e)),λd hd e=>?_,λid hi=>?_,λid=>?_,λx hx=>?_,?_⟩
   ·rw[n5,f5,f5,hn0];rcases N_.1 hd with hd | hd
    ·rw[if_neg (hn d hd)];exact hk.nv d hd e
    ·rw[Ld]at hd;subst hd;rw[if_pos rfl,hg];decide
   ·rw[n5,if_neg (λe=>hi c (by simp) e.symm),f5]
    exact hk.nz id λd hd=>hi d (by simp[hd])
   ·rw[n5,f5,f5,hn0];have:=hk.nb id;split
    ·decide
    ·exact this
   ·have hob:=I0 h hk hs hl hx;rw[n6,hlc,f6,f6,ox];unfold Sr pOf
    rw[hg,show(c.Ll == label)=true by simpa using hlab,hlf]
    have hxp:x.LB≠[]:=by
     intro e0;have hr:=(kC h.cf (mJ h hx).2.2).root;rw[e0]at hr;rcases hr with hr | ⟨t,hr⟩
     ·cases hr
     ·cases hr
    rw[show(x.LB == ([]:Str))=false from beq_eq_false_iff_ne.2 hxp]
    by_cases e:x.LB=a.Ls
    ·rw[if_pos e,← e,aj (by omega) (by omega),hk.ov x hx]
     simp;omega
    ·rw[if_neg e,hk.ov x hx,show(a.Ls == x.LB)=false from beq_eq_false_iff_ne.2 λe'=>e e'.symm]
     simp
   ·rw[n7,f7,aj (by omega) (by omega),ox,hk.gn]
    unfold Sr pOf
    rw[hg,show(c.Ll == label)=true by simpa using hlab]
    simp
theorem KU(h:Inv N s)(hN:N≤1000000)(hl0:0≤label)(hl1:label<s.Lg.Lm.length):Gv (oL s label) (LX s label s.Kl []):=by
 unfold oL;rw[ub h hl0 hl1,K_];have hil:=mY h label;have hcl:=h.cl;refine ad (az (Q:=λk=>LX s label [] [] k) (λ(k:L9) i=>(k,i)) (L_ s label).length
  (λm k=>k.s=s∧k.label=label∧k.leaf = []∧k.Oc = []∧k.gone=0∧∀x∈(L_ s label).take m,oval k x.LB=(MQ s x.LB label true 0).Mem - x.Mem) (step:=mz s label (L_ s label)) (by omega) ?_ ?_ ⟨rfl,rfl,rfl,rfl,rfl,λx hx=>by simp at hx⟩) ?_
 ·rintro i hi k ⟨h1,h2,h3,h4,h5,h6⟩;unfold mz;dsimp only;rw[ah hi,cond_true,aC hi,K_,La hi,K_];have hx:=Nq hi;obtain⟨b1,b2,_⟩:=mJ h hx;have b3:=jI (label:=label) h (L_ s label)[i].LB
  rw[qP h b2,K_,aj (x:=_ - (L_ s label)[i].Mem) (by omega) (by omega)]
  refine aa (.inl ⟨_,rfl,h1,h2,h3,h4,h5,λy hy=>?_⟩);unfold oval;dsimp only;rw[oy (key:=λx:Mc=>x.k) (q':=(L_ s label)[i].LB) rfl];by_cases e:y.LB=(L_ s label)[i].LB
  ·rw[if_pos e];have hym:y∈L_ s label:=QdM hy;rw[sP h hym hx e]
  ·rw[if_neg e];rcases Gs hi hy with hy | rfl
   ·exact h6 y hy
   ·exact absurd rfl e
 ·rintro k ⟨h1,h2,h3,h4,h5,h6⟩;rw[RB]at h6;unfold mz;dsimp only;rw[am,cond_false]
  refine aa ⟨_,rfl,h1,h2,λid=>(by unfold R8 O6;rw[h3];rfl),λc hc=>(by cases hc),λc hc=>(by cases hc),λid _=>(by unfold nval Oi;rw[h4];rfl),λid=>(by unfold nval Oi;rw[h4];exact⟨YG 0,by show(0:Int)≤100000;omega⟩),λx hx=>?_,(by rw[h5];rfl)⟩
  rw[h6 x hx];unfold OE;simp
 ·intro k0 hk0
  refine ad (az (Q:=LX s label s.Kl []) (λ(k:L9) i=>(k,i)) s.Kl.length (λm k=>LX s label (s.Kl.take m) [] k) (step:=mB s label) (by omega) ?_ ?_ hk0) (λk hk=>aa hk)
  ·rintro i hi k hk
   have hn:=LX.next (c:=s.Kl[i]) h hN hk (λc hc=>QdM hc) (by rw[Ox];omega) (Nq hi) (λd hd=>by
    have hp:=h.cs;rw[← Xe i s.Kl,QcX]at hp
    have:=hp.2.2 d hd s.Kl[i] (by rw[show s.Kl.drop i=s.Kl[i]::s.Kl.drop (i+1)from Wq hi];exact YS)
    omega)
   rw[← Ra hi]at hn;unfold mB;dsimp only;rw[ah hi,cond_true,ai hi,K_];exact ad hn λk' hk'=>aa (.inl ⟨k',rfl,hk'⟩)
  ·rintro k hk;rw[RB]at hk;unfold mB;dsimp only;rw[am,cond_false];exact aa ⟨_,rfl,hk⟩
end
def Rs(s:JG)(label:Int)(l:List Int)(x:Mr):Int:=(MQ s x.LB label true 0).Mem - x.Mem - OE s s.Kl x.LB label l
def U4(s:JG)(label:Int)(l:List Int)(t:Int×Lx)(x:Mr):Int×Lx:=if((Oh s s.Kl x.LB label l).2&&decide (Rs s label l x>t.1))=true then(Rs s label l x,(Oh s s.Kl x.LB label l).1)else t
def Tk(s:JG)(label:Int)(l:List Int):Int×Lx:=(L_ s label).foldl (U4 s label l) (0,Wu)
section
variable{N:Nat}{s:JG}{label:Int}
theorem vE(cs:List Lx)(c:Lx)(Lf:Str)(l:List Int):Oh s (cs++[c]) Lf label l=Ub s Lf label l (Oh s cs Lf label l) c:=by unfold Oh;rw[QfV];rfl
theorem AU(Lf:Str)(l:List Int)(cs:List Lx):(Oh s cs Lf label l).2=true→(Oh s cs Lf label l).1∈cs∧SI s Lf label l (Oh s cs Lf label l).1=true:=by
 have key:∀m,m≤cs.length→(Oh s (cs.take m) Lf label l).2=true→(Oh s (cs.take m) Lf label l).1∈cs∧SI s Lf label l (Oh s (cs.take m) Lf label l).1=true:=by
  intro m
  induction m with
  | zero=>intro _ h;rw[List.take_zero]at h;exact absurd h (by simp[Oh])
  | succ m ih=>
   intro hm
   rw[Ra (show m<cs.length by omega),vE]
   unfold Ub;split
   ·rename_i hc;intro _;exact⟨Nq _,((Ng _ _).mp hc).1⟩
   ·exact ih (by omega)
 have:=key cs.length (MO _);rw[RB]at this;exact this
theorem sL(h:Inv N s){Lf:Str}{l:List Int}{c:Lx}(hc:c∈s.Kl)(hp:SI s Lf label l c=true):c.Ll=label∧cx s c=Lf∧NY l c=false∧Lf≠[]∧∃x∈L_ s label,x.LB=Lf:=by
 unfold SI at hp;simp only[Ng,beq_iff_eq,UJ]at hp;obtain⟨h1,h2,h3⟩:=hp;obtain⟨a,ha,e1,hat,hlf,hpl⟩:=qb h hc;rw[hlf]at h2;subst h2;obtain⟨x,hx,hxp⟩:=tD h label hpl;refine⟨h1,hlf,h3,?_,x,hx,hxp⟩;intro e0;have hr:=(kC h.cf hpl).root;rw[e0]at hr;rcases hr with hr | ⟨t,hr⟩
 ·cases hr
 ·cases hr
structure BS(s:JG)(label:Int)(l:List Int)(k:L9)(cs:List Lx)(best:List Lr):Prop where
 has:∀p:Str,O6 (λx:Lr=>p == x.k) best=(decide (0<oval k p)&&(Oh s cs p label l).2)
 get:∀(p:Str) z,O6 (λx:Lr=>p == x.k) best=true→(Oi (λx:Lr=>p == x.k) best z).v=(Oh s cs p label l).1
theorem Ka(c:Lx):(⟨c.Id,c.LM,c.LG,⟨c.LY.Mem,c.LY.LA⟩,c.LD,c.Ll,c.Lp,c.Mw⟩:Lx)=c:=rfl
theorem K1(h:Inv N s){l:List Int}{k:L9}(hk:LX s label s.Kl l k):Gv (loop (dA k) ([],0)) (BS s label l k s.Kl):=by
 have hcl:=h.cl
 have hks:k.s.Kl.length≤200:=by rw[hk.st];exact hcl
 refine az (λ(b:List Lr) i=>(b,i)) k.s.Kl.length (λm b=>BS s label l k (s.Kl.take m) b) (step:=dA k) (by omega) ?_ ?_ (s:=[]) ⟨λp=>by simp[O6,Oh],λp z hp=>by simp[O6]at hp⟩
 ·intro i hi b hb
  have hi':i<s.Kl.length:=by rw[← hk.st];exact hi
  have hcm:=Nq hi';unfold dA;dsimp only;rw[ah hi,cond_true,ai hi,K_];simp only[hk.st];refine ad (P:=BS s label l k (s.Kl.take (i+1))) ?_ (λb' hb'=>aa (.inl ⟨b',rfl,hb'⟩));rw[Ra hi'];generalize s.Kl[i]=c at hcm;generalize s.Kl.take i=cs at hb
  have hlh:R8 k c.Id=(c.Ll == label):=by
   rw[hk.leaf]
   cases hl:c.Ll == label with
   | true=>exact QfF.2 ⟨c,hcm,by simp[hl]⟩
   | false=>rw[List.any_eq_false];intro d hd hx;simp only[Ng,beq_iff_eq]at hx;have:=gC (id:=λx:Lx=>x.Id) h.cs hd hcm hx.1;rw[← this,hx.2]at hl;simp at hl
  show Gv ((bif !(R8 k c.Id)then some true else bif decide (nval k c.Id>0)then some true else some (decide (oval k (lval k c.Id)≤0))).bind λq=>bif q then some b else _) _
  have akN:(bif !(R8 k c.Id)then some true else bif decide (nval k c.Id>0)then some true else some (decide (oval k (lval k c.Id)≤0)))=some (!(R8 k c.Id)||(decide (nval k c.Id>0)||decide (oval k (lval k c.Id)≤0))):=by
   cases R8 k c.Id<;>cases decide (nval k c.Id>0)<;>rfl
  rw[akN,K_]
  have same:(∀p,SI s p label l c=true→¬ 0<oval k p)→BS s label l k (cs++[c]) b:=by
   intro hno
   have e:∀p,0<oval k p→Oh s (cs++[c]) p label l=Oh s cs p label l:=by intro p hp;rw[vE];unfold Ub;rw[if_neg];intro hx;exact hno p ((Ng _ _).mp hx).1 hp
   have d:∀p,(decide (0<oval k p)&&(Oh s (cs++[c]) p label l).2)=(decide (0<oval k p)&&(Oh s cs p label l).2):=by
    intro p;by_cases hp:0<oval k p
    ·rw[e p hp]
    ·rw[decide_eq_false hp];rfl
   refine⟨λp=>by rw[hb.has,d],λp z hz=>?_⟩
   have hz2:=hz;rw[hb.has]at hz2
   rw[hb.get p z hz,e p (by simpa using((Ng _ _).mp hz2).1)]
  cases hq:(!(R8 k c.Id)||(decide (nval k c.Id>0)||decide (oval k (lval k c.Id)≤0)))with
  | true=>
   rw[cond_true];refine aa (same λp hp hov=>?_);obtain⟨p1,p2,p3,_⟩:=sL h hcm hp
   have hl:R8 k c.Id=true:=by rw[hlh];simpa using p1
   have hn:¬ 0<nval k c.Id:=λhx=>by rw[(hk.nv c hcm p1).1 hx]at p3;cases p3
   rw[hl,hk.lv c hcm p1,p2,decide_eq_false (by omega),decide_eq_false (by omega)]at hq
   cases hq
  | false=>
   rw[cond_false];simp only[YT,QdU,decide_eq_false_iff_not]at hq;obtain⟨q1,q2,q3⟩:=hq
   have hlab:c.Ll=label:=by rw[hlh]at q1;simpa using q1
   have hgo:NY l c=false:=by
    cases hg:NY l c with
    | false=>rfl
    | true=>exact absurd ((hk.nv c hcm hlab).2 hg) (by omega)
   have hlv:=hk.lv c hcm hlab;rw[hlv]at q3
   have hov:0<oval k (cx s c):=by omega
   have acy:∀p,SI s p label l c=(cx s c == p):=λp=>by
    unfold SI
    rw[hgo,show(c.Ll == label)=true by simpa using hlab]
    simp
   have hlv2:(Oi (λx1:L6=>c.Id == x1.k) k.leaf (⟨c.Id,[]⟩:L6)).v=cx s c:=hlv;rw[hlv2];generalize hp0:cx s c=p0 at hov acy;obtain⟨r,er,hr⟩:∃r,r=Oh s cs p0 label l∧True:=⟨_,rfl,trivial⟩;have hhas:=hb.has p0;rw[decide_eq_true hov,YH,← er]at hhas
   have hget:∀z,r.2=true→(Oi (λx:Lr=>p0 == x.k) b z).v=r.1:=λz hz=>by rw[er];exact hb.get p0 z (by rw[hhas];exact hz)
   rw[hhas]
   have adR:(bif !r.2 then some true
     else
      bif(Oi (λx4:Lr=>p0 == x4.k) b (⟨p0,⟨0,0,0,⟨0,0⟩,0,0,false,0⟩⟩:Lr)).v.Lp then
       bif ! c.Lp then
        some true
       else
        bif(Oi (λx4:Lr=>p0 == x4.k) b (⟨p0,⟨0,0,0,⟨0,0⟩,0,0,false,0⟩⟩:Lr)).v.Lp == c.Lp then
         some (decide (c.Id>(Oi (λx4:Lr=>p0 == x4.k) b (⟨p0,⟨0,0,0,⟨0,0⟩,0,0,false,0⟩⟩:Lr)).v.Id))
        else
         some false
      else
       bif(Oi (λx4:Lr=>p0 == x4.k) b (⟨p0,⟨0,0,0,⟨0,0⟩,0,0,false,0⟩⟩:Lr)).v.Lp == c.Lp then
        some (decide (c.Id>(Oi (λx4:Lr=>p0 == x4.k) b (⟨p0,⟨0,0,0,⟨0,0⟩,0,0,false,0⟩⟩:Lr)).v.Id))
       else
        some false)=some (sg r c):=by
    unfold sg
    cases hr2:r.2 with
    | false=>rfl
    | true=>
     rw[hget _ hr2]
     cases r.1.Lp<;>cases c.Lp<;>cases decide (c.Id>r.1.Id)<;>rfl
   rw[adR,K_]
   have hnew:∀p,Oh s (cs++[c]) p label l=if p=p0∧sg r c=true then(c,true)else Oh s cs p label l:=λp=>by
    rw[vE];unfold Ub;rw[acy p];by_cases e:p=p0
    ·subst e;rw[← er];simp
    ·rw[show(p0 == p)=false from beq_eq_false_iff_ne.2 λe'=>e e'.symm]
     simp[e]
   cases hw:sg r c with
   | true=>
    rw[cond_true,Ka];refine aa ⟨λp=>?_,λp z hz=>?_⟩
    ·rw[rn (key:=λx:Lr=>x.k) (q':=p0) rfl,hnew p,hw];by_cases e:p=p0
     ·subst e;simp[hov]
     ·rw[show(p == p0)=false from beq_eq_false_iff_ne.2 e,if_neg (λe'=>e e'.1),QfM]
      exact hb.has p
    ·rw[rn (key:=λx:Lr=>x.k) (q':=p0) rfl]at hz;rw[oy (key:=λx:Lr=>x.k) (q':=p0) rfl,hnew p,hw];by_cases e:p=p0
     ·subst e;rw[if_pos rfl,if_pos ⟨rfl,rfl⟩]
     ·rw[show(p == p0)=false from beq_eq_false_iff_ne.2 e,QfM]at hz
      rw[if_neg e,if_neg (λe'=>e e'.1)];exact hb.get p z hz
   | false=>
    rw[cond_false]
    have hsame:∀p,Oh s (cs++[c]) p label l=Oh s cs p label l:=λp=>by rw[hnew p,hw,if_neg (λe=>by cases e.2)]
    exact aa ⟨λp=>by rw[hsame];exact hb.has p,λp z hz=>by rw[hsame];exact hb.get p z hz⟩
 ·intro b hb;rw[hk.st,RB]at hb;unfold dA;dsimp only;rw[am,cond_false];exact aa ⟨b,rfl,hb⟩
end
section
variable{N:Nat}{s:JG}{label:Int}
def DB(s:JG)(label:Int)(l:List Int)(xs:List Mr)(t:Int×Lx):Prop:=
 (t.1=0∧∀x∈xs,(Oh s s.Kl x.LB label l).2=true→Rs s label l x≤0)∨
 (0<t.1∧∃x∈xs,(Oh s s.Kl x.LB label l).2=true∧Rs s label l x=t.1∧t.2=(Oh s s.Kl x.LB label l).1∧
  ∀y∈xs,(Oh s s.Kl y.LB label l).2=true→Rs s label l y<t.1∨y=x∨(Rs s label l y=t.1∧Op.bytesLess x.LB y.LB=true))
theorem Jj{l:List Int}{xs:List Mr}{t:Int×Lx}(h:DB s label l xs t){y:Mr}(hy:∀x∈xs,Op.bytesLess x.LB y.LB=true):DB s label l (xs++[y]) (U4 s label l t y):=by
 unfold U4;split
 ·rename_i hc;simp only[Ng,decide_eq_true_eq]at hc;obtain⟨c1,c2⟩:=hc;rcases h with⟨h1,h2⟩ | ⟨h1,x,hx,x1,x2,x3,x4⟩
  ·refine .inr ⟨by dsimp only;omega,y,by simp,c1,rfl,rfl,λz hz hz2=>?_⟩
   rcases N_.1 hz with hz | hz
   ·have:=h2 z hz hz2
    exact .inl (by dsimp only;omega)
   ·rw[Ld]at hz;exact .inr (.inl hz)
  ·refine .inr ⟨by dsimp only;omega,y,by simp,c1,rfl,rfl,λz hz hz2=>?_⟩
   rcases N_.1 hz with hz | hz
   ·rcases x4 z hz hz2 with h3 | rfl | ⟨h3,_⟩
    ·exact .inl (by dsimp only;omega)
    ·exact .inl (by dsimp only;omega)
    ·exact .inl (by dsimp only;omega)
   ·rw[Ld]at hz;exact .inr (.inl hz)
 ·rename_i hc
  have hc:(Oh s s.Kl y.LB label l).2=true→Rs s label l y≤t.1:=λh1=>by rw[h1,YH,decide_eq_true_eq]at hc;omega
  rcases h with⟨h1,h2⟩ | ⟨h1,x,hx,x1,x2,x3,x4⟩
  ·refine .inl ⟨h1,λz hz hz2=>?_⟩;rcases N_.1 hz with hz | hz
   ·exact h2 z hz hz2
   ·rw[Ld]at hz;subst hz;have:=hc hz2;omega
  ·refine .inr ⟨h1,x,by simp[hx],x1,x2,x3,λz hz hz2=>?_⟩
   rcases N_.1 hz with hz | hz
   ·exact x4 z hz hz2
   ·rw[Ld]at hz;subst hz;have:=hc hz2;by_cases e:Rs s label l z=t.1
    ·exact .inr (.inr ⟨e,hy x hx⟩)
    ·exact .inl (by omega)
theorem D_{l:List Int}:∀(ys xs:List Mr)(t:Int×Lx),(xs++ys).Pairwise (λx y=>Op.bytesLess x.LB y.LB=true)→DB s label l xs t→DB s label l (xs++ys) (ys.foldl (U4 s label l) t)
 | [],xs,t,_,h=>by rw[Wo];exact h
 | y::ys,xs,t,hp,h=>by
  have h1:=Jj (y:=y) h λx hx=>(QcX.1 hp).2.2 x hx y (by simp)
  have:=D_ ys (xs++[y]) _ (by rw[PS];exact hp) h1
  rw[PS]at this;exact this
theorem Jo(h:Inv N s)(l:List Int):DB s label l (L_ s label) (Tk s label l):=by
 have:=D_ (s:=s) (label:=label) (l:=l) (L_ s label) [] (0,Wu) (uL h label 3 root _) (.inl ⟨rfl,λx hx=>by cases hx⟩)
 exact this
theorem xp(h:Inv N s){l:List Int}(hl:l.length≤100000):loop (a7 s label (L_ s label) l) (0,Wu,0)=some (Tk s label l):=by
 have hil:=mY h label;have hcl:=h.cl
 have e:=(bF (λ(t:Int×Lx) i=>(t.1,t.2,i)) (L_ s label) (U4 s label l) (λ_ _=>True) (λt=>t) (step:=a7 s label (L_ s label) l) (by omega) ?_ ?_ (s:=(0,Wu)) trivial).1
 ·exact e
 ·rintro k hk ⟨m,c⟩ _;refine⟨?_,trivial⟩;have hx:=Nq hk;unfold a7;dsimp only;rw[ah hk,cond_true];simp only[aC hk,K_,La hk];generalize(L_ s label)[k]=x at hx;have b1:=uY (label:=label) h x.LB l s.Kl (λc hc=>hc);have b2:=jI (label:=label) h x.LB;have b3:=(mJ h hx).1
  rw[gL h.sb,K_,tT h _ hl,K_,Fp h _ hl,K_,aj (x:=(MQ s x.LB label true 0).Mem - x.Mem) (by omega) (by omega),aj (x:=_ - OE s s.Kl x.LB label l) (by omega) (by omega)]
  unfold U4 Rs;dsimp only
  cases (Oh s s.Kl x.LB label l).2 with
  | false=>rfl
  | true=>
   simp only[YH,cond_true,K_,decide_eq_true_eq];by_cases e:(MQ s x.LB label true 0).Mem - x.Mem - OE s s.Kl x.LB label l>m
   ·rw[decide_eq_true e,if_pos e];rfl
   ·rw[decide_eq_false e,if_neg e];rfl
 ·rintro⟨m,c⟩ _;unfold a7;dsimp only;rw[am];rfl
theorem z3(h:Inv N s){l:List Int}{k:L9}(hk:LX s label s.Kl l k):∃c is,ka k=some (c,is,k)∧
  ((is=false∧(Tk s label l).1=0)∨(is=true∧0<(Tk s label l).1∧c=(Tk s label l).2∧c∈s.Kl∧c.Ll=label∧NY l c=false)):=by
 unfold ka;obtain⟨b,eb,hb⟩:=K1 h hk;have hdb:=Jo (label:=label) h l;have hover:∀x∈L_ s label,oval k x.LB=Rs s label l x:=λx hx=>hk.ov x hx
 have hkey:∀e∈b,O6 (λx:Lr=>e.k == x.k) b=true:=λe he=>QfF.2 ⟨e,he,by simp⟩
 have hshare:∀p:Str,O6 (λx:Lr=>p == x.k) b=true→0<oval k p∧(Oh s s.Kl p label l).2=true∧p≠[]∧∃x∈L_ s label,x.LB=p:=by intro p hp;rw[hb.has]at hp;simp only[Ng,decide_eq_true_eq]at hp;obtain⟨c1,c2⟩:=AU p l s.Kl hp.2;obtain⟨_,_,_,c3,c4⟩:=sL h c1 c2;exact⟨hp.1,hp.2,c3,c4⟩
 obtain⟨f,ef,hf⟩:=Hv (k:=k) (b:=b) (λe he=>(hshare e.k (hkey e he)).2.2.1);rw[eb,K_,ef,K_];refine⟨_,_,rfl,?_⟩
 have hmk:∀x∈L_ s label,(Oh s s.Kl x.LB label l).2=true→0<Rs s label l x→∃j,∃(hj:j<b.length),b[j].k=x.LB:=by
  intro x hx h1 h2
  have:O6 (λe:Lr=>x.LB == e.k) b=true:=by rw[hb.has,hover x hx,decide_eq_true h2,h1];rfl
  obtain⟨e,he,hp⟩:=QfF.1 this;obtain⟨j,hj,rfl⟩:=UL he
  exact⟨j,hj,by simpa using(by simpa using hp:x.LB=b[j].k).symm⟩
 rcases hf with⟨hr,rfl⟩ | ⟨f1,⟨j,_,hj,hjk⟩,f3⟩
 ·left
  have hb0:b.length=0:=by simpa using congrArg List.length hr
  have hbn:b = []:=TQ hb0
  refine⟨by rw[hbn];rfl,?_⟩
  rcases hdb with⟨h1,_⟩ | ⟨h1,x,hx,x1,x2,_⟩
  ·exact h1
  ·obtain⟨j,hj,_⟩:=hmk x hx x1 (by omega)
   omega
 ·right
  have hfm:O6 (λx:Lr=>f == x.k) b=true:=QfF.2 ⟨b[j],Nq hj,by rw[hjk];simp⟩
  obtain⟨o1,o2,_,xf,hxf,hxp⟩:=hshare f hfm;obtain⟨c1,c2⟩:=AU f l s.Kl o2;obtain⟨c3,_,c5,_⟩:=sL h c1 c2
  have hof:oval k f=Rs s label l xf:=by rw[← hxp];exact hover xf hxf
  have hget:=hb.get f (⟨f,⟨0,0,0,⟨0,0⟩,0,0,false,0⟩⟩:Lr) hfm;rw[hget];refine⟨hfm,?_⟩;rcases hdb with⟨h1,h2⟩ | ⟨h1,x,hx,x1,x2,x3,x4⟩
  ·have:=h2 xf hxf (by rw[hxp];exact o2)
   omega
  ·refine⟨h1,?_,c1,c3,c5⟩
   obtain⟨i,hi,hik⟩:=hmk x hx x1 (by omega)
   have hnb:=f3 i (QfZ.2 hi) hi;rw[hik]at hnb;unfold YE at hnb;rw[hover x hx,hof,not_or]at hnb
   have hxx:xf=x:=by
    rcases x4 xf hxf (by rw[hxp];exact o2)with h5 | h5 | ⟨h5,h6⟩
    ·exact absurd (by omega) hnb.1
    ·exact h5
    ·rw[hxp]at h6
     exact absurd ⟨by omega,h6⟩ hnb.2
   rw[x3,← hxx,hxp]
theorem LX.pick(h:Inv N s){l:List Int}{k:L9}(hk:LX s label s.Kl l k){c:Lx}(hc:c∈s.Kl)(hlab:c.Ll=label)(hg:NY l c=false) :
  ∃k',b8 k c=some k'∧LX s label s.Kl (l++[c.Id]) k':=by
 have hcl:=h.cl;have hsz:=(h.ck c hc).size.1;obtain⟨k2,e2,n1,n2,n3,n4,n5,n6,n7⟩:=z8 k c;obtain⟨a,ha,e1,hat,hlf,hpl⟩:=qb h hc;have hlc:lval k c.Id=a.Ls:=(hk.lv c hc hlab).trans hlf
 have hn0:nval k c.Id=0:=by
  have h1:=hk.nb c.Id
  have h2:¬ 0<nval k c.Id:=λhx=>by rw[(hk.nv c hc hlab).1 hx]at hg;cases hg
  omega
 have hgb:=IY h hk (λc hc=>hc) hcl
 have hgd:∀d:Lx,NY (l++[c.Id]) d=(NY l d||d.Id == c.Id):=λd=>by unfold NY;rw[vT,Bool.or_assoc]
 refine⟨k2,e2,n1.trans hk.st,n2.trans hk.lab,λid=>(n3 id).trans (hk.leaf id),λd hd e=>(n4 d.Id).trans (hk.lv d hd e),λd hd e=>?_,λid hi=>?_,λid=>?_,λx hx=>?_,?_⟩
 ·rw[n5,hn0,hgd];by_cases e3:d.Id=c.Id
  ·rw[if_pos e3,show(d.Id == c.Id)=true by simpa using e3,Bool.or_true]
   decide
  ·rw[if_neg e3,show(d.Id == c.Id)=false from beq_eq_false_iff_ne.2 e3,QgX]
   exact hk.nv d hd e
 ·rw[n5,if_neg (λe=>hi c hc e.symm)];exact hk.nz id hi
 ·rw[n5,hn0];have:=hk.nb id;split
  ·decide
  ·exact this
 ·have hob:=I0 h hk (λc hc=>hc) hcl hx
  have hxp:x.LB≠[]:=by
   intro e0;have hr:=(kC h.cf (mJ h hx).2.2).root;rw[e0]at hr;rcases hr with hr | ⟨t,hr⟩
   ·cases hr
   ·cases hr
  rw[n6,hlc,zB h x.LB hc hlab hg,hlf,show(x.LB == ([]:Str))=false from beq_eq_false_iff_ne.2 hxp,QfM]
  by_cases e:x.LB=a.Ls
  ·rw[if_pos e,← e,aj (by omega) (by omega),hk.ov x hx]
   simp;omega
  ·rw[if_neg e,hk.ov x hx,show(a.Ls == x.LB)=false from beq_eq_false_iff_ne.2 λe'=>e e'.symm]
   simp
 ·rw[n7,aj (by omega) (by omega),zB h [] hc hlab hg,hk.gn]
  simp
theorem EY(h:Inv N s)(need:Int)(k0:L9):∀(m:Nat)(l:List Int)(k:L9),200 - l.length≤m→LX s label s.Kl l k→l.Nodup→(∀x∈l,∃c∈s.Kl,c.Id=x)→
  ∃r,loop (di (need,k0)) (k,l)=some r∧(loop (a9 s label (L_ s label) need) l=some (.inl r)∨loop (a9 s label (L_ s label) need) l=some (.inr r))∧r.length≤200∧r.Nodup∧∀x∈r,∃c∈s.Kl,c.Id=x:=by
 have hcl:=h.cl
 have hcount:∀l:List Int,l.Nodup→(∀x∈l,∃c∈s.Kl,c.Id=x)→l.length≤200:=by
  intro l hn hm
  have:l.length≤(s.Kl.map (·.Id)).length:=by refine ux l _ hn λx hx=>?_;obtain⟨c,hc,rfl⟩:=hm x hx;exact QdX hc
  rw[PI]at this;omega
 intro m
 induction m with
 | zero=>
  intro l k hm hk hn hs;have hl:=hcount l hn hs;have hgn:OE s s.Kl [] label l=k.gone:=hk.gn.symm
  have e1:a9 s label (L_ s label) need l=some (.inr (.inl l))∨a9 s label (L_ s label) need l=some (.inr (.inr l)):=by
   unfold a9
   rw[tT h [] (by omega),K_,hgn]
   cases hd:decide (k.gone<need)with
   | false=>exact .inr rfl
   | true=>
    rw[cond_true];show((loop (a7 s label (L_ s label) l) (0,Wu,0)).bind _=_)∨_
    rw[xp h (by omega),K_]
    obtain⟨c,is,e,hr⟩:=z3 h hk;rcases hr with⟨_,h0⟩ | ⟨_,h0,hc,hcm,Y6,hcg⟩
    ·rw[h0];exact .inl rfl
    ·have hnew:c.Id∉l:=λhin=>by
      unfold NY W9 at hcg;rw[YI.2 hin,Bool.or_true]at hcg;cases hcg
     have:=hcount (l++[c.Id]) (Xd.2 ⟨hn,by simp,λa ha b hb e=>by rw[Ld]at hb;subst hb;subst e;exact hnew ha⟩) (λx hx=>by
      rcases N_.1 hx with hx | hx
      ·exact hs x hx
      ·rw[Ld]at hx;subst hx;exact⟨c,hcm,rfl⟩)
     rw[Lc,QcT]at this;omega
  have e2:di (need,k0) (k,l)=some (.inr l):=by
   unfold di;dsimp only
   cases hd:decide (k.gone<need)with
   | false=>rfl
   | true=>
    rw[cond_true];obtain⟨c,is,e,hr⟩:=z3 h hk;rw[e,K_];rcases hr with⟨rfl,_⟩ | ⟨rfl,h0,hc,hcm,Y6,hcg⟩
    ·rfl
    ·have hnew:c.Id∉l:=λhin=>by
      unfold NY W9 at hcg;rw[YI.2 hin,Bool.or_true]at hcg;cases hcg
     have:=hcount (l++[c.Id]) (Xd.2 ⟨hn,by simp,λa ha b hb e=>by rw[Ld]at hb;subst hb;subst e;exact hnew ha⟩) (λx hx=>by
      rcases N_.1 hx with hx | hx
      ·exact hs x hx
      ·rw[Ld]at hx;subst hx;exact⟨c,hcm,rfl⟩)
     rw[Lc,QcT]at this;omega
  refine⟨l,bU e2,?_,hl,hn,hs⟩;rcases e1 with e1 | e1
  ·exact .inl (bU e1)
  ·exact .inr (bU e1)
 | succ m ih=>
  intro l k hm hk hn hs;have hl:=hcount l hn hs;have hgn:OE s s.Kl [] label l=k.gone:=hk.gn.symm;obtain⟨c,is,e,hr⟩:=z3 h hk
  have d1:a9 s label (L_ s label) need l=bif decide (k.gone<need)then(bif(Tk s label l).1 == 0 then some (.inr (.inl l))else(app 8 l [(Tk s label l).2.Id]).bind λl1=>some (.inl l1))else some (.inr (.inr l)):=by
   unfold a9
   rw[tT h [] (by omega),K_,hgn]
   show(bif decide (k.gone<need)then(loop (a7 s label (L_ s label) l) (0,Wu,0)).bind _ else _)=_
   rw[xp h (by omega),K_]
  cases hd:decide (k.gone<need)with
  | false=>
   refine⟨l,bU (by unfold di;dsimp only;rw[hd];rfl),.inr (bU (by rw[d1,hd];rfl)),hl,hn,hs⟩
  | true=>
   rw[hd,cond_true]at d1;rcases hr with⟨rfl,h0⟩ | ⟨rfl,h0,hc,hcm,Y6,hcg⟩
   ·refine⟨l,bU (by unfold di;dsimp only;rw[hd,cond_true,e];rfl),.inl (bU (by rw[d1,h0];rfl)),hl,hn,hs⟩
   ·have hnew:c.Id∉l:=λhin=>by
     unfold NY W9 at hcg;rw[YI.2 hin,Bool.or_true]at hcg;cases hcg
    have hn':(l++[c.Id]).Nodup:=Xd.2 ⟨hn,by simp,λa ha b hb e=>by rw[Ld]at hb;subst hb;subst e;exact hnew ha⟩
    have hs':∀x∈l++[c.Id],∃c∈s.Kl,c.Id=x:=λx hx=>by
     rcases N_.1 hx with hx | hx
     ·exact hs x hx
     ·rw[Ld]at hx;subst hx;exact⟨c,hcm,rfl⟩
    obtain⟨k',e',hk'⟩:=hk.pick h hcm Y6 hcg
    have p1:di (need,k0) (k,l)=some (.inl (k',l++[c.Id])):=by
     unfold di;dsimp only;rw[hd,cond_true,e,K_];dsimp only
     rw[PG,cond_false,e',K_,ao (by simp;omega) (by omega),K_]
    rw[show((Tk s label l).1 == 0)=false from beq_eq_false_iff_ne.2 (by omega),cond_false,← hc,ao (by simp;omega) (by omega),K_]at d1
    rw[aP,p1,aP (step:=a9 s label (L_ s label) need),d1]
    exact ih (l++[c.Id]) k' (by rw[Lc,QcT];omega) hk' hn' hs'
theorem vF(h:Inv N s)(hN:N≤1000000)(hl0:0≤label)(hl1:label<s.Lg.Lm.length):∃r,jC s label=some r∧ce s label=some r∧r.length≤200∧r.Nodup∧∀x∈r,∃c∈s.Kl,c.Id=x:=by
 unfold jC ce;obtain⟨k,ek,hk⟩:=KU h hN hl0 hl1;rw[ek,K_,Iw h hl0 hl1 hk.st hk.lab,K_,tf h,K_,nX h.sb,K_,gL h.sb,K_];dsimp only;have hn:=DK (label:=label) h;have hr:([114,111,111,116]:Str)=root:=rfl;rw[hr,hn,K_]
 obtain⟨r,e1,e2,e3⟩:=EY (label:=label) h (Xk s label) k 200 [] k (by simp) hk QeB (λx hx=>by cases hx)
 refine⟨r,by rw[e1];rfl,?_,e3⟩
 rcases e2 with e2 | e2
 ·rw[e2];rfl
 ·rw[e2];rfl
end
theorem ru{τ σ : Type}{step:τ→Option (τ ⊕ σ)}{t t':τ}(h:step t=some (.inl t')):loop step t=loop step t':=by rw[aP,h]
theorem gd{k:Nat}(h:k<1000000000):LC ((k:Int)+1)=((k+1:Nat):Int):=du h
theorem kX{ρ : Type}(step:Int→Option (Int ⊕ ρ))(n:Nat)(fin:ρ)(h1:∀k:Nat,k<n→step k=some (.inl ((k+1:Nat):Int)))(h2:step (n:Int)=some (.inr fin)):loop step 0=some fin:=by
 rcases HF step n (λ_=>true) (λ_=>fin) fin (λk hk=>by rw[h1 k hk];rfl) h2 with⟨_,b⟩ | ⟨i,_,h,_⟩
 ·exact b
 ·cases h
theorem rj{l:List Int}(h:l.length≤1000000):cT l l=some true:=by
 unfold cT
 rw[kX (gK l l) l.length (.inr ()) (by
  intro k hk;unfold gK
  rw[decide_eq_true (by omega),mN hk,gd (by omega)]
  simp only[cond_true,K_,bne_self_eq_false,cond_false]) (by
  unfold gK
  rw[decide_eq_false (by omega)]
  rfl)]
 simp
theorem HH{a:LM}(h:WX a):lh a a=some true:=by
 have hl:=h.asks;unfold lh
 rw[kX (iL a a) a.Mq.length (.inr ()) (by
  intro k hk;unfold iL
  rw[decide_eq_true (by omega),mN hk,gd (by omega)]
  simp only[cond_true,K_,beq_self_eq_true,Bool.and_self,PG,cond_false]) (by
  unfold iL
  rw[decide_eq_false (by omega)]
  rfl)]
 simp only[bne_self_eq_false,beq_self_eq_true,PG,cond_false,Bool.and_self,K_];rw[rj h.grants,rj h.kills,rj h.told,rj h.lost];rfl
theorem E5{c:Lg}(h1:c.Lm.length≤1000)(h2:c.Lh.length≤1000)(h3:∀q∈c.Lh,q.MS.length≤1000):lj c c=some true:=by
 unfold lj
 rw[kX (jf c c) c.Lm.length (.inr ()) (by
  intro k hk;unfold jf
  rw[decide_eq_true (by omega),mN hk,gd (by omega)]
  simp only[cond_true,K_,beq_self_eq_true,PG,cond_false]) (by
  unfold jf
  rw[decide_eq_false (by omega)]
  rfl)]
 rw[kX (iO c c) c.Lh.length (.inr ()) (by
  intro k hk;have hc:=h3 _ (Nq hk);unfold iO
  rw[decide_eq_true (by omega),mN hk,gd (by omega)]
  simp only[cond_true,K_,beq_self_eq_true,bne_self_eq_false,PG,cond_false]
  rw[kX (jm c.Lh[k] c.Lh[k]) c.Lh[k].MS.length (.inr ()) (by
   intro j hj;unfold jm
   rw[decide_eq_true (by omega),mN hj,gd (by omega)]
   simp only[cond_true,K_,beq_self_eq_true,Bool.and_self,PG,cond_false]) (by
   unfold jm
   rw[decide_eq_false (by omega)]
   rfl)]
  rfl) (by
  unfold iO
  rw[decide_eq_false (by omega)]
  rfl)]
 simp
theorem yr{s:JG}(h:Small s):f_ s s=some true:=by
 have hn:=h.nodes;have ha:=h.apps;have hc:=h.V6;have hs:=h.slots;have hp:=h.plans;unfold f_;rw[E5 h.labels h.queues h.caps];simp only[K_,PG,bne_self_eq_false,cond_false]
 obtain⟨b1,e1,rfl⟩:=nV (λ(v:Bool) k=>(v,k)) (gE s s) s.Lu.length (λ_ v=>v=true) (λv=>v) (by
  rintro k hk v rfl;refine⟨true,?_,rfl⟩;unfold gE
  rw[decide_eq_true (by dsimp only;omega),gd (by omega)]
  dsimp only;rw[mN hk]
  simp) (by
  rintro v rfl;unfold gE
  rw[decide_eq_false (by dsimp only;omega)]
  rfl) (s:=true) rfl
 rw[e1];simp only[K_]
 obtain⟨b2,e2,rfl⟩:=nV (λ(v:Bool) k=>(v,k)) (ii s s) s.Lv.length (λ_ v=>v=true) (λv=>v) (by
  rintro k hk v rfl;refine⟨true,?_,rfl⟩;unfold ii
  rw[decide_eq_true (by dsimp only;omega),gd (by omega)]
  dsimp only;rw[mN hk];simp only[cond_true,K_];rw[HH (h.app _ (Nq hk))]
  rfl) (by
  rintro v rfl;unfold ii
  rw[decide_eq_false (by dsimp only;omega)]
  rfl) (s:=true) rfl
 rw[e2];simp only[K_]
 obtain⟨b3,e3,rfl⟩:=nV (λ(v:Bool) k=>(v,k)) (gY s s) s.Kl.length (λ_ v=>v=true) (λv=>v) (by
  rintro k hk v rfl;refine⟨true,?_,rfl⟩;unfold gY
  rw[decide_eq_true (by dsimp only;omega),gd (by omega)]
  dsimp only;rw[mN hk]
  simp) (by
  rintro v rfl;unfold gY
  rw[decide_eq_false (by dsimp only;omega)]
  rfl) (s:=true) rfl
 rw[e3];simp only[K_]
 obtain⟨b4,e4,rfl⟩:=nV (λ(v:Bool) k=>(v,k)) (gF s s) s.LH.length (λ_ v=>v=true) (λv=>v) (by
  rintro k hk v rfl;refine⟨true,?_,rfl⟩;unfold gF
  rw[decide_eq_true (by dsimp only;omega),gd (by omega)]
  dsimp only;rw[mN hk]
  simp) (by
  rintro v rfl;unfold gF
  rw[decide_eq_false (by dsimp only;omega)]
  rfl) (s:=true) rfl
 rw[e4];simp only[K_]
 obtain⟨b5,e5,rfl⟩:=nV (λ(v:Bool) k=>(v,k)) (gU s s) s.LJ.length (λ_ v=>v=true) (λv=>v) (by
  rintro k hk v rfl;refine⟨true,?_,rfl⟩;unfold gU
  rw[decide_eq_true (by dsimp only;omega),gd (by omega)]
  dsimp only;rw[mN hk]
  simp) (by
  rintro v rfl;unfold gU
  rw[decide_eq_false (by dsimp only;omega)]
  rfl) (s:=true) rfl
 rw[e5];rfl
theorem jB(n:Nat)(hn:n≤100000){step:Bool×Int→Option ((Bool×Int) ⊕ Bool)}:∀(d m:Nat),n≤m+d→(∀k:Nat,m≤k→k<n→step (true,(k:Int))=some (.inl (true,LC ((k:Int)+1))))→(∀k:Nat,n≤k→step (true,(k:Int))=some (.inr true))→loop step (true,(m:Int))=some true
 | 0,m,hd,h1,h2=>bU (h2 m (by omega))
 | d+1,m,hd,h1,h2=>by
  by_cases hm:m<n
  ·rw[ru (h1 m (MO _) hm),aj (x:=(m:Int)+1) (by omega) (by omega),show(m:Int)+1=((m+1:Nat):Int)by omega]
   exact jB n hn d (m+1) (by omega) (λk h3 h4=>h1 k (by omega) h4) h2
  ·exact bU (h2 m (by omega))
theorem qW{v:Vec}(h:VB 1073741824 v):cA v=some true:=by
 unfold VB at h;unfold cA
 rw[decide_eq_true (show v.Mem≥0 by omega),decide_eq_true (show v.Mem≤1125899906842624 by omega),decide_eq_true (show v.LA≥0 by omega),decide_eq_true (show v.LA≤1125899906842624 by omega)]
 rfl
theorem nC{k n:Nat}(h:n≤k):decide ((k:Int)<(n:Int))=false:=decide_eq_false (by omega)
section
variable{N:Nat}{s:JG}
theorem Jq(h:Inv N s):km s=some true:=by
 have h1:=h.nl;have h2:=h.al;have h3:=h.cl;have h5:=h.pl
 have e1:loop (hZ s) (true,0)=some true:=jB s.Lu.length (by omega) s.Lu.length 0 (by omega) (λk _ hk=>by
  unfold hZ;dsimp only
  rw[ah hk,cond_true,cond_true,ai hk,K_,qW (h.nk _ (Nq hk)).1];rfl) (λk hk=>by
  unfold hZ;dsimp only;rw[nC hk,cond_false])
 have e2:loop (h_ s) (true,0)=some true:=jB s.Kl.length (by omega) s.Kl.length 0 (by omega) (λk _ hk=>by
  unfold h_;dsimp only
  rw[ah hk,cond_true,cond_true,ai hk,K_,qW (h.ck _ (Nq hk)).size.vb];rfl) (λk hk=>by
  unfold h_;dsimp only;rw[nC hk,cond_false])
 have e3:loop (gN s) (true,0)=some true:=jB s.LJ.length (by omega) s.LJ.length 0 (by omega) (λk _ hk=>by
  unfold gN;dsimp only
  rw[ah hk,cond_true,cond_true,ai hk,K_,qW (h.pk _ (Nq hk)).1];rfl) (λk hk=>by
  unfold gN;dsimp only;rw[nC hk,cond_false])
 have e4:loop (gD s) (true,0)=some true:=jB s.Lv.length (by omega) s.Lv.length 0 (by omega) (λk _ hk=>by
  have hak:=h.ak _ (Nq hk);have hal:=hak.al;unfold gD;dsimp only;rw[ah hk,cond_true,cond_true,ai hk,K_,qW hak.X9.vb,K_,K_]
  have e5:loop (ij s (true,(k:Int))) (true,0)=some true:=jB s.Lv[k].Mq.length (by omega) s.Lv[k].Mq.length 0 (by omega) (λj _ hj=>by
   unfold ij;dsimp only
   rw[ai hk,K_,ah hj,cond_true,cond_true,K_,ai hj,K_,qW (hak.ask _ (Nq hj)).size.vb];rfl) (λj hj=>by
   unfold ij;dsimp only;rw[ai hk,K_,nC hj,cond_false])
  rw[e5];rfl) (λk hk=>by
  unfold gD;dsimp only;rw[nC hk,cond_false])
 unfold km;rw[e1,K_,e2,K_,e3,K_,e4];rfl
theorem q_{α : Type}{id:α→Int}{l:List α}(hl:l.length≤100000)(hs:l.Pairwise λx y=>id x<id y){k:Nat}(h1:1≤k)(hk:k<l.length) :
  ((idx l (LC ((k:Int) - 1))).bind λx=>(idx l (k:Int)).bind λx1=>some (decide (id x<id x1)))=some true:=by
 rw[aj (x:=(k:Int) - 1) (by omega) (by omega),show(k:Int) - 1=((k - 1:Nat):Int)by omega,ai (show k - 1<l.length by omega),K_,ai hk,K_,decide_eq_true]
 exact QeH.1 hs (k - 1) k (by omega) hk (by omega)
theorem D4(h:Inv N s):iK s=some true:=by
 have h1:=h.nl;have h2:=h.al;have h3:=h.cl;have h4:=h.sl;have h5:=h.pl
 have e1:loop (fe s) (true,1)=some true:=jB s.Lu.length (by omega) s.Lu.length 1 (by omega) (λk hm hk=>by
  have:=q_ (id:=λx:LG=>x.Id) (by omega) h.ns hm hk
  unfold fe;dsimp only at this ⊢
  rw[ah hk,cond_true,cond_true,this];rfl) (λk hk=>by
  unfold fe;dsimp only;rw[nC hk,cond_false])
 have e2:loop (fp s) (true,1)=some true:=jB s.Lv.length (by omega) s.Lv.length 1 (by omega) (λk hm hk=>by
  have:=q_ (id:=λx:LM=>x.Id) (by omega) h.Rb hm hk
  unfold fp;dsimp only at this ⊢
  rw[ah hk,cond_true,cond_true,this];rfl) (λk hk=>by
  unfold fp;dsimp only;rw[nC hk,cond_false])
 have e3:loop (fb s) (true,1)=some true:=jB s.Kl.length (by omega) s.Kl.length 1 (by omega) (λk hm hk=>by
  have:=q_ (id:=λx:Lx=>x.Id) (by omega) h.cs hm hk
  unfold fb;dsimp only at this ⊢
  rw[ah hk,cond_true,cond_true,this];rfl) (λk hk=>by
  unfold fb;dsimp only;rw[nC hk,cond_false])
 have e4:loop (fd s) (true,1)=some true:=jB s.LH.length (by omega) s.LH.length 1 (by omega) (λk hm hk=>by
  have:=q_ (id:=λx:Nt=>x.LG) (by omega) h.ss hm hk
  unfold fd;dsimp only at this ⊢
  rw[ah hk,cond_true,cond_true,this];rfl) (λk hk=>by
  unfold fd;dsimp only;rw[nC hk,cond_false])
 have e5:loop (fg s) (true,1)=some true:=jB s.LJ.length (by omega) s.LJ.length 1 (by omega) (λk hm hk=>by
  have:=q_ (id:=λx:MV=>x.Id) (by omega) h.ps hm hk
  unfold fg;dsimp only at this ⊢
  rw[ah hk,cond_true,cond_true,this];rfl) (λk hk=>by
  unfold fg;dsimp only;rw[nC hk,cond_false])
 unfold iK
 rw[decide_eq_false (by omega),cond_false,decide_eq_false (by omega),cond_false,decide_eq_false (by omega),cond_false,decide_eq_false (by omega),K_,cond_false,e1,K_,e2,K_,e3,K_,e4,K_,e5]
 rfl
theorem oK{k:Nat}(h:k≤100000):LC ((k:Int)+1)=((k+1:Nat):Int):=by rw[aj (by omega) (by omega)];omega
theorem IU(h:Inv N s):lp s=some true:=by
 have h1:=h.nl
 have e:loop (iR s) 0=some (.inr ()):=kX _ s.Lu.length _ (λk hk=>by
  obtain⟨f1,f2⟩:=h.sd.fit _ (Nq hk);unfold iR
  rw[ah hk,cond_true,ai hk,K_,AG h.sb,K_,K_,decide_eq_false (by omega),cond_false,K_,decide_eq_false (by omega),K_,cond_false,oK (by omega)]) (by
  unfold iR;rw[am,cond_false])
 unfold lp;rw[e];rfl
theorem C_(h:Inv N s)(i:Int):hU s i=some (((OP s.Kl i).length:Int),((s.Kl.filter λc=>c.LM == i).length:Int)):=by
 have h3:=h.cl;unfold hU
 have gen:∀(d k:Nat),k+d=s.Kl.length→loop (cQ s i) (((OP (s.Kl.take k) i).length:Int),(((s.Kl.take k).filter λc=>c.LM == i).length:Int),(k:Int))=some (((OP s.Kl i).length:Int),((s.Kl.filter λc=>c.LM == i).length:Int)):=by
  intro d
  induction d with
  | zero=>
   intro k hk
   have hk:k=s.Kl.length:=by omega
   subst hk;rw[RB];refine bU ?_;unfold cQ;dsimp only;rw[am,cond_false]
  | succ d ih=>
   intro k hk
   have hk2:k<s.Kl.length:=by omega
   have hl1:(OP (s.Kl.take k) i).length≤k:=P6 (TP _ _) (List.length_take_le _ _);have hl2:((s.Kl.take k).filter λc=>c.LM == i).length≤k:=P6 (TP _ _) (List.length_take_le _ _)
   have e1:OP (s.Kl.take (k+1)) i=OP (s.Kl.take k) i++OP [s.Kl[k]] i:=by unfold OP;rw[Ra hk2,YR]
   have e2:((s.Kl.take (k+1)).filter λc=>c.LM == i)=((s.Kl.take k).filter λc=>c.LM == i)++([s.Kl[k]].filter λc=>c.LM == i):=by rw[Ra hk2,YR]
   rw[← ih (k+1) (by omega),e1,e2,Lc,Lc]
   refine ru ?_;unfold cQ;dsimp only;rw[ah hk2,cond_true,ai hk2,K_,K_];unfold OP at hl1 ⊢
   cases ha:s.Kl[k].LM == i<;>cases hm:s.Kl[k].Lp<;>simp only[cond_true,cond_false,K_,Xc,List.filter_nil,ha,hm,QgF,Bool.and_false,Bool.false_and,YH,if_true,if_false,Xb,QcT,U9,oK (show k≤100000 by omega),oK (show _≤100000 from P6 hl1 (by omega)),oK (show _≤100000 from P6 hl2 (by omega))]<;>rfl
 have:=gen s.Kl.length 0 (by omega)
 rw[show loop (cQ s i) (0,0,0)=_ from this]
 rfl
theorem Is(h:Inv N s):jS s=some true:=by
 have h2:=h.al;have h3:=h.cl;have h4:=h.sl
 have l1:loop (fS s) 0=some (.inr ()):=kX _ s.Kl.length _ (λk hk=>by
  have hck:=h.ck _ (Nq hk);obtain⟨a,ha,e1,e2⟩:=hck.app;obtain⟨n,hn,f1,f2,f3⟩:=h.sd.S9 _ (Nq hk);obtain⟨n1,n2⟩:=h.sd.Vq _ (Nq hk);have hna:l_ s n.Id=some n:=uH h.ns hn
  have hlv:Mt a=true:=by unfold Mt;simp[e2]
  have hup:n.Up=true:=f3.elim id λe=>e.elim;unfold fS;rw[ah hk,cond_true,ai hk,K_,dJ h.z,← e1,h.M9 ha,K_,js h.z,← f1,hna,K_];simp only[Option.elim_some,PG,cond_false,jy,K_,hlv,hup]
  rw[show(n.Ll != s.Kl[k].Ll)=false from bne_eq_false_iff_eq.2 f2,cond_false,decide_eq_false (by omega),cond_false,decide_eq_false (by omega),K_,cond_false,oK (by omega)]) (by
  unfold fS;rw[am,cond_false])
 have l2:loop (fM s) 0=some (.inr ()):=kX _ s.Lv.length _ (λk hk=>by
  have hm:=Nq hk;have hak:=h.ak _ hm;have hlf:=uS h.cf.small s.Lv[k].Ls;have hone:=h.sd.one _ hm;have hno:=h.noc hm;have Ud:=hak.leaf;have hst:=hak.st;unfold fM;rw[ah hk,cond_true,ai hk,K_,C_ h,K_];generalize s.Lv[k]=a at hlf hone hno Ud hst ⊢
  have live:((aF a).bind λYx=>bif Yx then(bn s.Lg a.Ls).bind λWd=>some (! Wd)else some false)=some false:=by
   rw[jy,K_]
   cases hl:Mt a with
   | false=>rfl
   | true=>rw[cond_true,hlf,Ud (ww hl)];rfl
  by_cases s2:a.JG=2
  ·rw[show(a.JG == 2)=true from beq_iff_eq.2 s2,cond_true]
   have h1:(OP s.Kl a.Id).length=1:=(hone s2).elim (λe=>e.elim) id;dsimp only
   rw[h1,show(((1:Nat):Int) != 1)=false from rfl,cond_false,show(a.JG == 1)=false from beq_eq_false_iff_ne.2 (by omega),cond_false,live,K_,cond_false,oK (by omega)]
  ·rw[show(a.JG == 2)=false from beq_eq_false_iff_ne.2 s2,cond_false]
   by_cases s1:a.JG=1
   ·have h0:(s.Kl.filter λc=>c.LM == a.Id) = []:=QdS.2 λc hc=>by
     rcases hno with e | e
     ·omega
     ·simpa using e c hc
    dsimp only
    rw[show(a.JG == 1)=true from beq_iff_eq.2 s1,cond_true,h0,show(((([]:List Lx).length:Nat):Int) != 0)=false from rfl,cond_false,live,K_,cond_false,oK (by omega)]
   ·rw[show(a.JG == 1)=false from beq_eq_false_iff_ne.2 s1,cond_false,live,K_,cond_false,oK (by omega)]) (by
  unfold fM;rw[am,cond_false])
 have l3:loop (fW s) 0=some (.inr ()):=kX _ s.LH.length _ (λk hk=>by
  obtain⟨n,hn,f1,f3⟩:=h.sd.slt _ (Nq hk);have hna:l_ s n.Id=some n:=uH h.ns hn;have hup:n.Up=true:=f3.elim id λe=>e.elim;unfold fW;rw[ah hk,cond_true,ai hk,K_,js h.z,← f1,hna,K_];simp only[Option.elim_some,PG,cond_false,K_,hup]
  rw[oK (by omega)]) (by
  unfold fW;rw[am,cond_false])
 unfold jS
 rw[h.sd.Xa,K_,show((0:Int) != 0)=false from rfl,cond_false,Jq h,K_,PG,cond_false,D4 h,K_,PG,cond_false,IU h,K_,PG,K_,cond_false,l1,K_]
 dsimp only;rw[l2,K_];dsimp only;rw[l3];rfl
end
section
variable{N:Nat}{s:JG}
def mW(s:JG)(l:List Int):JG:=l.foldl (λt i=>Sj t i (imax t.Now 1)) s
theorem IF(s:JG)(i t:Int):(Sj s i t).Kl.map (·.Id)=s.Kl.map (·.Id):=by
 show(s.Kl.map (Od i t)).map (·.Id)=_;rw[List.map_map];refine QdG λc _=>?_;show(Od i t c).Id=c.Id;unfold Od
 split<;>rfl
structure NK(s:JG)(N:Nat)(t:JG):Prop where
 inv:Inv N t
 now:t.Now=s.Now
 conf:t.Lg=s.Lg
 ids:t.Kl.map (·.Id)=s.Kl.map (·.Id)
theorem NK.note{t:JG}(h:NK s N t)(i:Int):NK s N (Sj t i (imax t.Now 1)):=
 ⟨Bh h.inv i _ ⟨by unfold imax;split<;>omega,YG _⟩,h.now,h.conf,(IF t i _).trans h.ids⟩
theorem BP(h:Inv N s){l:List Int}(hl:l.length≤200):loop (ba l) (s,0)=some (mW s l)∧NK s N (mW s l):=by
 refine bF (λ(t:JG) i=>(t,i)) l (λt i=>Sj t i (imax t.Now 1)) (λ_ t=>NK s N t) (λt=>t) (step:=ba l) (by omega) ?_ ?_ (s:=s) ⟨h,rfl,rfl,rfl⟩
 ·intro k hk t ht;refine⟨?_,ht.note _⟩;unfold ba;dsimp only
  rw[ah hk,cond_true,aC hk,K_,La hk,K_,sy (by have:=ht.inv.cl;omega),K_]
 ·intro t _;unfold ba;dsimp only;rw[am];rfl
theorem Fl(h:Inv N s){l:List Int}(hl:l.length≤200)(hs:∀x∈l,∃c∈s.Kl,c.Id=x):loop (fK l) (s,0)=some (mW s l):=by
 refine(bF (λ(t:JG) i=>(t,i)) l (λt i=>Sj t i (imax t.Now 1)) (λ_ t=>NK s N t) (λt=>t) (step:=fK l) (by omega) ?_ ?_ (s:=s) ⟨h,rfl,rfl,rfl⟩).1
 ·intro k hk t ht;refine⟨?_,ht.note _⟩;obtain⟨c,hc,hci⟩:=hs l[k] (Nq hk);unfold fK;dsimp only;rw[ah hk,cond_true,aC hk,K_,La hk,K_];rcases Ar ht.inv l[k] (f:=λa'=>oY a'.1 l[k]) (λx=>rfl)with⟨j,hj,e1,e2,e3⟩ | ⟨e1,_⟩
  ·rw[e3,K_,aC hj,K_,La hj,K_];have hset:=xR (imax t.Now 1) ht.inv.cs hj;rw[e2]at hset;unfold Sj;rw[← hset];rfl
  ·have:l[k]∈t.Kl.map (·.Id):=by
    rw[ht.ids,← hci];exact QdX hc
   obtain⟨d,hd,hdi⟩:=RA.1 this;have:=QdJ.1 e1 d hd;simp[hdi]at this
 ·intro t _;unfold fK;dsimp only;rw[am];rfl
theorem Ex(h:Inv N s)(hN:N+500<1000000){label:Int}(hl0:0≤label)(hl1:label<s.Lg.Lm.length) :
  ∃x r,m6 s label=some x∧bP s label=some x∧jC x label=some r∧ce x label=some r∧loop (fK r) (x,0)=some (mW x r)∧loop (ba r) (x,0)=some (mW x r)∧
   Inv (N+200) (mW x r)∧(mW x r).Now=s.Now∧(mW x r).Lg=s.Lg∧(s.Kl = []→mW x r=s):=by
 obtain⟨x,ex,hx,hn,hc⟩:=Ep (label:=label) h hN
 obtain⟨r,e1,e2,e3,e4,e5⟩:=vF (label:=label) hx (by omega) hl0 (by rw[hc];exact hl1)
 obtain⟨d1,d2⟩:=BP hx e3
 refine⟨x,r,by rw[G3 h hN];exact ex,ex,e1,e2,Fl hx e3 e5,d1,d2.inv,d2.now.trans hn,d2.conf.trans hc,λh0=>?_⟩
 have hx0:x=s:=by
  rw[xM h hN,show OJ s label = []by unfold OJ;rw[h0];rfl]at ex
  exact(Option.some.inj ex).symm
 subst hx0
 have hr:r = []:=by
  cases r with
  | nil=>rfl
  | cons y r=>
   obtain⟨c,hc,_⟩:=e5 y (by simp)
   rw[h0]at hc;cases hc
 rw[hr];rfl
theorem FP(h:Inv N s)(hN:N+2000<1000000):∃t,loop (jO s) (s,0)=some t∧loop bT (s,0)=some t∧Inv (N+600) t∧t.Lg=s.Lg∧(s.Kl = []→t=s):=by
 have hlb:=h.cf.lab
 have key:∀(m k:Nat),m+k=s.Lg.Lm.length→∀t:JG,Inv (N+200*k) t→t.Lg=s.Lg→(s.Kl = []→t=s)→∃u,loop (jO s) (t,(k:Int))=some u∧loop bT (t,(k:Int))=some u∧Inv (N+600) u∧u.Lg=s.Lg∧(s.Kl = []→u=s):=by
  intro m
  induction m with
  | zero=>
   intro k hk t ht hc h0
   have hk:k=s.Lg.Lm.length:=by omega
   refine⟨t,bU (by unfold jO;dsimp only;rw[hk,am];rfl),bU (by unfold bT;dsimp only;rw[hc,hk,am];rfl),ht.mono (by omega),hc,h0⟩
  | succ m ih=>
   intro k hk t ht hc h0
   have hkl:k<s.Lg.Lm.length:=by omega
   obtain⟨x,r,e1,e2,e3,e4,e5,e6,h1,h2,h3,h4⟩:=Ex (label:=(k:Int)) ht (by omega) (by omega) (by rw[hc];omega)
   rw[ru (t':=(mW x r,((k+1:Nat):Int))) (by
    unfold jO;dsimp only
    rw[ah hkl,cond_true,e1,K_,e3,K_,e5,K_,du (by omega)]),ru (step:=bT) (t':=(mW x r,((k+1:Nat):Int))) (by
    unfold bT;dsimp only
    rw[hc,ah hkl,cond_true,e2,K_,e4,K_,e6,K_,du (by omega)])]
   exact ih (k+1) (by omega) _ (h1.mono (by omega)) (h3.trans hc) λh5=>by have:=h0 h5;subst this;exact h4 h5
 exact key s.Lg.Lm.length 0 rfl s h rfl λ_=>rfl
def RO(s t:JG):List Int:=(s.Kl.filter λc=>(cN t c.Id).isNone).map (·.Id)
theorem DH{t:JG}(h:M4 s)(h':M4 t):cR s t=some (RO s t):=by
 have hc:=h.c;unfold cR RO
 rw[bQ (λ(l:List Int) i=>(l,i)) s.Kl (λc=>(cN t c.Id).isNone) (·.Id) (step:=b9 s t) (by omega)]
 ·rfl
 ·intro k hk l hl;unfold b9;dsimp only
  rw[ah hk,cond_true,ai hk,K_,fP h',K_,K_,ao (by simp;omega) (by omega)]
  cases cN t s.Kl[k].Id<;>rfl
 ·intro l;unfold b9;dsimp only;rw[am];rfl
theorem Gn{M:Nat}{t:JG}(h:Inv N s)(h':Inv M t):loop (jF s t) ([],0)=some (RO s t):=by
 have hc:=h.cl;unfold RO
 refine bQ (λ(l:List Int) i=>(l,i)) s.Kl (λc=>(cN t c.Id).isNone) (·.Id) (step:=jF s t) (by omega) ?_ ?_
 ·intro k hk l hl;unfold jF ra;dsimp only;rw[ah hk,cond_true,ai hk,K_];generalize s.Kl[k]=c;rcases Ar h' c.Id (f:=λa'=>oV a'.1 c) (λx=>rfl)with⟨j,hj,e1,e2,e3⟩ | ⟨e1,e3⟩
  ·rw[e3,e1,K_,K_,decide_eq_true (by omega)]
   rfl
  ·rw[e3,e1,K_,K_,decide_eq_false (by omega),Wy,cond_true,ao (by simp;omega) (by omega)]
   rfl
 ·intro l;unfold jF;dsimp only;rw[am];rfl
theorem Ez(h:Inv N s)(t:JG):(RO s t).Pairwise λx y=>x<y:=by unfold RO;rw[QfT];exact h.cs.sublist QdC
theorem yW(h:Inv N s)(hN:N+2000<1000000)(hsort:∀l:List Int,l.length≤200→l.Pairwise (λx y=>x<y)→cu l=some l) :
  ∃t,md s=some (t,RO s t)∧cD s=some (t,RO s t)∧Inv (N+600) t∧t.Lg=s.Lg∧(s.Kl = []→t=s):=by
 obtain⟨t,e1,e2,h1,h2⟩:=FP h hN;refine⟨t,?_,?_,h1,h2⟩
 ·unfold md
  rw[Ha h (by omega),K_,e1,K_,Gn h h1,K_,hsort _ ?_ (Ez h t)]
  ·rfl
  ·unfold RO;rw[PI];exact P6 (TP _ _) h.cl
 ·unfold cD;rw[e2,K_,DH h.z h1.z];rfl
end
theorem rI{a n:Int}(h0:0<n)(h1:n≤4611686018427387904):Gv (c_ a n) λx=>0≤x∧x<n:=by
 unfold c_
 have hn:nz n=some ():=by unfold nz;rw[if_pos (by omega)]
 rw[hn]
 have hm:Int.tmod a n=if 0≤a∨n ∣ a then a % n else a % n - n:=by
  rw[Int.tmod_eq_emod]
  split<;>simp[Int.natAbs_of_nonneg (Int.le_of_lt h0)]
 have e0:=Int.emod_nonneg a (show n≠0 by omega)
 have e1:=Int.emod_lt_of_pos a h0;simp only[K_,Bool.cond_eq_ite,decide_eq_true_eq];rw[hm];by_cases hc:0≤a∨n ∣ a
 ·rw[if_pos hc,if_neg (by omega)]
  exact aa ⟨e0,e1⟩
 ·rw[if_neg hc,if_pos (by omega),aj (by omega) (by omega)]
  exact aa ⟨by omega,by omega⟩
section
variable{N:Nat}{s:JG}
theorem GI(h:Inv N s)(hN:N≤500000)(marks:List Int)(more:Int):Gv (kb s marks more) (Inv (N+10)):=by
 have hcl:=h.cl;have ady:=h.now;have hen:=h.en.2.1;unfold kb
 rw[lM (by omega) (by omega),K_]
 refine ad (P:=λl=>l.map strip=s.Kl.map strip∧∀c∈l,0≤c.Mw∧c.Mw≤s.Now+1) ?_ ?_
 ·refine jA (λt:List Lx×Int=>0≤t.2∧t.1.map strip=s.Kl.map strip∧∀c∈t.1,0≤c.Mw∧c.Mw≤s.Now+1) (λt=>(10 - t.2).toNat) ?_ ⟨YG _,rfl,λc hc=>by
   have:=h.sd.Vq c hc
   have him:imax s.Now 1≤s.Now+1:=by unfold imax;split<;>omega
   omega⟩
  rintro⟨l,i⟩ ⟨h1,h2,h3⟩;dsimp only at h1 h2 h3
  have hll:l.length=s.Kl.length:=by simpa using congrArg List.length h2
  unfold nE;dsimp only;refine ad (P:=λq=>q=true→i<marks.length∧i<10∧0<l.length) ?_ λq hq=>?_
  ·refine ae (λa=>?_) λ_=>aa (by simp)
   refine ae (λb=>?_) λ_=>aa (by simp)
   simp only[decide_eq_true_eq]at a b
   exact aa λc=>⟨a,b,by simpa using c⟩
  refine ae (λhqt=>?_) λ_=>aa (.inr ⟨_,rfl,h2,h3⟩);obtain⟨q1,q2,q3⟩:=hq hqt;refine ad (cY (eh h1 q1)) λx _=>?_
  refine ad (rI (by omega) (by omega)) λx1 hx1=>?_
  refine ad (cY (eh h1 q1)) λx2 _=>?_
  rw[aj (x:=s.Now+1) (by omega) (by omega)]
  refine ad (rI (by omega) (by omega)) λx3 hx3=>?_
  refine ad (me hx1.1 hx1.2) ?_;rintro j rfl
  have hj:x1.toNat<l.length:=by omega
  rw[La hj,K_,aj (x:=1+x3) (by omega) (by omega),aj (x:=i+1) (by omega) (by omega)]
  refine aa (.inl ⟨_,rfl,⟨by dsimp only;omega,?_,λc hc=>?_⟩,by dsimp only;omega⟩)
  ·dsimp only;rw[← h2,List.map_set]
   have e:strip ⟨l[x1.toNat].Id,l[x1.toNat].LM,l[x1.toNat].LG,⟨l[x1.toNat].LY.Mem,l[x1.toNat].LY.LA⟩,l[x1.toNat].LD,l[x1.toNat].Ll,l[x1.toNat].Lp,1+x3⟩=(l.map strip)[x1.toNat]'(by simpa using hj):=by simp[strip]
   rw[e,List.set_getElem_self]
  ·rcases QeZ hc with hc | rfl
   ·exact h3 c hc
   ·exact⟨by dsimp only;omega,by dsimp only;omega⟩
 ·rintro l ⟨h2,h3⟩
  refine ad (rI (by omega) (by omega)) λx5 hx5=>?_
  rw[aj (x:=s.Now+1) (by omega) (by omega),aj (x:=s.Now+1+x5) (by omega) (by omega)]
  have h4:=(h.mono (show N≤N+10 by omega)).at_ (t:=s.Now+1+x5) ⟨by omega,by omega,by omega⟩ (by omega)
  have h5:=h4.V6 (cs:=l) h2 (λc hc=>⟨(h3 c hc).1,by
   have:=(h3 c hc).2;show c.Mw≤imax (s.Now+1+x5) 1;unfold imax
   split<;>omega⟩)
  exact aa h5
theorem vl{l:List Int}(h:l.length≤1000000):ga l l=some true:=by
 unfold ga
 rw[kX (gM l l) l.length (.inr ()) (by
  intro k hk;unfold gM
  rw[decide_eq_true (by omega),mN hk,gd (by omega)]
  simp only[cond_true,K_,bne_self_eq_false,cond_false]) (by
  unfold gM
  rw[decide_eq_false (by omega)]
  rfl)]
 simp
variable(hsort:∀l:List Int,l.length≤200→l.Pairwise (λx y=>x<y)→cu l=some l)
include hsort
theorem Dm:jU=some true:=by
 have h:Inv 0 newS:=wa;have h0:newS.Kl = []:=rfl;unfold jU;rw[Er,K_]
 obtain⟨t,e1,_,_,_,e2⟩:=yW h (by omega) hsort
 have ht:=e2 h0;subst ht
 obtain⟨r,e3,_,_,_,e4⟩:=vF (label:=0) h (by omega) (by omega) (by decide)
 have hr:r = []:=by
  cases r with
  | nil=>rfl
  | cons y r=>
   obtain⟨c,hc,_⟩:=e4 y (by simp)
   rw[h0]at hc;cases hc
 rw[e1,K_,yr (h.small (by omega)),K_,e3,hr]
 rfl
theorem HD(a0:Script)(a1:List Int)(a2:Int):cP a0 a1 a2=some true:=by
 unfold cP;rw[Dm hsort];simp only[K_,PG,cond_false];refine akL λs0 hs0=>?_
 obtain⟨s,es,hs⟩:=GI hs0 (by omega) a1 a2
 rw[es,K_];have hlab:=hs.cf.lab
 rw[G1 s.Lg.Lm.length (by omega)]
 ·rw[K_]
  obtain⟨t,e1,e2,h1,h2,_⟩:=yW hs (by omega) hsort
  have hgl:(RO s t).length≤1000000:=by unfold RO;rw[PI];have h3:=TP (λc:Lx=>(cN t c.Id).isNone) s.Kl;have h4:=hs.cl;omega
  rw[e1,e2];simp only[K_]
  rw[vl hgl,K_,cond_true,yr (h1.small (by omega)),K_,cond_true,Is h1]
  rfl
 ·intro k hk;unfold gw
  obtain⟨r,e1,e2,e3,_⟩:=vF (label:=(k:Int)) hs (by omega) (by omega) (by omega)
  rw[ah hk,cond_true,e1,K_,e2,K_,vl (by omega),K_]
  rfl
 ·unfold gw;rw[am];rfl
end
theorem sortV{l:List Int}(h:l.length≤200)(hp:l.Pairwise λx y=>x<y):cu l=some l:=by
 unfold cu VO
 cases l with
 | nil=>rfl
 | cons x l=>
  show UO (x::l)=_;unfold UO
  rw[if_pos ⟨by simp,by omega⟩]
  congr 1
  refine List.mergeSort_of_pairwise ?_
  exact hp.imp λe=>by simp;omega
theorem wN(a0:Script)(a1:List Int)(a2:Int):cP a0 a1 a2=some true:=HD (λl h1 h2=>sortV h1 h2) a0 a1 a2
end Go.Fx.D
