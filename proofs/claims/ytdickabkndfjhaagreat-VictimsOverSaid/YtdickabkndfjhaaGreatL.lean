/-
  The law over plain data: true at all inputs. Conditions: none.
-/
import Derived.Test.YtdickabkndfjhaaGreatS18
import Derived.Lib.Mul64
import Derived.WalkKit
namespace Go.Fx.D
open Go Go.Fx
set_option linter.unusedVariables false
set_option linter.unusedSimpArgs false
theorem sA(a:Vec):gT a=some (decide (VB 1125899906842624 a)):=by
 unfold gT
 have e:decide (VB 1125899906842624 a)=((decide (a.Mem≥0)&&decide (a.Mem≤1125899906842624))&&(decide (a.Lu≥0)&&decide (a.Lu≤1125899906842624))):=by rw[YA,decide_eq_true_iff];simp only[Np,decide_eq_true_eq,VB,ge_iff_le]
 rw[e]
 cases decide (a.Mem≥0)<;>cases decide (a.Mem≤1125899906842624)<;>cases decide (a.Lu≥0)<;>cases decide (a.Lu≤1125899906842624)<;>rfl
theorem Bf{a:Vec}(h:VB 1125899906842624 a):pL a=some (a,0):=by unfold pL;rw[sA,decide_eq_true h];rfl
theorem zp{a b:Vec}{n m:Int}(ha:VB n a)(hb:VB m b)(h:n+m≤1125899906842624):oP a b=some (MB a b,0):=by
 have hn:0≤n∧0≤m:=by unfold VB at ha hb;omega
 have hs:=ve ha hb;unfold oP
 rw[sA,sA,decide_eq_true (ha.mono (by omega)),decide_eq_true (hb.mono (by omega))]
 simp only[K8,PZ,cond_false]
 have e:(⟨Lx (a.Mem+b.Mem),Lx (a.Lu+b.Lu)⟩:Vec)=MB a b:=by
  unfold VB MB at hs;dsimp only at hs
  rw[am (by omega) (by omega),am (by omega) (by omega)]
  rfl
 rw[e,Bf (hs.mono h)];rfl
theorem DL(a b:Vec):MB a b=MB b a:=by unfold MB;congr 1<;>omega
theorem BJ(a b c:Vec):MB (MB a b) c=MB a (MB b c):=by unfold MB;dsimp only;congr 1<;>omega
theorem wM(a:Vec):MB ⟨0,0⟩ a=a:=by cases a;simp[MB]
theorem BA(l:List Vec)(z:Vec):l.foldl MB z=MB z (Oh l):=by
 induction l generalizing z with
 | nil=>rw[y7,DL,wM];rfl
 | cons x l ih=>rw[TG,ih,mo,BJ]
theorem KC{l:List Vec}(hl:l.length≤1000)(h:∀v∈l,VB 1099511627776 v):qM l=some (Oh l):=by
 unfold qM
 rw[(cW (λv i=>(v,i)) l MB (λk v=>VB (1099511627776*k) v) (λv=>v) (step:=nY l) (by omega) ?_ ?_ (s:=(⟨0,0⟩:Vec)) (by simp[VB])).1]
 ·rw[BA,wM];rfl
 ·intro k hk s hs;have hb:=h _ (NQ hk)
  refine⟨?_,(ve hs hb).mono (by omega)⟩
  unfold nY;rw[ah hk,ai hk];simp only[cond_true,K8]
  rw[zp hs hb (by omega)]
  rfl
 ·intro s _;unfold nY;rw[ar];rfl
theorem ae4(x:Int):IntKind.u64.wrap x=x % 18446744073709551616:=by rw[IntKind.wrap_u64]
theorem VH{x:Int}(h:0≤x)(h2:x<18446744073709551616):IntKind.u64.wrap x=x:=by rw[ae4];omega
theorem aiu(x:Int):Pg .u64 x 32=x / 4294967296:=by
 show x.fdiv (2 ^ min (32:Int).toNat IntKind.u64.bits)=_
 rw[show(2 ^ min (32:Int).toNat IntKind.u64.bits:Int)=4294967296 from by decide,Int.fdiv_eq_ediv_of_nonneg _ (by decide)]
theorem apJ(a b:Nat)(ha:a<18446744073709551616)(hb:b<18446744073709551616):RJ .u64 (a:Int) (b:Int)=((a &&& b:Nat):Int):=by
 show IntKind.u64.wrap ((BitVec.ofInt 64 (a:Int) &&& BitVec.ofInt 64 (b:Int)).toNat)=_
 have e:((BitVec.ofInt 64 (a:Int) &&& BitVec.ofInt 64 (b:Int)).toNat)=a &&& b:=by
  rw[BitVec.toNat_and,BitVec.toNat_ofInt,BitVec.toNat_ofInt]
  congr 1<;>omega
 rw[e];have:a &&& b≤a:=Nat.and_le_left
 exact VH (by omega) (by omega)
theorem ZE(a:Nat)(ha:a<18446744073709551616):RJ .u64 (a:Int) 4294967295=((a % 4294967296:Nat):Int):=by
 have:=apJ a 4294967295 ha (by omega)
 rw[show((4294967295:Nat):Int)=4294967295 from rfl]at this
 rw[this,show(4294967295:Nat)=2 ^ 32 - 1 from rfl,Nat.and_two_pow_sub_one_eq_mod]
theorem Hf(x y:Nat)(hx:x<18446744073709551616)(hy:y<18446744073709551616) :
  qb (x:Int) (y:Int)=some (((x*y / 18446744073709551616:Nat):Int),((x*y % 18446744073709551616:Nat):Int)):=by
 obtain⟨h1,h2,h3,h4⟩:=Lib.mul64_hi x y hx hy
 have a1:=Lib.half_mul_le (a:=x / 4294967296) (b:=y / 4294967296) (by omega) (by omega)
 have a2:=Lib.half_mul_le (a:=x / 4294967296) (b:=y % 4294967296) (by omega) (by omega)
 have a3:=Lib.half_mul_le (a:=x % 4294967296) (b:=y / 4294967296) (by omega) (by omega)
 have a4:=Lib.half_mul_le (a:=x % 4294967296) (b:=y % 4294967296) (by omega) (by omega)
 have w:∀a:Nat,a<18446744073709551616→IntKind.u64.wrap (a:Int)=(a:Int):=λa ha=>VH (by omega) (by omega)
 have d:∀a:Nat,(a:Int) / 4294967296=((a / 4294967296:Nat):Int):=λa=>by omega
 have m:∀a b:Nat,(a:Int)*(b:Int)=((a*b:Nat):Int):=λa b=>(Int.natCast_mul a b).symm;have p:∀a b:Nat,(a:Int)+(b:Int)=((a+b:Nat):Int):=λa b=>(Int.natCast_add a b).symm;unfold qb;simp only[aiu,d];rw[ZE y hy,ZE x hx];simp only[m,p]
 rw[w _ (QgU a1 (by omega)),w _ (QgU a2 (by omega)),w _ (QgU a3 (by omega)),w _ (QgU a4 (by omega))]
 simp only[d,p];rw[w _ h2];simp only[d,p];rw[ZE _ h2];simp only[p];rw[w _ h3];simp only[d]
 have hq:x*y / 18446744073709551616<18446744073709551616:=by have:x*y<18446744073709551616*18446744073709551616:=Nat.mul_lt_mul_of_lt_of_lt hx hy;omega
 have hs:x / 4294967296*(y / 4294967296)+(x / 4294967296*(y % 4294967296)+x % 4294967296*(y % 4294967296) / 4294967296) / 4294967296<18446744073709551616:=by omega
 rw[w _ hs];simp only[p];rw[h4,w _ hq,ae4];simp
theorem CM{n bp:Int}(h0:0≤n)(h1:n≤1099511627776)(b0:0≤bp)(b1:bp≤1000000):pN n bp=some (n*bp / 10000)∧0≤n*bp / 10000∧n*bp / 10000≤109951162777600:=by
 obtain⟨a,rfl⟩:=Int.eq_ofNat_of_zero_le h0;obtain⟨b,rfl⟩:=Int.eq_ofNat_of_zero_le b0;have m3:=oq h0 h1 b0 b1;have hm:(a:Int)*(b:Int)=((a*b:Nat):Int):=(Int.natCast_mul a b).symm;rw[hm]at m3 ⊢
 refine⟨?_,by omega,by omega⟩
 unfold pN
 rw[VH (by omega) (by omega),VH (by omega) (by omega),Hf _ _ (by omega) (by omega)]
 generalize a*b=c at m3 ⊢
 have e1:c / 18446744073709551616=0:=by omega
 have e2:c % 18446744073709551616=c:=by omega
 rw[e1,e2];simp only[K8];unfold sj;have n0:nz 10000=some ():=rfl;have c1:((10000:Int) == 0)=false:=rfl;have c2:decide ((10000:Int)≤((0:Nat):Int))=false:=rfl;have c3:(((0:Nat):Int) == 0)=true:=rfl;simp only[c1,c2,c3,n0,cond_true,cond_false,K8]
 rw[QeC (by omega),VH (by omega) (by omega),am (by omega) (by omega)]
theorem FR{a:Vec}{bp:Int}(ha:VB 1099511627776 a)(b0:0≤bp)(b1:bp≤1000000):pY a bp=some (gW a bp,0):=by
 have ha':=ha;unfold VB at ha';obtain⟨e1,p1,p2⟩:=CM ha'.1.1 ha'.1.2 b0 b1;obtain⟨e2,p3,p4⟩:=CM ha'.2.1 ha'.2.2 b0 b1;have hv:VB 109951162777600 (gW a bp):=⟨⟨p1,p2⟩,p3,p4⟩;unfold pY
 rw[sA,decide_eq_true (ha.mono (by omega))]
 simp only[K8,PZ,cond_false]
 rw[decide_eq_false (by omega),decide_eq_false (by omega)]
 simp only[K8,cond_false];rw[e1,e2];simp only[K8];have:(⟨a.Mem*bp / 10000,a.Lu*bp / 10000⟩:Vec)=gW a bp:=rfl
 rw[this,Bf (hv.mono (by omega))]
 rfl
theorem sV{s:JF}(h:SC s)(label:Int):lV s label=some (b7 s label):=by
 unfold lV;have hn:=h.n
 rw[bU (λ(l:List Vec) i=>(l,i)) s.Ls (λn=>n.Up&&n.Ll == label) (·.Cap) (step:=mE s label) (by omega) ?_ ?_]
 ·rw[K8,KC]
  ·rfl
  ·rw[Py];have:=Um (λn:LB=>n.Up&&n.Ll == label) s.Ls;omega
  ·intro v hv;obtain⟨n,hn,rfl⟩:=Ra.1 hv
   exact(h.b.nc n (PL.1 hn).1).mono (by omega)
 ·intro k hk l hl;unfold mE;rw[ah hk,ai hk];simp only[cond_true,K8]
  rw[aj (by simp;omega) (by omega)]
  cases s.Ls[k].Up<;>cases s.Ls[k].Ll == label<;>rfl
 ·intro l;unfold mE;rw[ar];rfl
theorem sf{α τ ρ : Type}(mk:Int→τ)(l:List α)(p:α→Bool)(g:Int→ρ)(z:ρ){step:τ→Option (τ ⊕ ρ)}(hn:l.length<1000000000)
  (h1:∀k (hk:k<l.length),p l[k]=false→step (mk (k:Int))=some (.inl (mk (Lx ((k:Int)+1)))))
  (h2:∀k (hk:k<l.length),p l[k]=true→step (mk (k:Int))=some (.inr (g (k:Int))))
  (h3:step (mk (l.length:Int))=some (.inr z)):(∃k,∃(hk:k<l.length),l.find? p=some l[k]∧loop step (mk 0)=some (g (k:Int)))∨(l.find? p=none∧loop step (mk 0)=some z):=by
 have h:=ay (σ:=Unit) (Q:=λx=>(∃k,∃(hk:k<l.length),l.find? p=some l[k]∧x=g (k:Int))∨(l.find? p=none∧x=z)) (λ_ i=>mk i) l.length (λk _=>(l.take k).find? p=none) (step:=step) hn ?_ ?_ (s:=()) rfl
 ·obtain⟨x,e,h⟩:=h;rcases h with⟨k,hk,h1,rfl⟩ | ⟨h1,rfl⟩
  ·exact .inl ⟨k,hk,h1,e⟩
  ·exact .inr ⟨h1,e⟩
 ·intro k hk _ hs
  cases hp:p l[k]with
  | false=>refine bO (h1 k hk hp) (.inl ⟨(),rfl,?_⟩);rw[R3 hk,QfY,hs];simp[hp]
  | true=>
   refine bO (h2 k hk hp) (.inr ⟨_,rfl,.inl ⟨k,hk,?_,rfl⟩⟩)
   conv=>lhs;rw[← X0 k l]
   rw[QfY,hs,Vx,Ww hk,QgZ hp]
 ·intro _ hs;rw[Sq]at hs;exact bO h3 ⟨_,rfl,.inr ⟨hs,rfl⟩⟩
theorem zC{c:Lf}(h:O9 c)(p:Str):pJ c p=some ((Nb c p).elim (noQ,false) λq=>(q,true)):=by
 unfold pJ rN;have hq:=h.q
 have e:=sf (λi=>i) c.Lg (λq=>q.LC == p) (λi=>(.inl i:Int ⊕ Unit)) (.inr ()) (step:=lG c.Lg λa'=>mW a'.1 p) (by omega) ?_ ?_ ?_
 ·unfold Nb;rcases e with⟨k,hk,e1,e2⟩ | ⟨e1,e2⟩
  ·rw[e1,e2];simp only[K8,Option.elim_some]
   rw[decide_eq_false (by omega),ai hk]
   simp only[cond_false,K8];unfold qk
   rw[aj (by have:=h.c _ (NQ hk);simp;omega) (by omega)]
   rfl
  ·rw[e1,e2];rfl
 ·intro k hk hf;unfold lG mW;rw[ah hk,ai hk];simp only[cond_true,K8,hf,cond_false]
 ·intro k hk hf;unfold lG mW;rw[ah hk,ai hk];simp only[cond_true,K8,hf]
 ·unfold lG;rw[ar];rfl
theorem yv(p:Str)(hp:p.length<1000000000):∀m,m≤p.length→loop (d_ p 46) ((m:Int) - 1)=some (if((p.take m).reverse.dropWhile (· != 46)).length=0 then .inr ()else .inl ((((p.take m).reverse.dropWhile (· != 46)).length:Int) - 1)):=by
 intro m
 induction m with
 | zero=>intro _;rw[aX];rfl
 | succ m ih=>
  intro hm;rw[aX]
  have e0:((m+1:Nat):Int) - 1=(m:Int):=by omega
  rw[e0];unfold d_
  rw[decide_eq_true (by omega),ai (show m<p.length by omega)]
  have hb:((p[m].toNat:Int) == 46)=!(p[m] != 46):=by
   rw[YA,beq_iff_eq,U3,bne_eq_false_iff_eq]
   refine⟨λh=>?_,λh=>by rw[h];rfl⟩
   exact UInt8.toNat_inj.1 (by have:(46:UInt8).toNat=46:=rfl;omega)
  have ht:(p.take (m+1)).reverse=p[m]::(p.take m).reverse:=by rw[R3 (by omega),QeQ];rfl
  rw[ht,List.dropWhile_cons];simp only[cond_true,K8,hb]
  cases h:(p[m] != 46)with
  | true=>
   simp only[PZ,cond_false,if_true]
   rw[am (by omega) (by omega)]
   exact ih (by omega)
  | false=>
   simp only[Vn,cond_true,RZ,if_false,PN,Z8,Oy]
   rw[if_neg (by omega)]
   congr 2
   omega
theorem FE{p:Str}(hp:p.length<1000000000):∃b,lm p=some (aF p,b):=by
 have e:eG p [46]=aL p 46:=by
  unfold eG
  rw[show((([46]:List UInt8).length:Int) == 0)=false from rfl,show((([46]:List UInt8).length:Int) == 1)=true from rfl]
  simp only[cond_true,cond_false]
  rw[show idx ([46]:List UInt8) 0=some 46 from rfl,K8]
  show(aL p 46).bind some=_
  cases aL p 46<;>rfl
 unfold lm;rw[e];unfold aL;dsimp only
 rw[am (by omega) (by omega),yv p hp p.length (MN _),Sq,m8]
 have hle:=(Qf_ (· != 46) (l:=p.reverse)).length_le;rw[Z8]at hle;generalize(p.reverse.dropWhile (· != 46)).length=n at hle ⊢;by_cases h:n=0
 ·subst h;exact⟨false,rfl⟩
 ·rw[if_neg h];simp only[K8]
  rw[decide_eq_false (by omega)]
  unfold slc;simp only[cond_false]
  rw[if_pos ⟨by omega,by omega,by omega⟩]
  simp only[K8,QgA,Z5];refine⟨true,?_⟩
  congr 3
  omega
theorem AP:∀(n:Nat)(p:Str)(l:List Str),p.length≤n→p.length+l.length≤1000000→loop ou (p,l)=some (l++Ob p)
 | n,p,l,h1,h2=>by
  by_cases h:p = []
  ·subst h;rw[aX];simp[ou,gH]
  ·have hl:=cN h
   have hb:(p == [])=false:=by simp[h]
   have hs:ou (p,l)=some (.inl (aF p,l++[p])):=by
    unfold ou;simp only[hb,Vn,cond_true]
    obtain⟨b,e⟩:=FE (p:=p) (by omega)
    rw[aj (by simp;omega) (by omega),e]
    rfl
   rw[aX,hs];dsimp only
   match n with
   | 0=>omega
   | n+1=>
    rw[AP n (aF p) (l++[p]) (by omega) (by simp;omega),dm h]
    simp
theorem K4{p:Str}(h:p.length≤1000000):uu p=some (Ob p):=by
 unfold uu
 rw[AP p.length p [] (MN _) (by simpa using h)]
 rfl
theorem Ak{s:JF}(h:SC s){Ld:Str}(hp:Ld.length≤1000000){label:Int}(h0:0≤label)(h1:label<s.Lf.Lp.length)(least:Bool){part:M7 fam [.st 1]→Option Int}
  (hpart:∀c:Cap,part (c,())=some (bif least then c.Oe else c.Most)):oC s Ld label part=some (NC s Ld label least):=by
 have hn:=h.n;unfold oC NC;rw[K4 hp,K8,zC h.b.cf]
 cases hf:Nb s.Lf Ld with
 | none=>simp
 | some q=>
  simp only[Option.elim_some,K8,PZ,cond_false,Option.isSome_some,true_and];rw[if_pos ⟨h0,h1⟩,sV h,K8]
  have hfound:=pe h.c Ld.length Ld (MN _) (by rw[hf];rfl)
  have hul:=uh Ld
  have hpos:0<(Ob Ld).length:=by
   have:Ld≠[]:=by intro e;obtain⟨hm,hq⟩:=iX hf;obtain⟨i,hi,rfl⟩:=Ul hm;have:=(h.c.q i hi).Ld.root;rw[hq,e]at this;simp at this
   rw[dm this];simp
  rw[am (by omega) (by omega)]
  have key:∀m,m≤(Ob Ld).length→∀v,VB (s.Ls.length*1073741824) v→loop (nh s label part (Ob Ld)) ((⟨0,0⟩:Vec),v,(m:Int) - 1)=some (.inr (⟨0,0⟩,((Ob Ld).take m).reverse.foldl (λv p=>gW v (S9 s.Lf label least p)) v)):=by
   intro m
   induction m with
   | zero=>intro _ v _;rw[aX];rfl
   | succ m ih=>
    intro hm v hv
    have hfm:=hfound _ (NQ (show m<(Ob Ld).length by omega))
    have hbp:=yS h.c hfm h0 h1 least
    have hs:nh s label part (Ob Ld) ((⟨0,0⟩:Vec),v,((m+1:Nat):Int) - 1)=some (.inl (⟨0,0⟩,gW v (S9 s.Lf label least (Ob Ld)[m]),(m:Int) - 1)):=by
     unfold nh;dsimp only
     rw[show((m+1:Nat):Int) - 1=(m:Int)by omega,decide_eq_true (by omega),aC (show m<(Ob Ld).length by omega)]
     simp only[cond_true,K8,K9 (show m<(Ob Ld).length by omega)]
     obtain⟨q',e1,e2,e3,e4⟩:=tV h.c hfm h0 h1;rw[zC h.b.cf,e1];simp only[Option.elim_some,K8,PZ,cond_false]
     rw[decide_eq_false (show¬ label<0 by omega),decide_eq_false (show¬ label≥(q'.MR.length:Int)by omega)]
     simp only[cond_false,K8]
     have hin:MZ label q'.MR.length=some label.toNat:=by
      unfold MZ
      rw[if_pos ⟨by omega,e2⟩]
     rw[hin];simp only[K8,e3];rw[hpart];simp only[K8]
     rw[show(bif least then(Sm s.Lf label (Ob Ld)[m]).Oe else(Sm s.Lf label (Ob Ld)[m]).Most)=S9 s.Lf label least (Ob Ld)[m]from rfl]
     rw[FR (hv.mono (by omega)) hbp.1 (by omega),K8,am (by omega) (by omega)]
    rw[aX,hs];dsimp only
    rw[ih (by omega) _ (tA hv hbp.1 hbp.2),R3 (by omega),QeQ]
    rfl
  have:=key ((Ob Ld).length - 1) (by omega) _ (nq h.b label)
  rw[show(((Ob Ld).length - 1:Nat):Int) - 1=((Ob Ld).length:Int) - 2 by omega]at this
  rw[this,List.dropLast_eq_take];rfl
theorem yI{s:JF}(h:SC s){Ld:Str}(hp:Ld.length≤1000000){label:Int}(h0:0≤label)(h1:label<s.Lf.Lp.length):mY s Ld label=some (NC s Ld label true):=by unfold mY;rw[Ak h hp h0 h1 true (λc=>rfl)];rfl
theorem G4{s:JF}(h:SC s){Ld:Str}(hp:Ld.length≤1000000){label:Int}(h0:0≤label)(h1:label<s.Lf.Lp.length):p8 s Ld label=some (NC s Ld label false):=by unfold p8;rw[Ak h hp h0 h1 false (λc=>rfl)];rfl
theorem uZ(q:Str):(46∉q∧aF q = [])∨∃r,46∉r∧q=aF q++46::r:=by
 have h0:q.reverse.takeWhile (· != 46)++q.reverse.dropWhile (· != 46)=q.reverse:=QdR
 have h1:46∉(q.reverse.takeWhile (· != 46)).reverse:=by intro h;have:=Td.1 (List.all_takeWhile (p:=(· != 46)) (l:=q.reverse)) _ (QgG.1 h);simp at this
 have h2:q=(q.reverse.dropWhile (· != 46)).reverse++(q.reverse.takeWhile (· != 46)).reverse:=by rw[← QeQ,h0,List.reverse_reverse]
 cases hd:q.reverse.dropWhile (· != 46)with
 | nil=>
  left;rw[hd]at h2
  refine⟨?_,by unfold aF;rw[hd];rfl⟩
  rw[h2];simpa using h1
 | cons x d=>
  right
  have hx:x=46:=by
   have:(q.reverse.dropWhile (· != 46)).head? = some x:=by rw[hd];rfl
   have:=QgT (· != 46) q.reverse;rw[hd]at this;simpa using this
  refine⟨(q.reverse.takeWhile (· != 46)).reverse,h1,?_⟩;unfold aF;rw[hd]
  conv=>lhs;rw[h2,hd,hx]
  simp
theorem J9{p u r:Str}(hr:46∉r):(p++[46]) <+: (u++46::r)↔p=u∨(p++[46]) <+: u:=by
 constructor
 ·intro h;by_cases h1:p.length<u.length
  ·right
   exact QfO h (QfT _ _) (by simp;omega)
  ·by_cases h2:p.length=u.length
   ·left
    have:=QfO (List.IsPrefix.trans (QfT p [46]) h) (QfT u _) (by omega)
    exact List.IsPrefix.eq_of_length this h2
   ·exfalso
    have hp:u++[46] <+: p:=by
     refine QfO (l₃:=u++46::r) ⟨r,by simp⟩ (List.IsPrefix.trans (QfT p [46]) h) (by simp;omega)
    obtain⟨z,rfl⟩:=hp;obtain⟨y,hy⟩:=h
    have:z++[46]++y=r:=by
     have:u++(46::(z++[46]++y))=u++(46::r):=by rw[← hy];simp
     have:=List.append_cancel_left this;simpa using this
    exact hr (by rw[← this];simp)
 ·rintro(rfl | h)
  ·exact⟨r,by simp⟩
  ·exact List.IsPrefix.trans h (QfT _ _)
theorem E3{p:Str}(hp:p≠[]):∀(n:Nat)(q:Str),q.length≤n→(p∈Ob q↔p=q∨(p++[46]) <+: q)
 | n,q,hn=>by
  by_cases hq:q = []
  ·subst hq;rw[gH];constructor
   ·intro h;cases h
   ·rintro(h | h)
    ·exact absurd h hp
    ·have:=h.length_le;simp at this
  ·rw[dm hq,Nz];refine or_congr Iff.rfl ?_;have ha:=cN hq
   match n with
   | 0=>omega
   | n+1=>
    rw[E3 hp n (aF q) (by omega)]
    rcases uZ q with⟨h1,h2⟩ | ⟨r,h1,h2⟩
    ·rw[h2];constructor
     ·rintro(h | h)
      ·exact absurd h hp
      ·have:=h.length_le;simp at this
     ·intro h
      exact absurd (h.subset (by simp)) h1
    ·conv=>rhs;rw[h2]
     rw[J9 h1]
def Y9(q p:Str):Bool:=q == p||(p++[46]).isPrefixOf q
theorem Jb{q:Str}(hq:Ox q)(p:Str):Y9 q p=ba q p:=by
 have hqn:q≠[]:=by intro e;have:=hq.root;rw[e]at this;simp at this
 unfold Y9 ba;rw[YA,UC,beq_iff_eq,QgI,Yp];by_cases hp:p = []
 ·subst hp;constructor
  ·rintro(h | h)
   ·exact absurd h hqn
   ·exfalso;rcases hq.root with h1 | h1
    ·rw[h1]at h;revert h;decide
    ·obtain⟨z,rfl⟩:=h1;obtain⟨y,hy⟩:=h;have:=congrArg List.head? hy;simp at this
  ·intro h;exfalso
   have key:∀(n:Nat)(x:Str),x.length≤n→[]∉Ob x:=by
    intro n
    induction n with
    | zero=>
     intro x hx
     have:x = []:=QdL.1 (by omega)
     subst this;simp[gH]
    | succ n ih=>
     intro x hx;by_cases h:x = []
     ·subst h;simp[gH]
     ·have:=cN h;rw[dm h];simp only[Nz,not_or]
      exact⟨λe=>h e.symm,ih _ (by omega)⟩
   exact key _ _ (MN _) h
 ·rw[E3 hp q.length q (MN _)];constructor
  ·rintro(rfl | h)
   ·exact .inl rfl
   ·exact .inr h
  ·rintro(rfl | h)
   ·exact .inl rfl
   ·exact .inr h
theorem EQ(s p:Str):kN s p=some (p.isPrefixOf s):=by
 unfold kN lg;by_cases h:p.length≤s.length
 ·rw[decide_eq_true (by omega)]
  unfold slc;simp only[cond_true]
  rw[if_pos ⟨by omega,by omega,by omega⟩]
  simp only[K8,QgA,Z5,Tz]
  congr 1
  rw[YA,beq_iff_eq,QgI,List.prefix_iff_eq_take];exact eq_comm
 ·rw[decide_eq_false (by omega)]
  have:p.isPrefixOf s=false:=by rw[Bool.eq_false_iff];intro hc;have:=(QgI.1 hc).length_le;omega
  rw[this];rfl
theorem ER{v:View}{a:LD}(hp:v.Ld.length≤1000000)(ha:Ox a.Lm):kR v a=some (ba a.Lm v.Ld&&(v.user == (-1)||a.User == v.user)):=by
 unfold kR
 rw[eD (by simp;omega),K8,EQ,← Jb ha]
 unfold Y9
 cases a.Lm == v.Ld<;>cases (v.Ld++[46]).isPrefixOf a.Lm<;>cases v.user == (-1)<;>rfl
theorem Hp{v:View}(h:v.s.Lr.length≤100000)(c:Lv):lw v c=some ((MV v.s c.LD).elim (Yi,false) λx=>(x,true)):=by
 unfold lw
 have e:=eJ (λi=>(Yi,i)) v.s.Lr (λx=>x.Id == c.LD) (λx=>(.inl (x,true):(LD×Bool) ⊕ LD)) (.inr Yi) (step:=fc v c) (by omega) ?_ ?_ ?_
 ·unfold Yi at e;rw[e];unfold MV Yi
  cases v.s.Lr.find? λx=>x.Id == c.LD<;>rfl
 ·intro k hk hf;unfold fc;rw[ah hk,ai hk];simp only[cond_true,K8,hf,cond_false]
 ·intro k hk hf;unfold fc;rw[ah hk,ai hk];simp only[cond_true,K8,hf]
 ·unfold fc;rw[ar];rfl
theorem Is{N:Nat}{s:JF}(h:Inv N s){Ld:Str}(hp:Ld.length≤1000000)(label user:Int):mb ⟨s,Ld,label,user⟩=some (Ms s Ld label (user == (-1)) user):=by
 have hcl:=h.cl;have hal:=h.al;unfold mb
 rw[iU (λv i=>(v,i)) s.Lc (OC s Ld label (user == (-1)) user) (·.LV) (step:=j8 ⟨s,Ld,label,user⟩) (by omega) (λc hc _=>((h.sb.cs c hc).mono (by omega))) ?_ ?_]
 ·rfl
 ·intro k hk v hv;unfold j8;dsimp only;rw[ah hk];simp only[ai hk,cond_true,K8]
  rw[Hp (by dsimp only;omega),K8,zp hv (h.sb.cs _ (NQ hk)) (by omega)]
  unfold OC;dsimp only
  cases ha:MV s s.Lc[k].LD with
  | none=>simp
  | some a=>
   simp only[Option.elim_some,K8,cond_true]
   rw[ER (by dsimp only;omega) (h.ak a (nr (id:=λx:LD=>x.Id) ha).1).Ld]
   dsimp only
   rcases QfK (ba a.Lm Ld)with hb | hb<;>simp only[hb]<;>cases s.Lc[k].Ll == label<;>cases user == (-1)<;>cases a.User == user<;>rfl
 ·intro v;unfold j8;dsimp only;rw[ar];rfl
theorem Fj(s:JF)(Ld:Str)(label u w:Int):Ms s Ld label true u=Ms s Ld label true w:=by
 have:OC s Ld label true u=OC s Ld label true w:=by
  funext c
  unfold OC
  cases MV s c.LD<;>simp
 unfold Ms;rw[this]
theorem qn{N:Nat}{s:JF}(h:Inv N s){Ld:Str}(hp:Ld.length≤1000000)(label:Int):jK s Ld label=some (Ms s Ld label true 0):=by
 unfold jK;have:=Is h hp label (-1)
 rw[show((-1:Int) == -1)=true from rfl,Fj s Ld label (-1) 0]at this
 rw[this];rfl
theorem D1(least most:Int){l:List Int}(hl:l.length≤1000):qA least most l=some (l.all λn=>decide (least≤n)&&decide (n≤most)):=by
 unfold qA eC fX
 have e:=sf (λi=>i) l (λn=>!(decide (least≤n)&&decide (n≤most))) (λi=>(.inl i:Int ⊕ Unit)) (.inr ()) (step:=bF l λa'=>nS a'.1 least most) (by omega) ?_ ?_ ?_
 ·rw[← zF l];rcases e with⟨k,hk,e1,e2⟩ | ⟨e1,e2⟩
  ·rw[e1,e2];simp only[K8,Option.isNone_some]
   rw[decide_eq_true (show(k:Int)≥0 by omega)]
   rfl
  ·rw[e1,e2];rfl
 ·intro k hk hf;unfold bF nS;rw[ah hk,ai hk];simp only[cond_true,K8];simp only[QdU,Np,decide_eq_true_eq]at hf
  rw[decide_eq_false (show¬ l[k]<least by omega),decide_eq_false (show¬ l[k]>most by omega)]
  rfl
 ·intro k hk hf;unfold bF nS;rw[ah hk,ai hk];simp only[cond_true,K8];simp only[U3,QeY,decide_eq_false_iff_not]at hf;by_cases h1:l[k]<least
  ·rw[decide_eq_true h1];rfl
  ·rw[decide_eq_false h1,decide_eq_true (show l[k]>most by omega)];rfl
 ·unfold bF;rw[ar];rfl
theorem JY{c:Lf}{l:List Ask}(hl:l.length≤100)(h:∀x∈l,NI c x)(label:Int):n_ l label=some (ga l label):=by
 unfold n_
 rw[iU (λv i=>(v,i)) l (λx=>x.Ll == label) kU (step:=l_ l label) (by omega) (λx hx _=>(mn (h x hx)).1.mono (by omega)) ?_ ?_]
 ·rfl
 ·intro k hk v hv;have hx:=h _ (NQ hk);obtain⟨t1,t2,t3⟩:=mn hx;have hs:=hx.size;have hc:=hx.count;unfold RB at hs;unfold l_;dsimp only;rw[ah hk,cond_true,ai hk];simp only[K8,t2,t3]
  rw[D1 _ _ (by simp),D1 _ _ (by simp)]
  have e1:([l[k].LV.Mem,l[k].LV.Lu].all λn=>decide (0≤n)&&decide (n≤1125899906842624))=true:=by simp;omega
  have e2:([l[k].Mw].all λn=>decide (0≤n)&&decide (n≤50))=true:=by simp;omega
  rw[e1,e2];have hp:=ve hv t1
  have e:(⟨Lx (v.Mem+l[k].LV.Mem*l[k].Mw),Lx (v.Lu+l[k].LV.Lu*l[k].Mw)⟩:Vec)=MB v (kU l[k]):=by
   unfold VB MB kU at hp;dsimp only at hp
   rw[am (by omega) (by omega),am (by omega) (by omega)]
   rfl
  rw[e]
  cases l[k].Ll == label<;>rfl
 ·intro v;unfold l_;rw[ar];rfl
theorem uQ{N:Nat}{s:JF}(h:Inv N s){Ld:Str}(hp:Ld.length≤1000000)(label:Int):lN s Ld label=some (bB s Ld label):=by
 have hal:=h.al;unfold lN mv
 rw[iU (λv i=>(v,i)) s.Lr (λa=>Mx a&&ba a.Lm Ld) (λa=>ga a.Mr label) (by omega) (λa ha _=>(qm (h.ak a ha).al (h.ak a ha).ask label).mono (by omega)) ?_ ?_]
 ·rfl
 ·intro k hk v hv;have hak:=h.ak _ (NQ hk);unfold kQ;dsimp only;rw[ah hk,cond_true];simp only[ai hk,K8]
  rw[ER (by dsimp only;omega) hak.Ld,JY (by have:=hak.al;omega) hak.ask,K8,K8,zp hv (qm hak.al hak.ask label) (by omega)]
  unfold nJ Mx
  cases s.Lr[k].JF == 1<;>cases s.Lr[k].JF == 2<;>rcases QfK (ba s.Lr[k].Lm Ld)with hb | hb<;>simp only[hb]<;>rfl
 ·intro v;unfold kQ;dsimp only;rw[ar];rfl
theorem EI{p:Str}(h:Ox p):lm p=some (aF p,!(aF p == [])):=by
 have hp:p.length<1000000000:=by have:=h.len;omega
 have e:eG p [46]=aL p 46:=by
  unfold eG
  rw[show((([46]:List UInt8).length:Int) == 0)=false from rfl,show((([46]:List UInt8).length:Int) == 1)=true from rfl]
  simp only[cond_true,cond_false]
  rw[show idx ([46]:List UInt8) 0=some 46 from rfl,K8]
  show(aL p 46).bind some=_
  cases aL p 46<;>rfl
 have hhead:∀r,p≠46::r:=by
  intro r er;rcases h.root with h1 | h1
  ·rw[h1]at er;cases er
  ·obtain⟨t,h1⟩:=h1;rw[er]at h1;cases h1
 unfold lm;rw[e];unfold aL;dsimp only
 rw[am (by omega) (by omega),yv p hp p.length (MN _),Sq,m8]
 have hle:=(Qf_ (· != 46) (l:=p.reverse)).length_le;rw[Z8]at hle
 have hone:(p.reverse.dropWhile (· != 46)).length≠1:=by
  intro h1;rcases uZ p with⟨h2,_⟩ | ⟨r,h2,h3⟩
  ·cases hd:p.reverse.dropWhile (· != 46)with
   | nil=>rw[hd]at h1;cases h1
   | cons x d=>
    have:=QgT (λy:UInt8=>y != 46) p.reverse;rw[hd]at this
    have hx:x=46:=by simpa using this
    have hm:x∈p.reverse:=List.dropWhile_subset _ (by rw[hd];simp)
    exact h2 (hx▸QgG.1 hm)
  ·rw[m8,h1]at h3
   exact hhead r (by simpa using h3)
 generalize(p.reverse.dropWhile (· != 46)).length=n at hle hone ⊢;by_cases h:n=0
 ·subst h;rfl
 ·rw[if_neg h];simp only[K8]
  rw[decide_eq_false (by omega)]
  unfold slc;simp only[cond_false]
  rw[if_pos ⟨by omega,by omega,by omega⟩]
  simp only[K8,QgA,Z5]
  have hne:(p.take (n - 1) == [])=false:=by rw[beq_eq_false_iff_ne];intro e0;have:=congrArg List.length e0;rw[Oy,WV]at this;omega
  have e1:((n:Int) - 1).toNat=n - 1:=by omega
  rw[e1,hne];rfl
theorem Ah{c:Lf}(h:Nj c)(p:Str):qX c p=some (LP c p):=by
 have hq:=h.qs
 have e:=bU (λ(l:List Str) i=>(l,i)) c.Lg (λq=>!(aF q.LC == [])&&aF q.LC == p) (·.LC) (step:=nW c p) (by omega) ?_ ?_
 ·unfold qX;rw[e,K8];unfold LP;by_cases hp:p = []
  ·subst hp
   rw[if_pos rfl,QeA.2 (by simp)]
   rfl
  ·rw[if_neg hp]
   congr 2
   refine QfB λq _=>?_;by_cases e1:aF q.LC=p
   ·have:aF q.LC≠[]:=by rw[e1];exact hp
    rw[beq_eq_false_iff_ne.2 this];simp
   ·rw[beq_eq_false_iff_ne.2 e1];simp
 ·intro k hk l hl;unfold nW;rw[ah hk,cond_true];dsimp only;rw[ai hk,K8,EI (jh h (NQ hk)),K8];dsimp only
  cases e1:(aF c.Lg[k].LC == [])with
  | true=>simp
  | false=>
   cases e2:(aF c.Lg[k].LC == p)with
   | false=>simp
   | true=>
    simp only[Vn,cond_true,K8,Bool.and_self,if_true]
    rw[aj (by simp;omega) (by omega)]
    rfl
 ·intro l;unfold nW;rw[ar];rfl
theorem bD(n:Int):0≤LM n∧LM n≤1125899906842624:=by
 unfold LM
 split<;>omega
theorem Ih{n:Int}(h:0≤n):LM n≤n:=by
 unfold LM
 split<;>omega
theorem o7(n:Int):jR n=some (LM n):=i_ n
def sp1(x:Int×Int×Int)(left:Int):Int:=Mj (Mj (Mj (LM x.1) (LM x.2.1)) (LM x.2.2)) left
def st1(t:List Int×Int)(x:Int×Int×Int):List Int×Int:=(t.1++[sp1 x t.2],t.2 - sp1 x t.2)
def sp2(x:(Int×Int×Int)×Int)(left:Int):Int:=Mj (imax (Mj (LM x.1.2.1) (LM x.1.2.2) - x.2) 0) left
def st2(t:List Int×Int)(x:(Int×Int×Int)×Int):List Int×Int:=(t.1++[x.2+sp2 x t.2],t.2 - sp2 x t.2)
def ax(total:Int)(l:List (Int×Int×Int)):List Int×Int:=l.foldl st1 ([],LM total)
def eg(total:Int)(l:List (Int×Int×Int)):List Int:=((l.zip (ax total l).1).foldl st2 ([],(ax total l).2)).1
theorem z7(x:Int×Int×Int){left:Int}(h:0≤left):0≤sp1 x left∧sp1 x left≤left∧sp1 x left≤LM x.2.1∧sp1 x left≤LM x.2.2:=by
 have h1:=bD x.1;have h2:=bD x.2.1;have h3:=bD x.2.2;unfold sp1 Mj
 repeat' split
 all_goals omega
theorem wl(x:(Int×Int×Int)×Int){left:Int}(h:0≤left)(h2:x.2≤LM x.1.2.1∧x.2≤LM x.1.2.2):0≤sp2 x left∧sp2 x left≤left∧x.2+sp2 x left≤LM x.1.2.1∧x.2+sp2 x left≤LM x.1.2.2:=by
 obtain⟨q1,q2⟩:=h2;unfold sp2 Mj imax
 repeat' split
 all_goals omega
structure Yc(OH:Int)(l:List (Int×Int×Int))(t:List Int×Int):Prop where
 len:t.1.length=l.length
 left:0≤t.2
 sum:t.1.sum+t.2=OH
 bd:∀k (h:k<l.length) (h':k<t.1.length),0≤t.1[k]∧t.1[k]≤LM l[k].2.1∧t.1[k]≤LM l[k].2.2
theorem Kx{OH:Int}{l:List (Int×Int×Int)}{t:List Int×Int}(h:Yc OH l t)(x:Int×Int×Int):Yc OH (l++[x]) (st1 t x):=by
 have hb:=z7 x h.left;have hl:=h.len
 refine⟨by simp[st1,hl],by unfold st1;dsimp only;omega,?_,?_⟩
 ·have:=h.sum;simp only[st1,List.sum_append,R8,List.sum_nil];omega
 ·intro k h1 h2;by_cases hk:k<l.length
  ·have:=h.bd k hk (by omega)
   simp only[st1]
   rw[QfM (by omega),QfM hk]
   exact this
  ·have hk:k=l.length:=by simp at h1;omega
   subst hk;simp only[st1]
   rw[QfF (by omega),QfF (by omega)]
   simp only[hl,Nat.sub_self,Qh_];exact⟨hb.1,hb.2.2.1,hb.2.2.2⟩
theorem vp{OH:Int}:∀(r l:List (Int×Int×Int)) (t:List Int×Int),Yc OH l t→Yc OH (l++r) (r.foldl st1 t)
 | [],l,t,h=>by simpa using h
 | x::r,l,t,h=>by have:=vp r (l++[x]) _ (Kx h x);simpa using this
theorem eM(total:Int)(l:List (Int×Int×Int)):Yc (LM total) l (ax total l):=by
 have:=vp (OH:=LM total) l [] ([],LM total) ⟨rfl,(bD total).1,by simp,λk h=>absurd h (by simp)⟩
 simpa[ax]using this
structure Yb(OH:Int)(l:List ((Int×Int×Int)×Int))(t:List Int×Int):Prop where
 len:t.1.length=l.length
 left:0≤t.2
 sum:t.1.sum+t.2=OH+(l.map (·.2)).sum
 bd:∀k (h:k<l.length) (h':k<t.1.length),0≤t.1[k]∧t.1[k]≤LM l[k].1.2.1∧t.1[k]≤LM l[k].1.2.2
theorem KK{OH:Int}{l:List ((Int×Int×Int)×Int)}{t:List Int×Int}(h:Yb OH l t){x:(Int×Int×Int)×Int}(hx:0≤x.2∧x.2≤LM x.1.2.1∧x.2≤LM x.1.2.2):Yb OH (l++[x]) (st2 t x):=by
 have hb:=wl x h.left hx.2;have hl:=h.len
 refine⟨by simp[st2,hl],by unfold st2;dsimp only;omega,?_,?_⟩
 ·have:=h.sum;simp only[st2,List.sum_append,R8,List.sum_nil,UD,M9,Oi];omega
 ·intro k h1 h2;by_cases hk:k<l.length
  ·have:=h.bd k hk (by omega)
   simp only[st2]
   rw[QfM (by omega),QfM hk]
   exact this
  ·have hk:k=l.length:=by simp at h1;omega
   subst hk;simp only[st2]
   rw[QfF (by omega),QfF (by omega)]
   simp only[hl,Nat.sub_self,Qh_];omega
theorem vB{OH:Int}:∀(r l:List ((Int×Int×Int)×Int)) (t:List Int×Int),Yb OH l t→(∀x∈r,0≤x.2∧x.2≤LM x.1.2.1∧x.2≤LM x.1.2.2)→Yb OH (l++r) (r.foldl st2 t)
 | [],l,t,h,_=>by simpa using h
 | x::r,l,t,h,hr=>by
  have:=vB r (l++[x]) _ (KK h (hr x (by simp))) (λy hy=>hr y (by simp[hy]))
  simpa using this
theorem tM(total:Int)(l:List (Int×Int×Int)):∀x∈l.zip (ax total l).1,0≤x.2∧x.2≤LM x.1.2.1∧x.2≤LM x.1.2.2:=by
 have h:=eM total l;intro x hx;obtain⟨k,hk,rfl⟩:=Ul hx;have hl:=h.len
 have hz:k<l.length:=by simp at hk;omega
 rw[Xz]
 exact h.bd k hz (by omega)
theorem tv(total:Int)(l:List (Int×Int×Int)):Yb (ax total l).2 (l.zip (ax total l).1) ((l.zip (ax total l).1).foldl st2 ([],(ax total l).2)):=by
 have:=vB (OH:=(ax total l).2) (l.zip (ax total l).1) [] ([],(ax total l).2) ⟨rfl,(eM total l).left,by simp,λk h=>absurd h (by simp)⟩ (tM total l)
 simpa using this
theorem DW(total:Int)(l:List (Int×Int×Int)):(eg total l).length=l.length:=by have h1:=(eM total l).len;have h2:=(tv total l).len;unfold eg;rw[h2,QeL,h1,QfN]
theorem xw{α β : Type}:∀{l:List α}{m:List β},l.length=m.length→(l.zip m).map (·.2)=m
 | [],[],_=>rfl
 | a::l,b::m,h=>by simp only[List.zip_cons_cons,M9];rw[xw (by simpa using h)]
 | [],_::_,h=>by simp at h
 | _::_,[],h=>by simp at h
theorem F0{total:Int}(h0:0≤total)(l:List (Int×Int×Int)):(eg total l).sum≤total:=by have h1:=eM total l;have h2:=tv total l;have h3:=h2.sum;rw[xw h1.len.symm]at h3;have h4:=h1.sum;have h5:=Ih h0;have h6:=h2.left;show((l.zip (ax total l).1).foldl st2 ([],(ax total l).2)).1.sum≤total;omega
theorem HM(total:Int)(l:List (Int×Int×Int))(k:Nat)(h:k<l.length)(h':k<(eg total l).length):0≤(eg total l)[k]∧(eg total l)[k]≤LM l[k].2.1:=by
 have h1:=eM total l;have h2:=tv total l
 have hz:k<(l.zip (ax total l).1).length:=by rw[QeL,h1.len];omega
 have:=h2.bd k hz h';rw[Xz]at this;exact⟨this.1,this.2.1⟩
theorem qV(first:Int)(l:List Int)(hl:l.length≤100):jl first l=some (l.foldl Mj first):=by
 unfold jl
 have h:=ay (Q:=λx=>x=l.foldl Mj first) (λ(n:Int) i=>(n,i)) l.length (λk n=>n=(l.take k).foldl Mj first) (step:=l8 l) (by omega) ?_ ?_ (s:=first) (by simp)
 ·obtain⟨x,e,rfl⟩:=h;rw[e,K8]
 ·rintro k hk n rfl
  refine bO (a:=.inl ((l.take (k+1)).foldl Mj first,Lx ((k:Int)+1))) ?_ (.inl ⟨_,rfl,rfl⟩)
  unfold l8;dsimp only;rw[ah hk,cond_true,ai hk,K8,R3 hk,QgW];rfl
 ·rintro n rfl
  refine bO (a:=.inr ((l.take l.length).foldl Mj first)) ?_ ⟨_,rfl,by rw[Sq]⟩
  unfold l8;dsimp only;rw[ar];rfl
theorem yc(a:Int):Mj a a=a:=by unfold Mj;split<;>rfl
section
variable(total:Int)(l:List (Int×Int×Int))
def fs1(k:Nat):List Int×Int:=(l.take k).foldl st1 ([],LM total)
def Q_(k:Nat):List Int×Int:=((l.zip (ax total l).1).take k).foldl st2 ([],(ax total l).2)
theorem Ac(k:Nat):Yc (LM total) (l.take k) (fs1 total l k):=by
 have:=vp (OH:=LM total) (l.take k) [] ([],LM total) ⟨rfl,(bD total).1,by simp,λk h=>absurd h (by simp)⟩
 simpa[fs1]using this
theorem AD{k:Nat}(hk:k<l.length):fs1 total l (k+1)=st1 (fs1 total l k) l[k]:=by unfold fs1;rw[R3 hk,QgW];rfl
theorem zf(k:Nat):Yb (ax total l).2 ((l.zip (ax total l).1).take k) (Q_ total l k):=by
 have:=vB (OH:=(ax total l).2) ((l.zip (ax total l).1).take k) [] ([],(ax total l).2) ⟨rfl,(eM total l).left,by simp,λk h=>absurd h (by simp)⟩ (λx hx=>tM total l x (QeK hx))
 simpa[Q_]using this
theorem Wy:(l.zip (ax total l).1).length=l.length:=by rw[QeL,(eM total l).len,QfN]
theorem zK{k:Nat}(hk:k<l.length)(hk':k<(ax total l).1.length):Q_ total l (k+1)=st2 (Q_ total l k) (l[k],(ax total l).1[k]):=by
 have hz:k<(l.zip (ax total l).1).length:=by rw[Wy];exact hk
 unfold Q_;rw[R3 hz,QgW,Xz];rfl
theorem u4(k:Nat):0≤(fs1 total l k).2∧(fs1 total l k).2≤1125899906842624:=by
 have h:=Ac total l k;have h1:=h.sum;have h2:=(bD total).2
 have h3:0≤(fs1 total l k).1.sum:=by
  have gen:∀m:List Int,(∀j (h:j<m.length),0≤m[j])→0≤m.sum:=by
   intro m
   induction m with
   | nil=>intro _;simp
   | cons a m ih=>
    intro hm
    have h0:=hm 0 (by simp)
    have:=ih λj hj=>by have:=hm (j+1) (by simp;omega);simpa using this
    simp only[R8];simp only[Qh_]at h0;omega
  exact gen _ λj hj=>(h.bd j (by have:=h.len;omega) hj).1
 have:=h.left;omega
theorem zt(k:Nat):0≤(Q_ total l k).2∧(Q_ total l k).2≤1125899906842624:=by
 have h1:=(u4 total l l.length).2
 have e:fs1 total l l.length=ax total l:=by unfold fs1 ax;rw[Sq]
 rw[e]at h1;refine⟨(zf total l k).left,?_⟩
 have gen:∀(m:List ((Int×Int×Int)×Int)) (t:List Int×Int),0≤t.2→(∀x∈m,0≤x.2∧x.2≤LM x.1.2.1∧x.2≤LM x.1.2.2)→(m.foldl st2 t).2≤t.2:=by
  intro m
  induction m with
  | nil=>intro t _ _;exact Uj _
  | cons x m ih=>
   intro t ht hm
   have hb:=wl x ht (hm x (by simp)).2
   have:=ih (st2 t x) (by unfold st2;dsimp only;omega) (λy hy=>hm y (by simp[hy]))
   simp only[TG];unfold st2 at this ⊢;dsimp only at this ⊢;omega
 have:=gen ((l.zip (ax total l).1).take k) ([],(ax total l).2) (eM total l).left (λx hx=>tM total l x (QeK hx));unfold Q_;dsimp only at this;omega
theorem EK(hl:l.length≤100):cZ total (l.map (·.1)) (l.map (·.2.1)) (l.map (·.2.2))=some (eg total l):=by
 unfold cZ;simp only[Py,yc];rw[i_,K8]
 have h1:=ay (Q:=λx=>x=((ax total l).2,(ax total l).1)) (λ(t:Int×List Int) i=>(t.1,t.2,i)) l.length (λk t=>t=((fs1 total l k).2,(fs1 total l k).1)) (step:=bK (l.map (·.1)) (l.map (·.2.1)) (l.map (·.2.2)) (l.length:Int)) (by omega) ?_ ?_ (s:=(LM total,[])) rfl
 ·obtain⟨x,e,rfl⟩:=h1;rw[e,K8];dsimp only
  have h2:=ay (Q:=λx=>x=eg total l) (λ(t:Int×List Int) i=>(t.1,t.2,i)) l.length (λk t=>t=((Q_ total l k).2,(Q_ total l k).1++(ax total l).1.drop k)) (step:=bL (l.map (·.2.1)) (l.map (·.2.2)) (l.length:Int)) (by omega) ?_ ?_ (s:=((ax total l).2,(ax total l).1)) (by simp[Q_])
  ·obtain⟨x,e,rfl⟩:=h2;rw[e,K8]
  ·rintro k hk t rfl;have hp:=(eM total l).len
   have hk':k<(ax total l).1.length:=by omega
   have hlen:=(zf total l k).len;rw[Oy,Wy]at hlen;have hL:=zt total l k
   have hz:=tM total l (l[k],(ax total l).1[k]) (by
    have:k<(l.zip (ax total l).1).length:=by rw[Wy];exact hk
    have e:(l.zip (ax total l).1)[k]=(l[k],(ax total l).1[k]):=Xz;rw[← e];exact NQ this)
   have hb:=wl (l[k],(ax total l).1[k]) hL.1 hz.2;dsimp only at hb hz;have g1:=bD l[k].2.1;have g2:=bD l[k].2.2
   have hm:0≤Mj (LM l[k].2.1) (LM l[k].2.2)∧Mj (LM l[k].2.1) (LM l[k].2.2)≤1125899906842624:=by unfold Mj;split<;>omega
   have hget:((Q_ total l k).1++(ax total l).1.drop k)[k]? = some (ax total l).1[k]:=by
    rw[RF (by omega),show k - (Q_ total l k).1.length=0 by omega,SY,Vm,K9 hk']
   have UU:k<((Q_ total l k).1++(ax total l).1.drop k).length:=by simp;omega
   have hset:∀v:Int,List.set ((Q_ total l k).1++(ax total l).1.drop k) k v=(Q_ total l k).1++[v]++(ax total l).1.drop (k+1):=by
    intro v
    rw[QgB _ _ (by omega),show k - (Q_ total l k).1.length=0 by omega,Ww hk',QeW]
    simp
   refine bO (a:=.inl ((Q_ total l (k+1)).2,(Q_ total l (k+1)).1++(ax total l).1.drop (k+1),Lx ((k:Int)+1))) ?_ (.inl ⟨(_,_),rfl,rfl⟩);unfold bL;dsimp only
   rw[ah hk,cond_true,ai (by simpa using hk),K8,i_,K8,ai (by simpa using hk),K8,i_,K8]
   simp only[aC UU,K8,hget,QeU,hset]
   rw[zK total l hk hk',am (x:=Mj _ _ - _) (by omega) (by omega)]
   have esp:Mj (imax (Mj (LM l[k].2.1) (LM l[k].2.2) - (ax total l).1[k]) 0) (Q_ total l k).2=sp2 (l[k],(ax total l).1[k]) (Q_ total l k).2:=rfl
   rw[esp,am (x:=(Q_ total l k).2 - _) (by omega) (by omega),am (x:=(ax total l).1[k]+_) (by omega) (by omega)]
   rfl
  ·rintro t rfl;have hp:=(eM total l).len;refine bO (a:=.inr ((Q_ total l l.length).1++(ax total l).1.drop l.length)) ?_ ⟨_,rfl,?_⟩
   ·unfold bL;dsimp only;rw[ar];rfl
   ·rw[← hp,ZQ,Wq,hp];unfold Q_ eg
    rw[Wv (by rw[Wy];exact MN _)]
 ·rintro k hk t rfl;have hL:=u4 total l k;have hb:=z7 l[k] hL.1;have hlen:=(Ac total l k).len;rw[Oy]at hlen;refine bO (a:=.inl ((fs1 total l (k+1)).2,(fs1 total l (k+1)).1,Lx ((k:Int)+1))) ?_ (.inl ⟨(_,_),rfl,rfl⟩);unfold bK;dsimp only
  rw[ah hk,cond_true,ai (by simpa using hk),K8,i_,K8,ai (by simpa using hk),K8,i_,K8,ai (by simpa using hk),K8,i_,K8,aj (by simp;omega) (by omega),K8]
  simp only[QeU];have esp:Mj (Mj (Mj (LM l[k].1) (LM l[k].2.1)) (LM l[k].2.2)) (fs1 total l k).2=sp1 l[k] (fs1 total l k).2:=rfl
  rw[AD total l hk,esp,am (by omega) (by omega)]
  rfl
 ·rintro t rfl;refine bO (a:=.inr ((fs1 total l l.length).2,(fs1 total l l.length).1)) ?_ ⟨_,rfl,?_⟩
  ·unfold bK;dsimp only;rw[ar];rfl
  ·unfold fs1 ax;rw[Sq]
theorem FY(hl:l.length≤100):o9 total (l.map (·.1)) (l.map (·.2.1)) (l.map (·.2.2))=some (eg total l):=by
 unfold o9
 rw[qV _ _ (by simp),K8]
 simp only[Py,TG,List.foldl_nil,yc]
 have e0:V9 8 (l.length:Int) (l.length:Int) (0:Int)=some (List.replicate l.length 0):=by
  unfold V9
  rw[if_pos ⟨by omega,by omega,by unfold maxLen;omega,by omega⟩]
  simp
 rw[e0,K8,o7,K8]
 have h1:=ay (Q:=λx=>x=ax total l) (λ(t:List Int×Int) i=>(t.1,t.2,i)) l.length (λk t=>t=((fs1 total l k).1++List.replicate (l.length - k) 0,(fs1 total l k).2)) (step:=mL (l.map (·.1)) (l.map (·.2.1)) (l.map (·.2.2)) (l.length:Int)) (by omega) ?_ ?_ (s:=(List.replicate l.length 0,LM total)) (by simp[fs1])
 ·obtain⟨x,e,rfl⟩:=h1;rw[e,K8]
  have h2:=ay (Q:=λx=>x=eg total l) (λ(t:List Int×Int) i=>(t.1,t.2,i)) l.length (λk t=>t=((Q_ total l k).1++(ax total l).1.drop k,(Q_ total l k).2)) (step:=mF (l.map (·.2.1)) (l.map (·.2.2)) (l.length:Int)) (by omega) ?_ ?_ (s:=ax total l) (by simp[Q_])
  ·obtain⟨x,e,rfl⟩:=h2;rw[e,K8]
  ·rintro k hk t rfl;have hp:=(eM total l).len
   have hk':k<(ax total l).1.length:=by omega
   have hlen:=(zf total l k).len;rw[Oy,Wy]at hlen;have hL:=zt total l k
   have hz:=tM total l (l[k],(ax total l).1[k]) (by
    have:k<(l.zip (ax total l).1).length:=by rw[Wy];exact hk
    have e:(l.zip (ax total l).1)[k]=(l[k],(ax total l).1[k]):=Xz;rw[← e];exact NQ this)
   have hb:=wl (l[k],(ax total l).1[k]) hL.1 hz.2;dsimp only at hb hz;have g1:=bD l[k].2.1;have g2:=bD l[k].2.2
   have hm:0≤Mj (LM l[k].2.1) (LM l[k].2.2)∧Mj (LM l[k].2.1) (LM l[k].2.2)≤1125899906842624:=by unfold Mj;split<;>omega
   have hget:((Q_ total l k).1++(ax total l).1.drop k)[k]? = some (ax total l).1[k]:=by
    rw[RF (by omega),show k - (Q_ total l k).1.length=0 by omega,SY,Vm,K9 hk']
   have UU:k<((Q_ total l k).1++(ax total l).1.drop k).length:=by simp;omega
   have hset:∀v:Int,List.set ((Q_ total l k).1++(ax total l).1.drop k) k v=(Q_ total l k).1++[v]++(ax total l).1.drop (k+1):=by
    intro v
    rw[QgB _ _ (by omega),show k - (Q_ total l k).1.length=0 by omega,Ww hk',QeW]
    simp
   refine bO (a:=.inl ((Q_ total l (k+1)).1++(ax total l).1.drop (k+1),(Q_ total l (k+1)).2,Lx ((k:Int)+1))) ?_ (.inl ⟨(_,_),rfl,rfl⟩);unfold mF;dsimp only
   rw[ah hk,cond_true,ai (by simpa using hk),K8,o7,K8,ai (by simpa using hk),K8,o7,K8,qV _ _ (by simp),K8]
   simp only[aC UU,K8,hget,QeU,hset,TG,List.foldl_nil]
   rw[qV _ _ (by simp),K8]
   simp only[TG,List.foldl_nil]
   rw[zK total l hk hk',am (x:=Mj _ _ - _) (by omega) (by omega)]
   have esp:Mj (imax (Mj (LM l[k].2.1) (LM l[k].2.2) - (ax total l).1[k]) 0) (Q_ total l k).2=sp2 (l[k],(ax total l).1[k]) (Q_ total l k).2:=rfl
   rw[esp,am (x:=(Q_ total l k).2 - _) (by omega) (by omega),am (x:=(ax total l).1[k]+_) (by omega) (by omega)]
   rfl
  ·rintro t rfl;have hp:=(eM total l).len;refine bO (a:=.inr ((Q_ total l l.length).1++(ax total l).1.drop l.length)) ?_ ⟨_,rfl,?_⟩
   ·unfold mF;dsimp only;rw[ar];rfl
   ·rw[← hp,ZQ,Wq,hp];unfold Q_ eg
    rw[Wv (by rw[Wy];exact MN _)]
 ·rintro k hk t rfl;have hL:=u4 total l k;have hb:=z7 l[k] hL.1;have hlen:=(Ac total l k).len;rw[Oy]at hlen
  have hr:List.replicate (l.length - k) (0:Int)=0::List.replicate (l.length - (k+1)) 0:=by
   rw[show l.length - k=(l.length - (k+1))+1 by omega,QgL]
  have UU:k<((fs1 total l k).1++List.replicate (l.length - k) (0:Int)).length:=by simp;omega
  have hset:∀v:Int,List.set ((fs1 total l k).1++List.replicate (l.length - k) (0:Int)) k v=(fs1 total l k).1++[v]++List.replicate (l.length - (k+1)) 0:=by
   intro v
   rw[QgB _ _ (by omega),show k - (fs1 total l k).1.length=0 by omega,hr,QeW]
   simp
  have hget:∀v:Int,((fs1 total l k).1++[v]++List.replicate (l.length - (k+1)) (0:Int))[k]? = some v:=by
   intro v
   rw[P5,RF (by omega),show k - (fs1 total l k).1.length=0 by omega]
   rfl
  have hlen3:∀v:Int,k<((fs1 total l k).1++[v]++List.replicate (l.length - (k+1)) (0:Int)).length:=by intro v;simp;omega
  refine bO (a:=.inl ((fs1 total l (k+1)).1++List.replicate (l.length - (k+1)) 0,(fs1 total l (k+1)).2,Lx ((k:Int)+1))) ?_ (.inl ⟨(_,_),rfl,rfl⟩);unfold mL;dsimp only
  rw[ah hk,cond_true,ai (by simpa using hk),K8,o7,K8,ai (by simpa using hk),K8,o7,K8,ai (by simpa using hk),K8,o7,K8,qV _ _ (by simp),K8,aC UU,K8,K9 UU,K8]
  simp only[hset,aC (hlen3 _),K8,hget,QeU,TG,List.foldl_nil];have esp:Mj (Mj (Mj (LM l[k].1) (LM l[k].2.1)) (LM l[k].2.2)) (fs1 total l k).2=sp1 l[k] (fs1 total l k).2:=rfl
  rw[AD total l hk,esp,am (by omega) (by omega)]
  rfl
 ·rintro t rfl;refine bO (a:=.inr ((fs1 total l l.length).1++List.replicate (l.length - l.length) 0,(fs1 total l l.length).2)) ?_ ⟨_,rfl,?_⟩
  ·unfold mL;dsimp only;rw[ar];rfl
  ·unfold fs1 ax;simp
end
def M0(s:JF)(label:Int)(x:Str):Int×Int×Int:=((NC s x label true).Mem,(Ms s x label true 0).Mem+(bB s x label).Mem,(NC s x label false).Mem)
def aT(s:JF)(label mem:Int)(kids:List Str):List Int:=eg mem (kids.map (M0 s label))
def pI:Nat→JF→Str→Int→Int→List MC
 | 0,s,Ld,label,mem=>[⟨Ld,mem⟩]
 | d+1,s,Ld,label,mem=>if(LP s.Lf Ld).isEmpty then[⟨Ld,mem⟩]else((LP s.Lf Ld).zip (aT s label mem (LP s.Lf Ld))).flatMap λx=>pI d s x.1 label x.2
theorem li(s:JF)(label mem:Int)(kids:List Str):(aT s label mem kids).length=kids.length:=by unfold aT;rw[DW,Py]
theorem oJ(s:JF)(label mem:Int)(kids:List Str):(kids.zip (aT s label mem kids)).length=kids.length:=by rw[QeL,li,QfN]
theorem lp{α β : Type}(f:α→List β)(n:Nat):∀(l:List α),(∀x∈l,(f x).length≤n)→(l.flatMap f).length≤l.length*n
 | [],_=>by simp
 | a::l,h=>by
  have h1:=h a (by simp)
  have h2:=lp f n l λx hx=>h x (by simp[hx])
  rw[QfX,La,PN,TF];omega
theorem rH(s:JF)(label:Int):∀(d:Nat)(Ld:Str)(mem:Int),(LP s.Lf Ld).length≤16→(∀p,(LP s.Lf p).length≤16)→(pI d s Ld label mem).length≤16 ^ d
 | 0,Ld,mem,_,_=>by simp[pI]
 | d+1,Ld,mem,hk,ha=>by
  unfold pI;split
  ·simp;exact Nat.one_le_pow _ _ (by omega)
  ·refine Rb (lp _ (16 ^ d) _ λx _=>rH s label d x.1 x.2 (ha _) ha) ?_;rw[oJ,Nat.pow_succ,Nat.mul_comm (16 ^ d)];exact Rp _ hk
theorem lD{N:Nat}{s:JF}(h:Inv N s)(p:Str):(LP s.Lf p).length≤16:=by have:=nK s.Lf p;have:=h.cf.qs;omega
theorem pB{N:Nat}{s:JF}(h:Inv N s){Ld x:Str}(hx:x∈LP s.Lf Ld):Ox x∧x.count 46=Ld.count 46+1∧(Nb s.Lf x).isSome=true:=by
 obtain⟨hp,q,hq',rfl,ha⟩:=dK hx;obtain⟨q',e,_⟩:=oM hq'
 exact⟨jh h.cf hq',dQ hp ha,by rw[e];rfl⟩
theorem Cm{N:Nat}{s:JF}(h:Inv N s){Ld:Str}(hc:3≤Ld.count 46):LP s.Lf Ld = []:=by
 cases hk:LP s.Lf Ld with
 | nil=>rfl
 | cons x l=>
  obtain⟨h1,h2,_⟩:=pB h (Ld:=Ld) (x:=x) (by rw[hk];simp)
  have:=h1.deep;omega
theorem qd{N:Nat}{s:JF}(h:Inv N s)(label:Int)(x:Str):(0≤(Ms s x label true 0).Mem∧(Ms s x label true 0).Mem≤214748364800)∧0≤(bB s x label).Mem∧(bB s x label).Mem≤6871947673600:=by have h1:=xb h.sb x label true 0;have h2:=Da h x label;have hcl:=h.cl;unfold VB at h1 h2;omega
theorem Ga{N:Nat}{s:JF}(h:Inv N s)(label:Int):∀(d n:Nat)(Ld:Str)(mem:Int),3≤Ld.count 46+d→d≤n→d≤3→
  aV (n+1) s Ld label mem=some (pI d s Ld label mem):=by
 have hsc:=h.sc;have hq:=h.cf.qs;intro d
 induction d with
 | zero=>
  intro n Ld mem hc _ _;show bi _ s Ld label mem=_;unfold bi
  rw[mI h.cf.small,K8,Cm h (by omega)]
  rfl
 | succ d ih=>
  intro n Ld mem hc hn hd3
  obtain⟨n,rfl⟩:∃m,n=m+1:=⟨n - 1,by omega⟩
  have hkl:=lD h Ld;have hkf:=λx hx=>pB h (Ld:=Ld) (x:=x) hx;show bi (aV (n+1)) s Ld label mem=_;unfold bi pI;rw[mI h.cf.small,K8];generalize hK:LP s.Lf Ld=kids at hkl hkf
  cases hkn:kids with
  | nil=>rfl
  | cons k0 kr=>
   rw[← hkn]
   have hne:kids.length≠0:=by rw[hkn];simp
   have hz:((kids.length:Int) == 0)=false:=by rw[beq_eq_false_iff_ne];omega
   have hz2:kids.isEmpty=false:=by rw[hkn];rfl
   rw[hz,cond_false,hz2,if_neg (by simp)]
   have hw:∀k (hk:k<kids.length),Lx ((Ms s kids[k] label true 0).Mem+(bB s kids[k] label).Mem)=(Ms s kids[k] label true 0).Mem+(bB s kids[k] label).Mem:=λk hk=>by
    have:=qd h label kids[k]
    exact am (by omega) (by omega)
   have h1:=ay (Q:=λx=>x=((kids.map (M0 s label)).map (·.1),(kids.map (M0 s label)).map (·.2.1),(kids.map (M0 s label)).map (·.2.2))) (λ(t:List Int×List Int×List Int) i=>(t.1,t.2.1,t.2.2,i)) kids.length (λk t=>t=(((kids.take k).map (M0 s label)).map (·.1),((kids.take k).map (M0 s label)).map (·.2.1),((kids.take k).map (M0 s label)).map (·.2.2))) (step:=bA s label kids) (by omega) ?_ ?_ (s:=([],[],[])) (by simp)
   ·obtain⟨x,e,rfl⟩:=h1;rw[e,K8];dsimp only
    rw[EK mem (kids.map (M0 s label)) (by rw[Py];omega),K8]
    have hpl:=li s label mem kids;have hzl:=oJ s label mem kids
    have h2:=ay (Q:=λx=>x=(kids.zip (aT s label mem kids)).flatMap λx=>pI d s x.1 label x.2) (λ(t:List MC) i=>(t,i)) kids.length (λk t=>t=((kids.zip (aT s label mem kids)).take k).flatMap λx=>pI d s x.1 label x.2) (step:=be s label (aV (n+1)) kids (aT s label mem kids)) (by omega) ?_ ?_ (s:=[]) (by simp)
    ·obtain⟨x,e,rfl⟩:=h2;show((loop (be s label (aV (n+1)) kids (aT s label mem kids)) ([],0)).bind λout=>some out)=_;rw[e];rfl
    ·rintro k hk t rfl
     have hk2:k<(aT s label mem kids).length:=by omega
     have hkz:k<(kids.zip (aT s label mem kids)).length:=by omega
     obtain⟨f1,f2,f3⟩:=hkf kids[k] (NQ hk)
     have VF:16 ^ d≤16 ^ 3:=QdV (by omega) (by omega)
     have b1:=rH s label d kids[k] (aT s label mem kids)[k] (lD h _) (lD h);have b2:=lp (λx:Str×Int=>pI d s x.1 label x.2) (16 ^ d) ((kids.zip (aT s label mem kids)).take k) λx _=>rH s label d x.1 x.2 (lD h _) (lD h)
     have b3:((kids.zip (aT s label mem kids)).take k).length*16 ^ d≤16*16 ^ 3:=QeS (by rw[Oy];omega) VF
     refine bO (a:=.inl (((kids.zip (aT s label mem kids)).take (k+1)).flatMap (λx=>pI d s x.1 label x.2),Lx ((k:Int)+1))) ?_ (.inl ⟨_,rfl,rfl⟩);unfold be;dsimp only
     rw[ah hk,cond_true,aC hk,K8,K9 hk,K8,aC hk2,K8,K9 hk2,K8,ih n kids[k] _ (by omega) (by omega) (by omega),K8,aj (by omega) (by omega),K8,
      R3 hkz,List.flatMap_append,Xz]
     simp
    ·rintro t rfl
     refine bO (a:=.inr (((kids.zip (aT s label mem kids)).take kids.length).flatMap λx=>pI d s x.1 label x.2)) ?_ ⟨_,rfl,by rw[Wv (by omega)]⟩
     unfold be;dsimp only;rw[ar];rfl
   ·rintro k hk t rfl;obtain⟨f1,f2,f3⟩:=hkf kids[k] (NQ hk)
    have hlen:kids[k].length≤1000000:=by have:=f1.len;omega
    refine bO (a:=.inl (((kids.take (k+1)).map (M0 s label)).map (·.1),((kids.take (k+1)).map (M0 s label)).map (·.2.1),((kids.take (k+1)).map (M0 s label)).map (·.2.2),Lx ((k:Int)+1))) ?_ (.inl ⟨(_,_,_),rfl,rfl⟩);unfold bA;dsimp only;rw[ah hk,cond_true];simp only[aC hk,K8,K9 hk]
    rw[nt hsc hlen,K8,aj (by simp;omega) (by omega),K8,wW hsc hlen,K8,aj (by simp;omega) (by omega),K8,jH h.sb,K8,
     rR h,K8,aj (by simp;omega) (by omega),K8,hw k hk,R3 hk]
    simp only[UD,M9,Oi];rfl
   ·rintro t rfl
    refine bO (a:=.inr (((kids.take kids.length).map (M0 s label)).map (·.1),((kids.take kids.length).map (M0 s label)).map (·.2.1),((kids.take kids.length).map (M0 s label)).map (·.2.2))) ?_ ⟨_,rfl,by rw[Sq]⟩
    unfold bA;dsimp only;rw[ar];rfl
theorem Ad{a b n:Nat}(h1:a≤b)(h2:b≤n):OQ (a:Int) (b:Int) n=some (a,b - a):=by
 unfold OQ
 rw[if_pos ⟨by omega,by omega,by omega⟩]
 simp
theorem Kr(l:List Int)(k:Nat)(n:Nat)(hk:k<l.length)(hn:0<n)(v:Int):Rn l k n [v]=l.take k++[v]++l.drop (k+1):=by
 unfold Rn
 obtain⟨m,rfl⟩:∃m,n=m+1:=⟨n - 1,by omega⟩
 simp
theorem Eu{N:Nat}{s:JF}(h:Inv N s){label:Int}(hl0:0≤label)(hl1:label<s.Lf.Lp.length):∀(d n:Nat)(Ld:Str)(mem deep:Int),3≤Ld.count 46+d→d≤n→d≤3→deep+d=4→
  eK (n+1) s Ld label mem deep=some (pI d s Ld label mem):=by
 have hsc:=h.sc;have hq:=h.cf.qs;intro d
 induction d with
 | zero=>
  intro n Ld mem deep hc _ _ hdp;show lL _ s Ld label mem deep=_;unfold lL
  rw[Ah h.cf,K8,Cm h (by omega)]
  rfl
 | succ d ih=>
  intro n Ld mem deep hc hn hd3 hdp
  obtain⟨n,rfl⟩:∃m,n=m+1:=⟨n - 1,by omega⟩
  have hkl:=lD h Ld;have hkf:=λx hx=>pB h (Ld:=Ld) (x:=x) hx;show lL (eK (n+1)) s Ld label mem deep=_;unfold lL pI;rw[Ah h.cf,K8];generalize hK:LP s.Lf Ld=kids at hkl hkf
  cases hkn:kids with
  | nil=>rfl
  | cons k0 kr=>
   rw[← hkn]
   have hne:kids.length≠0:=by rw[hkn];simp
   have hz:((kids.length:Int) == 0)=false:=by rw[beq_eq_false_iff_ne];omega
   have hz2:kids.isEmpty=false:=by rw[hkn];rfl
   rw[hz,cond_false,decide_eq_false (by omega),K8,cond_false,hz2,if_neg (by simp)]
   have hw:∀k (hk:k<kids.length),Lx ((Ms s kids[k] label true 0).Mem+(bB s kids[k] label).Mem)=(Ms s kids[k] label true 0).Mem+(bB s kids[k] label).Mem:=λk hk=>by
    have:=qd h label kids[k]
    exact am (by omega) (by omega)
   have e0:V9 8 (kids.length:Int) (kids.length:Int) (0:Int)=some (List.replicate kids.length 0):=by
    unfold V9
    rw[if_pos ⟨by omega,by omega,by unfold maxLen;omega,by omega⟩]
    simp
   rw[e0,K8,K8,K8];have h1:=ay (Q:=λx=>x=(⟨(kids.map (M0 s label)).map (·.1),(kids.map (M0 s label)).map (·.2.1),(kids.map (M0 s label)).map (·.2.2)⟩:Nu)) (λ(t:Nu) i=>(t,i)) kids.length
    (λk t=>t=⟨((kids.take k).map (M0 s label)).map (·.1)++List.replicate (kids.length - k) 0,((kids.take k).map (M0 s label)).map (·.2.1)++List.replicate (kids.length - k) 0,((kids.take k).map (M0 s label)).map (·.2.2)++List.replicate (kids.length - k) 0⟩)
    (step:=lq s label kids) (by omega) ?_ ?_ (s:=⟨List.replicate kids.length 0,List.replicate kids.length 0,List.replicate kids.length 0⟩) (by simp)
   ·obtain⟨x,e,rfl⟩:=h1;rw[e,K8];dsimp only
    rw[FY mem (kids.map (M0 s label)) (by rw[Py];omega),K8]
    have hpl:=li s label mem kids;have hzl:=oJ s label mem kids
    have h2:=ay (Q:=λx=>x=(kids.zip (aT s label mem kids)).flatMap λx=>pI d s x.1 label x.2) (λ(t:List MC) i=>(t,i)) kids.length (λk t=>t=((kids.zip (aT s label mem kids)).take k).flatMap λx=>pI d s x.1 label x.2) (step:=jg s label deep (eK (n+1)) kids (aT s label mem kids)) (by omega) ?_ ?_ (s:=[]) (by simp)
    ·obtain⟨x,e,rfl⟩:=h2;show((loop (jg s label deep (eK (n+1)) kids (aT s label mem kids)) ([],0)).bind λout=>some out)=_;rw[e];rfl
    ·rintro k hk t rfl
     have hk2:k<(aT s label mem kids).length:=by omega
     have hkz:k<(kids.zip (aT s label mem kids)).length:=by omega
     obtain⟨f1,f2,f3⟩:=hkf kids[k] (NQ hk)
     have VF:16 ^ d≤16 ^ 3:=QdV (by omega) (by omega)
     have b1:=rH s label d kids[k] (aT s label mem kids)[k] (lD h _) (lD h);have b2:=lp (λx:Str×Int=>pI d s x.1 label x.2) (16 ^ d) ((kids.zip (aT s label mem kids)).take k) λx _=>rH s label d x.1 x.2 (lD h _) (lD h)
     have b3:((kids.zip (aT s label mem kids)).take k).length*16 ^ d≤16*16 ^ 3:=QeS (by rw[Oy];omega) VF
     refine bO (a:=.inl (((kids.zip (aT s label mem kids)).take (k+1)).flatMap (λx=>pI d s x.1 label x.2),Lx ((k:Int)+1))) ?_ (.inl ⟨_,rfl,rfl⟩);unfold jg;dsimp only
     have hd4:Lx (deep+1)=deep+1:=am (by omega) (by omega)
     rw[hpl,ah hk,cond_true,aC hk,K8,K9 hk2,K8,K8,K9 hk,K8,hd4,ih n kids[k] _ _ (by omega) (by omega) (by omega) (by omega),K8,aj (by omega) (by omega),K8,
      R3 hkz,List.flatMap_append,Xz]
     simp
    ·rintro t rfl
     refine bO (a:=.inr (((kids.zip (aT s label mem kids)).take kids.length).flatMap λx=>pI d s x.1 label x.2)) ?_ ⟨_,rfl,by rw[Wv (by omega)]⟩
     unfold jg;dsimp only;rw[hpl,ar];rfl
   ·rintro k hk t rfl;obtain⟨f1,f2,f3⟩:=hkf kids[k] (NQ hk)
    have hlen:kids[k].length≤1000000:=by have:=f1.len;omega
    have hr:List.replicate (kids.length - k) (0:Int)=0::List.replicate (kids.length - (k+1)) 0:=by
     rw[show kids.length - k=(kids.length - (k+1))+1 by omega,QgL]
    have row:∀(f:Int×Int×Int→Int)(v:Int),Rn (((kids.take k).map (M0 s label)).map f++List.replicate (kids.length - k) 0) k (kids.length - k) [v]=((kids.take k).map (M0 s label)).map f++[v]++List.replicate (kids.length - (k+1)) 0:=by
     intro f v
     have hl:(((kids.take k).map (M0 s label)).map f).length=k:=by simp;omega
     rw[Kr _ _ _ (by simp;omega) (by omega),QfV (by omega),Wv (by omega),List.drop_append,hl,List.drop_of_length_le (by omega),hr]
     simp
    have hlr:∀(f:Int×Int×Int→Int),(((kids.take k).map (M0 s label)).map f++List.replicate (kids.length - k) (0:Int)).length=kids.length:=by intro f;simp;omega
    refine bO (a:=.inl (⟨((kids.take (k+1)).map (M0 s label)).map (·.1)++List.replicate (kids.length - (k+1)) 0,((kids.take (k+1)).map (M0 s label)).map (·.2.1)++List.replicate (kids.length - (k+1)) 0,((kids.take (k+1)).map (M0 s label)).map (·.2.2)++List.replicate (kids.length - (k+1)) 0⟩,Lx ((k:Int)+1))) ?_ (.inl ⟨_,rfl,rfl⟩);unfold lq;dsimp only;rw[ah hk,cond_true,aC hk,K8,K9 hk,K8,yI hsc hlen hl0 hl1,K8,qn h hlen,K8,uQ h hlen,K8,G4 hsc hlen hl0 hl1,K8,hw k hk]
    simp only[hlr,Ad (show k≤kids.length by omega) (MN _),K8]
    have s0:∀a b c:Int,OQ 0 1 [a,b,c].length=some (0,1):=λ_ _ _=>rfl;have s1:∀a b c:Int,OQ 1 2 [a,b,c].length=some (1,1):=λ_ _ _=>rfl;have s2:∀a b c:Int,OQ 2 3 [a,b,c].length=some (2,1):=λ_ _ _=>rfl;have u0:∀a b c:Int,sub [a,b,c] 0 1 = [a]:=λ_ _ _=>rfl;have u1:∀a b c:Int,sub [a,b,c] 1 1 = [b]:=λ_ _ _=>rfl;have u2:∀a b c:Int,sub [a,b,c] 2 1 = [c]:=λ_ _ _=>rfl;simp only[s0,s1,s2,K8,u0,u1,u2,row];rw[R3 hk];simp only[UD,M9,Oi];rfl
   ·rintro t rfl
    refine bO (a:=.inr ⟨((kids.take kids.length).map (M0 s label)).map (·.1)++List.replicate (kids.length - kids.length) 0,((kids.take kids.length).map (M0 s label)).map (·.2.1)++List.replicate (kids.length - kids.length) 0,((kids.take kids.length).map (M0 s label)).map (·.2.2)++List.replicate (kids.length - kids.length) 0⟩) ?_ ⟨_,rfl,by simp⟩
    unfold lq;dsimp only;rw[ar];rfl
theorem pu:∀a:Str,Op.bytesLess a a=false
 | []=>rfl
 | x::a=>by
  unfold Op.bytesLess;rw[pu a]
  have:¬ x<x:=by rw[UInt8.lt_iff_toNat_lt];omega
  simp[this]
theorem u_:∀{a b c:Str},Op.bytesLess a b=true→Op.bytesLess b c=true→Op.bytesLess a c=true
 | _,[],_,h,_=>by simp[Op.bytesLess]at h
 | _,_::_,[],_,h=>by simp[Op.bytesLess]at h
 | [],y::b,z::c,_,_=>by simp[Op.bytesLess]
 | x::a,y::b,z::c,h1,h2=>by
  unfold Op.bytesLess at *;simp only[UC,decide_eq_true_eq,Np,beq_iff_eq]at *;simp only[UInt8.lt_iff_toNat_lt]at *;rcases h1 with h1 | ⟨rfl,h1⟩
  ·rcases h2 with h2 | ⟨rfl,h2⟩
   ·left;omega
   ·left;exact h1
  ·rcases h2 with h2 | ⟨rfl,h2⟩
   ·left;exact h2
   ·right;exact⟨rfl,u_ h1 h2⟩
theorem z8:∀{a b:Str},Op.bytesLess a b=false→a≠b→Op.bytesLess b a=true
 | [],[],_,h=>absurd rfl h
 | [],_::_,h,_=>by simp[Op.bytesLess]at h
 | _::_,[],_,_=>by simp[Op.bytesLess]
 | x::a,y::b,h,hn=>by
  unfold Op.bytesLess at *;simp only[YD,decide_eq_false_iff_not,QeY,beq_eq_false_iff_ne,UC,decide_eq_true_eq,Np,beq_iff_eq]at *;simp only[UInt8.lt_iff_toNat_lt]at *;by_cases hx:x=y
  ·subst hx;right
   refine⟨rfl,z8 ?_ (λe=>hn (by rw[e]))⟩
   rcases h.2 with h | h
   ·exact absurd rfl h
   ·exact h
  ·left;have:x.toNat≠y.toNat:=λe=>hx (UInt8.toNat_inj.1 e);omega
theorem C6{c:Lf}(h:Nj c):(c.Lg.map (·.LC)).Pairwise λx y=>Op.bytesLess x y=true:=by
 have hn:∀j (hj:j+1<c.Lg.length),Op.bytesLess c.Lg[j].LC c.Lg[j+1].LC=true:=by
  intro j hj
  have:=(h.q (j+1) hj).less c.Lg[j] (by omega) (by simp)
  unfold SG at this;rw[YD,beq_eq_false_iff_ne]at this;exact z8 this.1 this.2
 have key:∀j i (hij:i<j) (hj:j<c.Lg.length),Op.bytesLess (c.Lg[i]'(by omega)).LC c.Lg[j].LC=true:=by
  intro j
  induction j with
  | zero=>intro i hij;omega
  | succ j ih=>
   intro i hij hj;by_cases he:i=j
   ·subst he;exact hn i hj
   ·exact u_ (ih i (by omega) (by omega)) (hn j hj)
 rw[QfD];intro i j hi hj hij;rw[QeU,QeU]
 exact key j i hij (by simpa using hj)
def Ext(p x:Str):Prop:=x=p∨∃r,x=p++46::r
theorem Ext.trans{p q x:Str}(h:Ext p q)(k:Ext q x):Ext p x:=by
 rcases k with rfl | ⟨r,rfl⟩
 ·exact h
 ·rcases h with rfl | ⟨t,rfl⟩
  ·exact .inr ⟨r,rfl⟩
  ·exact .inr ⟨t++46::r,by simp⟩
theorem zS:∀(u a b:Str),Op.bytesLess (u++a) (u++b)=Op.bytesLess a b
 | [],_,_=>rfl
 | x::u,a,b=>by
  have e:Op.bytesLess (x::u++a) (x::u++b)=(decide (x<x)||(x == x&&Op.bytesLess (u++a) (u++b))):=rfl
  have:¬ x<x:=by rw[UInt8.lt_iff_toNat_lt];omega
  rw[e,decide_eq_false this,beq_self_eq_true,QhA,QhB];exact zS u a b
theorem Ff{α : Type}{p:α→Bool}:∀{l:List α},(∀x∈l,p x=true)→l.takeWhile p=l
 | [],_=>rfl
 | a::l,h=>by rw[List.takeWhile_cons,if_pos (h a (by simp)),Ff λx hx=>h x (by simp[hx])]
theorem FU:∀{n m:Str},(∀c∈m,c≠46∧46≤c.toNat)→Op.bytesLess n m=true→∀{n' m':Str},Ext n n'→Ext m m'→Op.bytesLess n' m'=true
 | _,[],_,h,_,_,_,_=>by simp[Op.bytesLess]at h
 | [],y::m,hm,_,n',m',hn',hm'=>by
  have hy:=hm y (by simp)
  have hy2:(46:UInt8)<y:=by rw[UInt8.lt_iff_toNat_lt];have:(46:UInt8).toNat≠y.toNat:=λe=>hy.1 (UInt8.toNat_inj.1 e).symm;have e:(46:UInt8).toNat=46:=rfl;omega
  rcases hn' with rfl | ⟨r,rfl⟩<;>rcases hm' with rfl | ⟨t,rfl⟩<;>simp[Op.bytesLess,hy2]
 | x::n,y::m,hm,h,n',m',hn',hm'=>by
  have hh:∃n2,n'=x::n2∧Ext n n2:=by
   rcases hn' with rfl | ⟨r,rfl⟩
   ·exact⟨n,rfl,.inl rfl⟩
   ·exact⟨n++46::r,rfl,.inr ⟨r,rfl⟩⟩
  have hk:∃m2,m'=y::m2∧Ext m m2:=by
   rcases hm' with rfl | ⟨r,rfl⟩
   ·exact⟨m,rfl,.inl rfl⟩
   ·exact⟨m++46::r,rfl,.inr ⟨r,rfl⟩⟩
  obtain⟨n2,rfl,en⟩:=hh;obtain⟨m2,rfl,em⟩:=hk;unfold Op.bytesLess at h ⊢;simp only[UC,decide_eq_true_eq,Np,beq_iff_eq]at h ⊢;rcases h with h | ⟨rfl,h⟩
  ·exact .inl h
  ·exact .inr ⟨rfl,FU (λc hc=>hm c (by simp[hc])) h en em⟩
theorem xl{c:Lf}{Ld x:Str}(hx:x∈LP c Ld):∃r,46∉r∧x=Ld++46::r:=by
 obtain⟨hp,q,hq,rfl,ha⟩:=dK hx;rcases uZ q.LC with⟨_,h⟩ | ⟨r,h1,h2⟩
 ·rw[ha]at h;exact absurd h hp
 ·rw[ha]at h2;exact⟨r,h1,h2⟩
theorem xF{c:Lf}(h:Nj c)(p:Str):(LP c p).Pairwise λx y=>Op.bytesLess x y=true:=by
 unfold LP;split
 ·exact List.Pairwise.nil
 ·exact(C6 h).sublist (Wh.map _)
theorem Hr{c:Lf}(h:Nj c){Ld a b a' b':Str}(ha:a∈LP c Ld)(hb:b∈LP c Ld)(hl:Op.bytesLess a b=true)(ea:Ext a a')(eb:Ext b b'):Op.bytesLess a' b'=true:=by
 obtain⟨r,hr,rfl⟩:=xl ha;obtain⟨t,ht,rfl⟩:=xl hb
 have hch:∀c∈t,c≠46∧46≤c.toNat:=by
  intro x hx;obtain⟨_,q,hq,e,_⟩:=dK hb
  have h1:=(jh h hq).ch x (by rw[e];simp[hx])
  have h2:=h.nd q hq x (by rw[e];simp[hx])
  refine⟨λe=>ht (by rw[← e];exact hx),?_⟩
  have:x.toNat≠45:=λe=>h2 (UInt8.toNat_inj.1 e);omega
 have cut:∀{r a':Str},Ext (Ld++46::r) a'→∃a2,a'=(Ld++[46])++a2∧Ext r a2:=by
  intro r a' e;rcases e with rfl | ⟨u,rfl⟩
  ·exact⟨r,by simp,.inl rfl⟩
  ·exact⟨r++46::u,by simp,.inr ⟨u,rfl⟩⟩
 obtain⟨a2,rfl,e1⟩:=cut ea;obtain⟨b2,rfl,e2⟩:=cut eb;rw[zS]
 have hl2:Op.bytesLess ((Ld++[46])++r) ((Ld++[46])++t)=true:=by simpa using hl
 rw[zS]at hl2;exact FU hch hl2 e1 e2
theorem zg{N:Nat}{s:JF}(h:Inv N s)(label:Int):∀(d:Nat)(Ld:Str)(mem:Int),∀x∈pI d s Ld label mem,Ext Ld x.LC
 | 0,Ld,mem,x,hx=>by
  have:x=⟨Ld,mem⟩:=by simpa[pI]using hx
  subst this;exact .inl rfl
 | d+1,Ld,mem,x,hx=>by
  unfold pI at hx;split at hx
  ·have:x=⟨Ld,mem⟩:=by simpa using hx
   subst this;exact .inl rfl
  ·obtain⟨y,hy,hxy⟩:=QfL.1 hx;have hk:y.1∈LP s.Lf Ld:=(List.of_mem_zip (a:=y.1) (b:=y.2) hy).1;obtain⟨r,_,e⟩:=xl hk;exact Ext.trans (.inr ⟨r,e⟩) (zg h label d y.1 y.2 x hxy)
theorem KA{α β : Type}{R:α→α→Prop}{l:List α}{m:List β}(h:l.Pairwise R):(l.zip m).Pairwise λa b=>R a.1 b.1:=by
 rw[QfD]at h ⊢;intro i j hi hj hij;rw[Xz,Xz]
 exact h i j (by rw[QeL]at hi;omega) (by rw[QeL]at hj;omega) hij
theorem xa{N:Nat}{s:JF}(h:Inv N s)(label:Int):∀(d:Nat)(Ld:Str)(mem:Int),(pI d s Ld label mem).Pairwise λx y=>Op.bytesLess x.LC y.LC=true
 | 0,Ld,mem=>by simp[pI]
 | d+1,Ld,mem=>by
  unfold pI;split
  ·simp
  ·rw[List.pairwise_flatMap];refine⟨λx _=>xa h label d x.1 x.2,?_⟩;have hz:=KA (m:=aT s label mem (LP s.Lf Ld)) (xF h.cf Ld);refine List.Pairwise.imp_of_mem ?_ hz;intro a b ha hb hab x hx y hy;exact Hr h.cf (List.of_mem_zip (a:=a.1) (b:=a.2) ha).1 (List.of_mem_zip (a:=b.1) (b:=b.2) hb).1 hab (zg h label d _ _ x hx) (zg h label d _ _ y hy)
theorem vj(s:JF)(label mem:Int)(kids:List Str):∀x∈kids.zip (aT s label mem kids),0≤x.2∧x.2≤LM (M0 s label x.1).2.1:=by
 intro x hx;obtain⟨k,hk,rfl⟩:=Ul hx
 have hk1:k<kids.length:=by rw[oJ]at hk;exact hk
 have hk2:k<(aT s label mem kids).length:=by rw[li];exact hk1
 rw[Xz]
 have:=HM mem (kids.map (M0 s label)) k (by rw[Py];exact hk1) hk2
 rw[QeU]at this;exact this
theorem vX:∀(l:List MC),(∀x∈l,0≤x.Mem)→0≤(l.map (·.Mem)).sum
 | [],_=>by simp
 | a::l,h=>by
  have h1:=h a (by simp)
  have h2:=vX l λx hx=>h x (by simp[hx])
  simp only[M9,R8];omega
theorem zq(f:Str×Int→List MC):∀(l:List (Str×Int)),(∀x∈l,((f x).map (·.Mem)).sum≤x.2)→((l.flatMap f).map (·.Mem)).sum≤(l.map (·.2)).sum
 | [],_=>by simp
 | a::l,h=>by
  have h1:=h a (by simp)
  have h2:=zq f l λx hx=>h x (by simp[hx])
  simp only[QfX,UD,List.sum_append,M9,R8];omega
theorem y8(s:JF)(label:Int):∀(d:Nat)(Ld:Str)(mem:Int),0≤mem→((pI d s Ld label mem).map (·.Mem)).sum≤mem∧∀x∈pI d s Ld label mem,0≤x.Mem
 | 0,Ld,mem,h0=>by simp[pI,h0]
 | d+1,Ld,mem,h0=>by
  unfold pI;split
  ·simp[h0]
  ·have hb:=vj s label mem (LP s.Lf Ld);constructor
   ·refine QgR (zq _ _ λx hx=>(y8 s label d x.1 x.2 (hb x hx).1).1) ?_;rw[xw (li s label mem _).symm];exact F0 h0 _
   ·intro x hx;obtain⟨y,hy,hxy⟩:=QfL.1 hx;exact(y8 s label d y.1 y.2 (hb y hy).1).2 x hxy
def cR(s:JF)(label:Int)(x:Str):Int:=(Ms s x label true 0).Mem+(bB s x label).Mem
theorem Ij(l:List MC)(hl:l.length≤4096)(hr:l.Pairwise λx y=>Op.bytesLess x.LC y.LC=true):loop (bf l) ([],0)=some l:=by
 have h:=ay (Q:=λx=>x=l) (λ(t:List MC) i=>(t,i)) l.length (λk t=>t=l.take k) (step:=bf l) (by omega) ?_ ?_ (s:=[]) (by simp)
 ·obtain⟨x,e,rfl⟩:=h;exact e
 ·rintro k hk t rfl
  have hlt:(l.take k).length=k:=by rw[Oy];omega
  have ht:(l.take k).takeWhile (λy=>Op.bytesLess y.LC l[k].LC)=l.take k:=by
   refine Ff λy hy=>?_;obtain⟨j,hj,rfl⟩:=Ul hy;rw[List.getElem_take]
   exact(QfD.1 hr) j k (by omega) hk (by omega)
  have ew:=jT (l.take k) (λy=>Op.bytesLess y.LC l[k].LC) (step:=bz l (l.take k,(k:Int))) (by omega) ?_ ?_
  ·rw[ht,hlt]at ew;refine bO (a:=.inl (l.take (k+1),Lx ((k:Int)+1))) ?_ (.inl ⟨_,rfl,rfl⟩);unfold bf;dsimp only;rw[ah hk,cond_true,ew,K8,hlt]
   have i0:OQ 0 (k:Int) k=some (0,k):=by have:=Ad (a:=0) (b:=k) (n:=k) (by omega) (MN _);simpa using this
   rw[i0,K8]
   have u0:sub (l.take k) 0 k=l.take k:=by unfold sub;rw[Z5,List.take_take,QfN]
   dsimp only
   rw[u0,aj (by simp;omega) (by omega),K8,aC hk,K8,K9 hk,K8,aj (by simp;omega) (by omega),K8,Ad (MN _) (MN _),K8]
   have u1:sub (l.take k) k (k - k) = []:=by simp[sub]
   dsimp only
   rw[u1,aj (by simp;omega) (by omega),K8,R3 hk]
   simp
  ·intro j hj;unfold bz;dsimp only;rw[ah hj,cond_true,aC hj,K8,K9 hj,K8,aC hk,K8,K9 hk,K8,K8]
   cases Op.bytesLess (l.take k)[j].LC l[k].LC<;>rfl
  ·unfold bz;dsimp only;rw[ar];rfl
 ·rintro t rfl
  refine bO (a:=.inr (l.take l.length)) ?_ ⟨_,rfl,by rw[Sq]⟩
  unfold bf;dsimp only;rw[ar];rfl
def MP(s:JF)(label:Int):List MC:=pI 3 s root label (b7 s label).Mem
theorem pv{N:Nat}{s:JF}(h:Inv N s)(label:Int):(MP s label).length≤4096:=rH s label 3 root _ (lD h _) (lD h)
theorem ym{N:Nat}{s:JF}(h:Inv N s)(label:Int):bY s label=some (MP s label):=by
 unfold bY j_;rw[o0 h.sb,K8]
 have e:aV 64 s ([114,111,111,116]:List UInt8) label (b7 s label).Mem=some (MP s label):=Ga h label 3 63 root _ (by decide) (by omega) (by omega)
 rw[e,K8,Ij _ (pv h label) (xa h label 3 root _)];rfl
theorem tG{N:Nat}{s:JF}(h:Inv N s){label:Int}(hl0:0≤label)(hl1:label<s.Lf.Lp.length):kW s label=some (MP s label):=by
 unfold kW q9;rw[sV h.sc,K8]
 have e:eK 64 s ([114,111,111,116]:List UInt8) label (b7 s label).Mem 1=some (MP s label):=Eu h hl0 hl1 3 63 root _ 1 (by decide) (by omega) (by omega) (by omega)
 rw[e];rfl
theorem nx{τ ρ σ : Type}(mk:σ→Int→τ)(step:τ→Option (τ ⊕ ρ))(n:Nat)(Inv:Nat→σ→Prop)(fin:σ→ρ)
  (h1:∀k,k<n→∀s,Inv k s→∃s',step (mk s (k:Int))=some (.inl (mk s' ((k+1:Nat):Int)))∧Inv (k+1) s')
  (h2:∀s,Inv n s→step (mk s (n:Int))=some (.inr (fin s))) {s:σ} (h0:Inv 0 s):∃s',loop step (mk s 0)=some (fin s')∧Inv n s':=by
 have key:∀(m k:Nat),m+k=n→∀s,Inv k s→∃s',loop step (mk s (k:Int))=some (fin s')∧Inv n s':=by
  intro m
  induction m with
  | zero=>
   intro k hk s hs
   have hk:k=n:=by omega
   subst hk
   exact⟨s,by rw[aX,h2 s hs],hs⟩
  | succ m ih=>
   intro k hk s hs
   obtain⟨s',e,hs'⟩:=h1 k (by omega) s hs
   rw[aX,e]
   exact ih (k+1) (by omega) s' hs'
 exact key n 0 rfl s h0
theorem mT{α : Type}{l:List α}{k:Nat}(h:k<l.length):idx l (k:Int)=some l[k]:=by
 unfold idx
 rw[if_pos (by omega),Tz,K9 h]
theorem KT{α : Type}{b:Nat}{l m:List α}(h:(l++m).length≤1000000)(hb:b≤100000):app b l m=some (l++m):=by unfold app;rw[if_pos];have:(l++m).length*b≤1000000*100000:=QeS h hb;unfold maxLen;omega
theorem Ix{ρ : Type}(step:Int→Option (Int ⊕ ρ))(n:Nat)(p:Nat→Bool)(bad:Nat→ρ)(good:ρ)(h1:∀k:Nat,k<n→step k=some (bif p k then .inl ((k+1:Nat):Int)else .inr (bad k)))(h2:step (n:Int)=some (.inr good)) :
  ((∀i,i<n→p i=true)∧loop step 0=some good)∨∃i,i<n∧p i=false∧loop step 0=some (bad i):=by
 have key:∀(m k:Nat),m+k=n→((∀i,k≤i→i<n→p i=true)∧loop step (k:Int)=some good)∨∃i,i<n∧p i=false∧loop step (k:Int)=some (bad i):=by
  intro m
  induction m with
  | zero=>
   intro k hk
   have hk:k=n:=by omega
   subst hk
   exact .inl ⟨λi h1 h2=>by omega,by rw[aX,h2]⟩
  | succ m ih=>
   intro k hk
   have hk':k<n:=by omega
   cases hp:p k with
   | true=>
    rw[aX,h1 k hk',hp];simp only[cond_true]
    rcases ih (k+1) (by omega)with⟨a,b⟩ | h
    ·refine .inl ⟨λi h1 h2=>?_,b⟩;by_cases e:i=k
     ·subst e;exact hp
     ·exact a i (by omega) h2
    ·exact .inr h
   | false=>refine .inr ⟨k,hk',hp,?_⟩;rw[aX,h1 k hk',hp];rfl
 rcases key n 0 rfl with⟨a,b⟩ | h
 ·exact .inl ⟨λi hi=>a i (by omega) hi,b⟩
 ·exact .inr h
theorem kX{α : Type}{b:Nat}{l:List α}(h:l.length≤1000000)(hb:b≤100000):app b [] l=some l:=by
 have:=KT (b:=b) (l:=[]) (m:=l) (by simpa using h) hb
 simpa using this
theorem K5{α : Type}{b:Nat}{n:Nat}{z:α}(h:n≤1000000)(hb:b≤100000):V9 b (n:Int) (n:Int) z=some (List.replicate n z):=by
 unfold V9;rw[if_pos]
 ·simp
 ·have:b*n≤100000*1000000:=QeS hb h
  refine⟨by omega,by omega,?_,?_⟩<;>simp only[Tz]<;>unfold maxLen at * <;> omega
theorem IX{α : Type}{l m:List α}(h:l.length=m.length):Rn l 0 l.length m=m:=by unfold Rn;rw[h,Sq,QfN,← h];simp
structure WR(a:LD):Prop where
 asks:a.Mr.length≤1000000
 grants:a.Mv.length≤1000000
 kills:a.Nr.length≤1000000
 told:a.Told.length≤1000000
 lost:a.N7.length≤1000000
structure Small(s:JF):Prop where
 labels:s.Lf.Lp.length≤1000
 queues:s.Lf.Lg.length≤1000
 caps:∀q∈s.Lf.Lg,q.MR.length≤1000
 nodes:s.Ls.length≤1000
 apps:s.Lr.length≤1000
 app:∀a∈s.Lr,WR a
 V4:s.Lc.length≤1000
 slots:s.LG.length≤1000
 plans:s.LU.length≤1000
theorem ul{l:List Int}(h:l.length≤1000000):ms l=some l:=by
 unfold ms
 rw[K5 (by omega) (by omega)]
 simp only[K8]
 rw[IX (by simp)]
theorem tc{a:LD}(h:WR a):qg a=some a:=by
 unfold qg u6
 rw[kX (by have:=h.asks;omega) (by omega),ul h.grants,ul h.kills,ul h.told,ul h.lost]
 rfl
theorem Inv.small{N:Nat}{s:JF}(h:Inv N s)(hN:N≤1000000):Small s:=by
 have c:=h.cf;have h1:=c.lab;have h2:=c.qs;have h3:=h.nl;have h4:=h.al;have h5:=h.cl;have h6:=h.sl;have h7:=h.pl
 refine⟨by omega,by omega,?_,by omega,by omega,?_,by omega,by omega,by omega⟩
 ·intro q hq;obtain⟨i,hi,rfl⟩:=Ul hq;have:=(c.q i hi).caps;omega
 ·intro a ha;have:=h.ak a ha;have k1:=this.al;have k2:=this.gr;have k3:=this.ki;have k4:=this.to;have k5:=this.lo
  exact⟨by omega,by omega,by omega,by omega,by omega⟩
theorem xP{s:JF}(hn:s.Lr.length≤1000)(i:Int):(∃k,∃(hk:k<s.Lr.length),MV s i=some s.Lr[k]∧o5 s i=some (k:Int))∨(MV s i=none∧o5 s i=some (-1)):=by
 unfold o5 MV vd
 have e:=sf (λi=>i) s.Lr (λx=>x.Id == i) (λk=>(.inl k:Int ⊕ Unit)) (.inr ()) (step:=mV s.Lr (λa'=>ph a'.1 i)) (by omega) ?_ ?_ ?_
 ·rcases e with⟨k,hk,e1,e2⟩ | ⟨e1,e2⟩
  ·exact .inl ⟨k,hk,e1,by rw[e2];rfl⟩
  ·exact .inr ⟨e1,by rw[e2];rfl⟩
 ·intro k hk hp;unfold mV ph;rw[ah hk,ai hk];simp only[cond_true,K8,hp,cond_false]
 ·intro k hk hp;unfold mV ph;rw[ah hk,ai hk];simp only[cond_true,K8,hp]
 ·unfold mV;rw[ar];rfl
theorem uV{s:JF}(h:Small s)(i:Int):pz s i=some ((MV s i).elim (Yi,false) λx=>(x,true)):=by
 unfold pz;rcases xP h.apps i with⟨k,hk,e1,e2⟩ | ⟨e1,e2⟩
 ·rw[e2,e1];simp only[K8,Option.elim_some]
  rw[decide_eq_false (by omega),cond_false,ai hk,K8,tc (h.app _ (NQ hk))]
  rfl
 ·rw[e2,e1];rfl
section
variable{α κ : Type}[DecidableEq κ][BEq κ][LawfulBEq κ]{key:α→κ}
theorem nP{q q':κ}:∀{l:List α}{y z:α},key y=q'→OE (λx=>q == key x) (NP (λx=>q' == key x) l y) z=if q=q' then y else OE (λx=>q == key x) l z
 | [],y,z,hy=>by
  unfold OE NP;subst hy;by_cases h:q=key y
  ·rw[if_pos h];simp[h]
  ·rw[if_neg h]
   have:(q == key y)=false:=by rw[beq_eq_false_iff_ne];exact h
   simp[List.find?,this]
 | x::l,y,z,hy=>by
  have ih:=nP (q:=q) (l:=l) (y:=y) (z:=z) hy;subst hy;unfold NP
  cases hx:key y == key x with
  | true=>
   rw[cond_true]
   have hxy:key y=key x:=by simpa using hx
   unfold OE;by_cases h:q=key y
   ·rw[if_pos h];simp[h]
   ·rw[if_neg h]
    have h1:(q == key y)=false:=by rw[beq_eq_false_iff_ne];exact h
    have h2:(q == key x)=false:=by rw[beq_eq_false_iff_ne,← hxy];exact h
    simp[List.find?,h1,h2]
  | false=>
   rw[cond_false];unfold OE at ih ⊢
   cases hq:q == key x with
   | true=>
    have hqx:q=key x:=by simpa using hq
    have hne:q≠key y:=λe=>by rw[beq_eq_false_iff_ne]at hx;exact hx (e▸hqx)
    rw[if_neg hne];simp[List.find?,hq]
   | false=>simp only[List.find?,hq];exact ih
end
section
variable{α κ : Type}[BEq κ][LawfulBEq κ]{key:α→κ}
theorem yi{q q':κ}:∀{l:List α}{y:α},key y=q'→P7 (λx=>q == key x) (NP (λx=>q' == key x) l y)=(q == q'||P7 (λx=>q == key x) l)
 | [],y,hy=>by subst hy;simp[P7,NP]
 | x::l,y,hy=>by
  have ih:=yi (l:=l) (y:=y) (q:=q) hy;subst hy;unfold NP
  cases hx:key y == key x with
  | true=>
   rw[cond_true]
   have hxy:key y=key x:=by simpa using hx
   simp[P7,hxy]
  | false=>
   rw[cond_false];unfold P7 at ih ⊢;simp only[List.any_cons,ih]
   cases q == key x<;>cases q == key y<;>simp
end
section
variable{α : Type}
theorem zA{p:α→Bool}:∀{l:List α}{y x:α},x∈NP p l y→x=y∨x∈l
 | [],y,x,h=>by simpa[NP]using h
 | a::l,y,x,h=>by
  unfold NP at h
  cases hp:p a with
  | true=>
   rw[hp,cond_true]at h;rcases Nz.1 h with h | h
   ·exact .inl h
   ·exact .inr (Uh _ h)
  | false=>
   rw[hp,cond_false]at h;rcases Nz.1 h with h | h
   ·exact .inr (by simp[h])
   ·rcases zA h with h | h
    ·exact .inl h
    ·exact .inr (Uh _ h)
theorem HS{p:α→Bool}{l:List α}(h:P7 p l=true)(z:α):OE p l z∈l∧p (OE p l z)=true:=by
 unfold P7 at h;rw[List.any_eq_true]at h;obtain⟨x,hx,hp⟩:=h;unfold OE
 cases hf:l.find? p with
 | none=>exact absurd hp (by simpa using ZR.1 hf x hx)
 | some y=>exact⟨QdS hf,QfS hf⟩
end
theorem su:∀{l1 l2:List Nat},l1.Nodup→(∀x∈l1,x∈l2)→l1.length≤l2.length
 | [],_,_,_=>Yx _
 | a::l,l2,hn,hs=>by
  have hn':=Ug.1 hn
  have h:=su (l2:=l2.erase a) hn'.2 (λx hx=>by
   have hxa:x≠a:=λe=>hn'.1 (e▸hx)
   exact(QgF hxa).2 (hs x (by simp[hx])))
  have ha:=hs a (by simp)
  rw[QfI ha]at h;have:=Qe_ ha;simp only[PN];omega
theorem Gx{n m:Nat}{seen:List Nat}(hn:seen.Nodup)(hl:∀x∈seen,x<n)(h:m+1+seen.length=n):∃k,k<n∧k∉seen:=by
 refine Classical.byContradiction λhc=>?_
 have hall:∀k∈List.range n,k∈seen:=by intro k hk;refine Classical.byContradiction λhk'=>hc ⟨k,QgV.1 hk,hk'⟩
 have:=su QhD hall;simp at this;omega
theorem z4{τ α ω : Type}(ob:ω){step:ω→τ→α→Option τ}{l:List α}:∀{m:Nat}{seen:List Nat}{t r r':τ},seen.Nodup→(∀x∈seen,x<l.length)→m+seen.length=l.length→Sj step l m seen t r→Sj step l m seen t r'→r'=r
 | 0,seen,t,r,r',_,_,_,h,h'=>by have h1:t=r:=h;have h2:t=r':=h';rw[← h1,← h2]
 | m+1,seen,t,r,r',hn,hl,hc,h,h'=>by
  obtain⟨k,hk,hks⟩:=Gx hn hl hc;obtain⟨t1,a1,b1⟩:=h k l[k] hks (K9 hk);obtain⟨t2,a2,b2⟩:=h' k l[k] hks (K9 hk)
  have:t1=t2:=by have:=a1 ob;rw[a2 ob]at this;exact(Option.some.inj this).symm
  subst this;refine z4 ob ?_ ?_ ?_ b1 b2
  ·rw[Yo]
   exact⟨hn,by simp,λx hx y hy=>by rw[Lb]at hy;subst hy;exactλe=>hks (e▸hx)⟩
  ·intro x hx;rcases OB.1 hx with hx | hx
   ·exact hl x hx
   ·rw[Lb]at hx;subst hx;exact hk
  ·simp;omega
theorem Ht{τ α ω : Type}(ob:ω){t0:ω→Option τ}{step:ω→τ→α→Option τ}{l:List α}(I:List Nat→τ→Prop){t r:τ}(h0:∀ob,t0 ob=some t)(hI:I [] t)
  (hstep:∀seen t k (hk:k<l.length),I seen t→k∉seen→∃t',(∀ob,step ob t l[k]=some t')∧I (seen++[k]) t') (hend:∀seen t,I seen t→(∀k,k<l.length→k∈seen)→t=r):rng t0 step l=some r:=by
 have key:∀(m:Nat)(seen:List Nat)(t:τ),seen.Nodup→(∀x∈seen,x<l.length)→m+seen.length=l.length→I seen t→Sj step l m seen t r:=by
  intro m
  induction m with
  | zero=>
   intro seen t hn hl hc hi;refine hend seen t hi λk hk=>?_;refine Classical.byContradiction λhks=>?_;have h1:(k::seen).Nodup:=Ug.2 ⟨hks,hn⟩
   have h2:=su (l2:=List.range l.length) h1 (λx hx=>by
    rw[QgV];rcases Nz.1 hx with rfl | hx
    ·exact hk
    ·exact hl x hx)
   simp at h2;omega
  | succ m ih=>
   intro seen t hn hl hc hi k x hks hx;have hk:k<l.length:=(K_.1 hx).1;have hxe:l[k]=x:=(K_.1 hx).2;obtain⟨t',a,b⟩:=hstep seen t k hk hi hks;rw[hxe]at a;refine⟨t',a,ih _ _ ?_ ?_ ?_ b⟩
   ·rw[Yo]
    exact⟨hn,by simp,λa ha b hb=>by rw[Lb]at hb;subst hb;exactλe=>hks (e▸ha)⟩
   ·intro x hx;rcases OB.1 hx with hx | hx
    ·exact hl x hx
    ·rw[Lb]at hx;subst hx;exact hk
   ·simp;omega
 have h:=key l.length [] t Z6 (by simp) (by simp) hI
 have hx:∃r t,(∀ob,t0 ob=some t)∧Sj step l l.length [] t r:=⟨r,t,h0,h⟩;unfold rng;rw[dif_pos hx];obtain⟨t',h1,h2⟩:=hx.choose_spec
 have:t'=t:=by have:=h1 ob;rw[h0 ob]at this;exact(Option.some.inj this).symm
 subst this
 rw[z4 ob Z6 (by simp) (by simp) h h2]
theorem IG(x y:Int):ll x y=some (if x<y then -1 else if y<x then 1 else 0):=by
 unfold ll mJ;simp only[K8,bne_self_eq_false,cond_false];by_cases h:x<y
 ·rw[decide_eq_true h,if_pos h];rfl
 ·rw[decide_eq_false h,if_neg h,cond_false];by_cases h2:y<x
  ·rw[if_pos h2,decide_eq_true (show x>y from h2)];rfl
  ·rw[if_neg h2,decide_eq_false (show¬ x>y from h2)];rfl
theorem HT(x y:Str):jz x y=some (if Op.bytesLess x y=true then -1 else if x=y then 0 else 1):=by
 unfold jz kE;simp only[K8,beq_self_eq_true,PZ,cond_false]
 cases h:Op.bytesLess x y with
 | true=>rfl
 | false=>
  simp only[cond_false,RZ,if_false];unfold SG;rw[h,QhA];by_cases e:x=y
  ·rw[if_pos e];subst e;simp
  ·rw[if_neg e]
   have:(x == y)=false:=by rw[beq_eq_false_iff_ne];exact e
   rw[this];rfl
theorem H6(x y:Int):pc [x,y]=some (if x≠0 then x else y):=by
 unfold pc
 have e0:i9 [x,y] 0=some (bif x != 0 then .inr (.inl x)else .inl 1):=by
  unfold i9
  rw[show idx [x,y] 0=some x from rfl]
  simp only[K8]
  cases x != 0<;>rfl
 have e1:i9 [x,y] 1=some (bif y != 0 then .inr (.inl y)else .inl 2):=by
  unfold i9
  rw[show idx [x,y] 1=some y from rfl]
  simp only[K8]
  cases y != 0<;>rfl
 have e2:i9 [x,y] 2=some (.inr (.inr ())):=rfl;rw[aX,e0];by_cases hx:x=0
 ·subst hx;simp only[bne_self_eq_false,cond_false];rw[aX,e1];by_cases hy:y=0
  ·subst hy;simp only[bne_self_eq_false,cond_false];rw[aX,e2];rfl
  ·have:(y != 0)=true:=by simp[hy]
   rw[this];simp
 ·have:(x != 0)=true:=by simp[hx]
  rw[this];simp[hx]
def oval(k:L8)(p:Str):Int:=(OE (λx:LH=>p == x.k) k.over ⟨p,0⟩).v
def nval(k:L8)(i:Int):Int:=(OE (λx:Nl=>i == x.k) k.Ng ⟨i,0⟩).v
def Uq(k:L8)(i:Int):Bool:=P7 (λx:Md=>i == x.k) k.leaf
def lval(k:L8)(i:Int):Str:=(OE (λx:Md=>i == x.k) k.leaf ⟨i,[]⟩).v
theorem FB(k:L8)(c:Lv):cu k c=some ⟨k.s,k.label,NP (λx:LH=>lval k c.Id == x.k) k.over ⟨lval k c.Id,Lx (oval k (lval k c.Id) - c.LV.Mem)⟩,k.leaf,NP (λx:Nl=>c.Id == x.k) k.Ng ⟨c.Id,Lx (nval k c.Id+1)⟩,Lx (k.gone+c.LV.Mem)⟩:=rfl
def Yw(k:L8)(a b:Str):Prop:=oval k b<oval k a∨(oval k b=oval k a∧Op.bytesLess a b=true)
theorem Fg{k:L8}{a b c:Str}(h:Yw k a b)(h':Yw k b c):Yw k a c:=by
 rcases h with h | ⟨h,l⟩<;>rcases h' with h' | ⟨h',l'⟩
 ·exact .inl (by omega)
 ·exact .inl (by omega)
 ·exact .inl (by omega)
 ·exact .inr ⟨by omega,u_ l l'⟩
theorem K0{k:L8}{a b:Str}(h:¬ Yw k a b)(h':¬ Yw k b a):a=b:=by
 unfold Yw at h h';refine Classical.byContradiction λhne=>?_;rw[not_or]at h h'
 have he:oval k a=oval k b:=by omega
 have h1:Op.bytesLess a b≠true:=λe=>h.2 ⟨he.symm,e⟩;have h2:Op.bytesLess b a≠true:=λe=>h'.2 ⟨he,e⟩
 exact h2 (z8 (by simpa using h1) hne)
theorem Aq(k:L8)(ob:Obj)(t:Str)(e:L6)(ht:t≠[]):∃b:Bool,(b=true↔Yw k e.k t)∧bM k ob t e=some (bif b then e.k else t):=by
 have h0:(t == ([]:List UInt8))=false:=by rw[beq_eq_false_iff_ne];exact ht
 refine⟨decide ((if(if oval k t<oval k e.k then(-1:Int)else if oval k e.k<oval k t then 1 else 0)≠0 then(if oval k t<oval k e.k then(-1:Int)else if oval k e.k<oval k t then 1 else 0)else(if Op.bytesLess e.k t=true then(-1:Int)else if e.k=t then 0 else 1))<0),?_,?_⟩
 ·rw[decide_eq_true_eq];unfold Yw;by_cases h1:oval k t<oval k e.k
  ·simp[h1]
  ·by_cases h2:oval k e.k<oval k t
   ·simp[h1,h2];omega
   ·have he:oval k t=oval k e.k:=by omega
    simp only[h1,h2,if_false,ne_eq,not_true_eq_false,he,false_or,true_and]
    cases hb:Op.bytesLess e.k t with
    | true=>simp
    | false=>
     simp only[RZ,if_false,iff_false]
     by_cases hq:e.k=t<;>simp[hq]
 ·unfold bM;rw[h0,cond_false];dsimp only;have e1:(OE (λx6:LH=>t == x6.k) k.over (⟨t,0⟩:LH)).v=oval k t:=rfl;have e2:(OE (λx7:LH=>e.k == x7.k) k.over (⟨e.k,0⟩:LH)).v=oval k e.k:=rfl;rw[e1,e2,IG,K8,HT,K8,H6,K8,K8];generalize decide (_<(0:Int))=q
  cases q<;>rfl
theorem Ey(k:L8)(ob:Obj)(e:L6):bM k ob [] e=some e.k:=rfl
def Bst(k:L8)(b:List L6)(seen:List Nat)(t:Str):Prop:=
 (seen = []∧t = [])∨(t≠[]∧(∃j,j∈seen∧∃hj:j<b.length,b[j].k=t)∧∀j,j∈seen→∀hj:j<b.length,¬ Yw k b[j].k t)
theorem Bd{k:L8}{b:List L6}(hb:∀e∈b,e.k≠[])(seen:List Nat)(t:Str)(j:Nat)(hj:j<b.length)(h:Bst k b seen t):∃t',(∀ob,bM k ob t b[j]=some t')∧Bst k b (seen++[j]) t':=by
 have irr:∀p,¬ Yw k p p:=by
  intro p hp;rcases hp with hp | ⟨_,hp⟩
  ·omega
  ·rw[pu]at hp;cases hp
 rcases h with⟨rfl,rfl⟩ | ⟨h1,h2,h3⟩
 ·refine⟨b[j].k,λob=>Ey k ob _,.inr ⟨hb _ (NQ hj),⟨j,by simp,hj,rfl⟩,?_⟩⟩
  intro i hi hi';simp only[PE,Lb]at hi;subst hi;exact irr _
 ·obtain⟨q,hq,_⟩:=Aq k (.deferred none) t b[j] h1
  have hstep:∀ob,bM k ob t b[j]=some (bif q then b[j].k else t):=by
   intro ob;obtain⟨q',hq',e⟩:=Aq k ob t b[j] h1
   have:q'=q:=by
    cases q<;>cases q'<;>simp_all
   rw[e,this]
  refine⟨_,hstep,?_⟩
  cases hqq:q with
  | true=>
   have aph:=hq.1 hqq
   refine .inr ⟨hb _ (NQ hj),⟨j,by simp,hj,rfl⟩,?_⟩
   intro i hi hi' hbi;rcases OB.1 hi with hi | hi
   ·exact h3 i hi hi' (Fg hbi aph)
   ·rw[Lb]at hi;subst hi;exact irr _ hbi
  | false=>
   have hnb:¬ Yw k b[j].k t:=λhx=>by rw[hq.2 hx]at hqq;cases hqq
   obtain⟨i,hi,hi',e⟩:=h2
   refine .inr ⟨h1,⟨i,by simp[hi],hi',e⟩,?_⟩
   intro i hi hi';rcases OB.1 hi with hi | hi
   ·exact h3 i hi hi'
   ·rw[Lb]at hi;subst hi;exact hnb
theorem Gz{k:L8}{b:List L6}(hb:∀e∈b,e.k≠[]):Gv (rng (ω:=Obj) (λ_=>some ([]:List UInt8)) (bM k) b) λr=>Bst k b (List.range b.length) r:=by
 have pre:∀n,n≤b.length→∃t,Bst k b (List.range n) t:=by
  intro n
  induction n with
  | zero=>intro _;exact⟨[],.inl ⟨rfl,rfl⟩⟩
  | succ n ih=>
   intro hn
   obtain⟨t,ht⟩:=ih (by omega)
   obtain⟨t',_,ht'⟩:=Bd hb _ t n (by omega) ht
   exact⟨t',by rw[List.range_succ];exact ht'⟩
 obtain⟨r,hr⟩:=pre b.length (MN _);refine⟨r,Ht (.deferred none) (Bst k b) (t:=[]) (λ_=>rfl) (.inl ⟨rfl,rfl⟩) (λseen t j hj hi _=>Bd hb seen t j hj hi) ?_,hr⟩;intro seen t hi hall;rcases hi with⟨rfl,rfl⟩ | ⟨h1,⟨j,hj,hj',rfl⟩,h3⟩
 ·have:b.length=0:=by
   refine Classical.byContradiction λhne=>?_
   have:=hall 0 (by omega)
   simp at this
  rcases hr with⟨_,hr⟩ | ⟨_,⟨j,_,hj,_⟩,_⟩
  ·exact hr.symm
  ·omega
 ·rcases hr with⟨hr,_⟩ | ⟨_,⟨i,hi,hi',rfl⟩,k3⟩
  ·have:=congrArg List.length hr;rw[List.length_range,WV]at this;omega
  ·exact K0 (k3 j (QgV.2 hj') hj') (h3 i (hall i hi') hi')
def BOK(k:L8)(b:List L6):Prop:=∀e∈b,e.v∈k.s.Lc∧Uq k e.v.Id=true∧lval k e.v.Id=e.k∧nval k e.v.Id≤0∧0<oval k e.k
theorem I3{k:L8}(hc:k.s.Lc.length≤200)(hne:∀i,Uq k i=true→lval k i≠[]) :
  Gv (jD k) λr=>r.2.2=k∧(r.2.1=true→r.1∈k.s.Lc∧Uq k r.1.Id=true∧nval k r.1.Id≤0∧0<oval k (lval k r.1.Id)):=by
 unfold jD
 refine ad (ay (Q:=BOK k) (λ(b:List L6) i=>(b,i)) k.s.Lc.length (λ_ b=>BOK k b) (step:=fG k) (by omega) ?_ ?_ (s:=[]) (λe he=>by cases he)) ?_
 ·intro i hi b hb;unfold fG;dsimp only;rw[ah hi,cond_true,ai hi,K8];refine ad (P:=BOK k) ?_ (λb' hb'=>aa (.inl ⟨b',rfl,hb'⟩));have hm:k.s.Lc[i]∈k.s.Lc:=NQ hi;generalize k.s.Lc[i]=c at hm
  show Gv ((bif !(Uq k c.Id)then some true else bif decide (nval k c.Id>0)then some true else some (decide (oval k (lval k c.Id)≤0))).bind λq=>bif q then some b else _) (BOK k)
  have akw:(bif !(Uq k c.Id)then some true else bif decide (nval k c.Id>0)then some true else some (decide (oval k (lval k c.Id)≤0)))=some (!(Uq k c.Id)||(decide (nval k c.Id>0)||decide (oval k (lval k c.Id)≤0))):=by
   cases Uq k c.Id<;>cases decide (nval k c.Id>0)<;>rfl
  rw[akw,K8];refine ae (λ_=>aa hb) (λhq=>?_);simp only[YD,QdU,decide_eq_false_iff_not]at hq;obtain⟨q1,q2,q3⟩:=hq;refine Km ?_ (λq=>?_)
  ·repeat (first | exact aa trivial | (refine ae (λ_=>?_) (λ_=>?_)))
  ·refine ae (λ_=>aa ?_) (λ_=>aa hb);intro e he;rcases zA he with rfl | he
   ·have z1:nval k c.Id≤0:=by omega
    have z2:0<oval k (lval k c.Id):=by omega
    exact⟨hm,q1,rfl,z1,z2⟩
   ·exact hb e he
 ·intro b hb;unfold fG;dsimp only;rw[ar,cond_false];exact aa ⟨b,rfl,hb⟩
 ·intro b hb;refine ad (Gz (λe he=>?_)) ?_
  ·obtain⟨_,h2,h3,_⟩:=hb e he;rw[← h3];exact hne _ h2
  ·intro f _;refine aa ⟨rfl,λhis=>?_⟩;obtain⟨h1,h2⟩:=HS (α:=L6) (p:=λPK=>f == PK.k) his (⟨f,⟨0,0,0,⟨0,0⟩,0,0,false,0⟩⟩:L6);obtain⟨k1,k2,k3,k4,k5⟩:=hb _ h1
   exact⟨k1,k2,k4,by rw[k3];exact k5⟩
structure LK(s:JF)(label:Int)(n:Nat)(k:L8):Prop where
 st:k.s=s
 lab:k.label=label
 leaf:∀id,Uq k id=true→∃c∈s.Lc,c.Id=id∧c.Ll=label∧∃a∈s.Lr,a.Id=c.LD∧lval k id=a.Lm
 ov:∀p,0<oval k p→∃x∈MP s label,x.LC=p∧x.Mem<(Ms s p label true 0).Mem
 nb:∀id,0≤nval k id∧nval k id≤n
 ob:∀p,-(4503599627370496+n*1073741824)≤oval k p∧oval k p≤4503599627370496
 gb:0≤k.gone∧k.gone≤n*1073741824
theorem LK.mono{s:JF}{label:Int}{n m:Nat}{k:L8}(h:LK s label n k)(hm:n≤m):LK s label m k:=by
 refine⟨h.st,h.lab,h.leaf,h.ov,λid=>?_,λp=>?_,?_⟩
 ·have:=h.nb id;omega
 ·have:=h.ob p;omega
 ·have:=h.gb;omega
theorem LK.notice{s:JF}{label:Int}{n:Nat}{k:L8}(h:LK s label n k)(hn:n≤100000){c:Lv}(hc:RB c.LV) :
  ∃k',cu k c=some k'∧LK s label (n+1) k'∧(∀id,nval k' id=if id=c.Id then nval k id+1 else nval k id)∧(∀p,oval k' p≤oval k p):=by
 refine⟨_,FB k c,?_⟩;have hsz:1≤c.LV.Mem∧c.LV.Mem≤1073741824:=hc.1
 have hnv:∀id,nval (⟨k.s,k.label,NP (λx:LH=>lval k c.Id == x.k) k.over ⟨lval k c.Id,Lx (oval k (lval k c.Id) - c.LV.Mem)⟩,k.leaf,NP (λx:Nl=>c.Id == x.k) k.Ng ⟨c.Id,Lx (nval k c.Id+1)⟩,Lx (k.gone+c.LV.Mem)⟩:L8) id=if id=c.Id then nval k id+1 else nval k id:=by
  intro id;unfold nval;dsimp only;rw[nP (key:=λx:Nl=>x.k) (q':=c.Id) rfl];have:=h.nb c.Id;unfold nval at this;by_cases e:id=c.Id
  ·subst e;rw[if_pos rfl,if_pos rfl];dsimp only
   rw[am (by omega) (by omega)]
  ·rw[if_neg e,if_neg e]
 have hov:∀p,oval (⟨k.s,k.label,NP (λx:LH=>lval k c.Id == x.k) k.over ⟨lval k c.Id,Lx (oval k (lval k c.Id) - c.LV.Mem)⟩,k.leaf,NP (λx:Nl=>c.Id == x.k) k.Ng ⟨c.Id,Lx (nval k c.Id+1)⟩,Lx (k.gone+c.LV.Mem)⟩:L8) p=if p=lval k c.Id then oval k p - c.LV.Mem else oval k p:=by
  intro p;have hb:=h.ob (lval k c.Id)
  have e0:Lx (oval k (lval k c.Id) - c.LV.Mem)=oval k (lval k c.Id) - c.LV.Mem:=am (by omega) (by omega)
  rw[e0]
  have hrw:∀v:Int,oval (⟨k.s,k.label,NP (λx:LH=>lval k c.Id == x.k) k.over ⟨lval k c.Id,v⟩,k.leaf,NP (λx:Nl=>c.Id == x.k) k.Ng ⟨c.Id,Lx (nval k c.Id+1)⟩,Lx (k.gone+c.LV.Mem)⟩:L8) p=if p=lval k c.Id then v else oval k p:=by
   intro v;unfold oval;dsimp only;rw[nP (key:=λx:LH=>x.k) (q':=lval k c.Id) rfl];by_cases e:p=lval k c.Id
   ·rw[if_pos e,if_pos e]
   ·rw[if_neg e,if_neg e]
  rw[hrw];by_cases e:p=lval k c.Id
  ·rw[if_pos e,if_pos e,e]
  ·rw[if_neg e,if_neg e]
 refine⟨⟨h.st,h.lab,h.leaf,λp hp=>h.ov p ?_,λid=>?_,λp=>?_,?_⟩,hnv,λp=>?_⟩
 ·rw[hov]at hp
  split at hp<;>omega
 ·rw[hnv];have:=h.nb id
  split<;>omega
 ·rw[hov];have:=h.ob p
  split<;>omega
 ·have:=h.gb;show 0≤Lx (k.gone+c.LV.Mem)∧Lx (k.gone+c.LV.Mem)≤((n+1:Nat):Int)*1073741824
  rw[am (by omega) (by omega)]
  omega
 ·rw[hov]
  split<;>omega
theorem wi:∀{l:List MC}{x:MC},(∀y∈l,0≤y.Mem)→x∈l→x.Mem≤(l.map (·.Mem)).sum
 | a::l,x,h,hx=>by
  have h1:=vX l λy hy=>h y (by simp[hy])
  have h2:=h a (by simp)
  rw[M9,R8];rcases Nz.1 hx with rfl | hx
  ·omega
  ·have:=wi (λy hy=>h y (by simp[hy])) hx
   omega
section
variable{N:Nat}{s:JF}{label:Int}
theorem xB(h:Inv N s){x:MC}(hx:x∈MP s label):(0≤x.Mem∧x.Mem≤12884901888)∧x.LC.length≤1000000∧Nq s.Lf x.LC=true:=by
 have htb:=nq h.sb label;have hnl:=h.nl
 have hT:0≤(b7 s label).Mem∧(b7 s label).Mem≤12*1073741824:=by unfold VB at htb;omega
 have hsum:=y8 s label 3 root _ hT.1;have hdef:MP s label=pI 3 s root label (b7 s label).Mem:=rfl;rw[← hdef]at hsum;have h1:=wi hsum.2 hx;have h2:=hsum.2 x hx;obtain⟨y,ey,hy⟩:=ra h label;rw[ym h]at ey;cases ey;have h3:=(nF h.cf (hy.2 x hx)).len
 exact⟨⟨h2,by omega⟩,by omega,hy.2 x hx⟩
theorem qy(h:Inv N s)(p:Str):0≤(Ms s p label true 0).Mem∧(Ms s p label true 0).Mem≤214748364800:=(qd h label p).1
theorem Iq{α : Type}{l:List α}{k:Nat}(h:k<l.length){x:α}(hx:x∈l.take (k+1)):x∈l.take k∨x=l[k]:=by
 rw[R3 h]at hx;rcases OB.1 hx with hx | hx
 ·exact .inl hx
 ·exact .inr (by simpa using hx)
def N0(s:JF)(label:Int)(cs:List Lv)(k:L8):Prop:=∀c∈cs,c.Ll=label→c.ME≠0→0<nval k c.Id
theorem J5(h:Inv N s)(hN:N≤1000000)(hl0:0≤label)(hl1:label<s.Lf.Lp.length):Gv (oD s label) λk=>LK s label 200 k∧N0 s label s.Lc k:=by
 unfold oD;rw[tG h hl0 hl1,K8];have hil:=pv h label;have hcl:=h.cl
 refine ad (ay (Q:=λk=>LK s label 0 k) (λ(k:L8) i=>(k,i)) (MP s label).length (λ_ k=>LK s label 0 k∧k.leaf = []∧k.Ng = []∧k.gone=0) (step:=l7 s label (MP s label)) (by omega) ?_ ?_ ?_) ?_
 ·rintro i hi k ⟨hk,h1,h2,h3⟩;unfold l7;dsimp only;rw[ah hi,cond_true,aC hi,K8,K9 hi,K8];have hx:=NQ hi;generalize(MP s label)[i]=x at hx;obtain⟨b1,b2,_⟩:=xB h hx;have b3:=qy (label:=label) h x.LC;rw[qn h b2,K8];refine aa (.inl ⟨_,rfl,?_,h1,h2,h3⟩)
  have hov:∀p,oval (⟨k.s,k.label,NP (λx3:LH=>x.LC == x3.k) k.over ⟨x.LC,Lx ((Ms s x.LC label true 0).Mem - x.Mem)⟩,k.leaf,k.Ng,k.gone⟩:L8) p=if p=x.LC then(Ms s x.LC label true 0).Mem - x.Mem else oval k p:=by
   intro p;unfold oval;dsimp only;rw[nP (key:=λx:LH=>x.k) (q':=x.LC) rfl];by_cases e:p=x.LC
   ·rw[if_pos e,if_pos e];dsimp only
    rw[am (by omega) (by omega)]
   ·rw[if_neg e,if_neg e]
  refine⟨hk.st,hk.lab,hk.leaf,λp hp=>?_,hk.nb,λp=>?_,hk.gb⟩
  ·have hp:0<oval (⟨k.s,k.label,NP (λx3:LH=>x.LC == x3.k) k.over ⟨x.LC,Lx ((Ms s x.LC label true 0).Mem - x.Mem)⟩,k.leaf,k.Ng,k.gone⟩:L8) p:=hp;rw[hov]at hp;by_cases e:p=x.LC
   ·rw[if_pos e]at hp
    exact⟨x,hx,e.symm,by rw[e];omega⟩
   ·rw[if_neg e]at hp;exact hk.ov p hp
  ·show _≤oval (⟨k.s,k.label,NP (λx3:LH=>x.LC == x3.k) k.over ⟨x.LC,Lx ((Ms s x.LC label true 0).Mem - x.Mem)⟩,k.leaf,k.Ng,k.gone⟩:L8) p∧oval (⟨k.s,k.label,NP (λx3:LH=>x.LC == x3.k) k.over ⟨x.LC,Lx ((Ms s x.LC label true 0).Mem - x.Mem)⟩,k.leaf,k.Ng,k.gone⟩:L8) p≤_;rw[hov];have:=hk.ob p
   split<;>omega
 ·rintro k ⟨hk,_⟩;unfold l7;dsimp only;rw[ar,cond_false];exact aa ⟨_,rfl,hk⟩
 ·refine⟨⟨rfl,rfl,λid hid=>?_,λp hp=>?_,λid=>?_,λp=>?_,?_⟩,rfl,rfl,rfl⟩
  ·simp[Uq,P7]at hid
  ·simp[oval,OE]at hp
  ·simp[nval,OE]
  ·simp[oval,OE]
  ·simp
 ·intro k0 hk0
  refine ad (ay (Q:=λk=>LK s label 200 k∧N0 s label s.Lc k) (λ(k:L8) i=>(k,i)) s.Lc.length (λm k=>LK s label m k∧N0 s label (s.Lc.take m) k) (step:=lZ s label) (by omega) ?_ ?_ ⟨hk0,λc hc=>by simp at hc⟩) (λk hk=>aa hk)
  ·rintro i hi k ⟨hk,hn0⟩;unfold lZ;dsimp only;rw[ah hi,cond_true,ai hi,K8];have hm:s.Lc[i]∈s.Lc:=NQ hi;have htk:∀c∈s.Lc.take (i+1),c∈s.Lc.take i∨c=s.Lc[i]:=λc hc=>Iq hi hc;generalize s.Lc[i]=c at hm htk;have hco:=h.ck c hm;refine ad (P:=λk'=>LK s label (i+1) k'∧N0 s label (s.Lc.take (i+1)) k') ?_ (λk' hk'=>aa (.inl ⟨k',rfl,hk'⟩))
   cases hlb:c.Ll != label with
   | true=>
    rw[cond_true]
    refine aa ⟨hk.mono (by omega),?_⟩
    intro c' hc' hl hnz;rcases htk c' hc' with hc' | rfl
    ·exact hn0 c' hc' hl hnz
    ·rw[hl]at hlb;simp at hlb
   | false=>
    have hlab:c.Ll=label:=by simpa using hlb
    obtain⟨a,ha,hai,_⟩:=hco.app
    have hat:MV s c.LD=some a:=by rw[← hai];exact h.MV ha
    rw[cond_false,uV (h.small hN),hat,Option.elim_some,K8]
    have hk1:LK s label i (⟨k.s,k.label,k.over,NP (λx6:Md=>c.Id == x6.k) k.leaf ⟨c.Id,a.Lm⟩,k.Ng,k.gone⟩:L8):=by
     refine⟨hk.st,hk.lab,λid hid=>?_,hk.ov,hk.nb,hk.ob,hk.gb⟩;unfold Uq at hid;dsimp only at hid;rw[yi (key:=λx:Md=>x.k) (q':=c.Id) rfl]at hid;by_cases e:id=c.Id
     ·refine⟨c,hm,e.symm,hlab,a,ha,hai,?_⟩;unfold lval;dsimp only;rw[nP (key:=λx:Md=>x.k) (q':=c.Id) rfl,if_pos e]
     ·have:(id == c.Id)=false:=by rw[beq_eq_false_iff_ne];exact e
      rw[this,QhA]at hid;obtain⟨c',hc',h1,h2,a',ha',h3,h4⟩:=hk.leaf id hid;refine⟨c',hc',h1,h2,a',ha',h3,?_⟩;rw[← h4];unfold lval;dsimp only;rw[nP (key:=λx:Md=>x.k) (q':=c.Id) rfl,if_neg e]
    cases hnz:c.ME != 0 with
    | false=>
     rw[cond_false]
     refine aa ⟨hk1.mono (by omega),?_⟩
     intro c' hc' hl aav;rcases htk c' hc' with hc' | rfl
     ·exact hn0 c' hc' hl aav
     ·exact absurd (by simpa using hnz) aav
    | true=>
     rw[cond_true]
     obtain⟨k',e,hk',hnv,_⟩:=hk1.notice (by omega) hco.size
     show Gv ((cu (⟨k.s,k.label,k.over,NP (λx6:Md=>c.Id == x6.k) k.leaf ⟨c.Id,a.Lm⟩,k.Ng,k.gone⟩:L8) c).bind λx7=>some x7) _;rw[e,K8];refine aa ⟨hk',?_⟩;intro c' hc' hl aav;rw[hnv];rcases htk c' hc' with hc' | rfl
     ·have h1:=hn0 c' hc' hl aav;have h2:nval (⟨k.s,k.label,k.over,NP (λx6:Md=>c.Id == x6.k) k.leaf ⟨c.Id,a.Lm⟩,k.Ng,k.gone⟩:L8) c'.Id=nval k c'.Id:=rfl;rw[h2]
      split<;>omega
     ·rw[if_pos rfl];have h2:=hk.nb c'.Id;have h3:nval (⟨k.s,k.label,k.over,NP (λx6:Md=>c'.Id == x6.k) k.leaf ⟨c'.Id,a.Lm⟩,k.Ng,k.gone⟩:L8) c'.Id=nval k c'.Id:=rfl;rw[h3];omega
  ·rintro k ⟨hk,hn0⟩;unfold lZ;dsimp only;rw[ar,cond_false];rw[Sq]at hn0;exact aa ⟨_,rfl,hk.mono hcl,hn0⟩
end
section
variable{N:Nat}{s:JF}{label:Int}
def oi(s:JF)(label:Int):Prop:=
 ∀a∈s.Lr,Mx a=true→∀x∈a.Mr,x.Ll=label→¬ (x.LV.Mem+(Ms s a.Lm label true 0).Mem≤(NC s a.Lm label true).Mem)
theorem Gt(h:Inv N s)(p:Str):0≤(bB s p label).Mem∧(bB s p label).Mem≤6871947673600:=(qd h label p).2
theorem FT(h:Inv N s)(p:Str):0≤(NC s p label true).Mem∧(NC s p label true).Mem≤12884901888:=by have h1:=h.sc.Xq (Ld:=p) label true;have h2:=h.nl;unfold VB at h1;omega
def QN(s:JF)(label:Int)(x:Int ⊕ Unit):Prop:=match x with
 | .inl v=>(-1125899906842624≤v∧v≤1125899906842624)∧¬ oi s label
 | .inr _=>True
theorem J2(h:Inv N s)(hl0:0≤label)(hl1:label<s.Lf.Lp.length){k:L8}(hk:k.s=s)(hlb:k.label=label){a:LD}(ha:a∈s.Lr)(hlive:Mx a=true) :
  Gv (loop (eV k a.Lm (Ms s a.Lm label true 0) (NC s a.Lm label true) a) 0) (QN s label):=by
 have hak:=h.ak a ha
 have hp:a.Lm.length≤1000000:=by have:=hak.Ld.len;omega
 refine ay (σ:=Unit) (λ_ i=>i) a.Mr.length (λ_ _=>True) (by have:=hak.al;omega) ?_ ?_ (s:=()) trivial
 ·intro i hi _ _;unfold eV;rw[ah hi,cond_true,ai hi,K8,hk,hlb];have hx:a.Mr[i]∈a.Mr:=NQ hi;generalize a.Mr[i]=x at hx;have hsz:=(hak.ask x hx).size.1;have hu:=qy (label:=label) h a.Lm;have hle:=FT (label:=label) h a.Lm;have hpe:=Gt (label:=label) h a.Lm
  rw[am (by omega) (by omega)]
  cases hlab:x.Ll == label with
  | false=>rw[cond_false,K8,cond_false];exact aa (.inl ⟨(),rfl,trivial⟩)
  | true=>
   rw[cond_true,K8];by_cases hn:(Ms s a.Lm label true 0).Mem+x.LV.Mem≤(NC s a.Lm label true).Mem
   ·rw[decide_eq_true hn,cond_true,uQ h hp,K8]
    refine aa (.inr ⟨_,rfl,?_,λhno=>hno a ha hlive x hx (by simpa using hlab) (by omega)⟩)
    rw[am (by omega) (by omega)]
    unfold Mj
    split<;>omega
   ·rw[decide_eq_false hn,cond_false];exact aa (.inl ⟨(),rfl,trivial⟩)
 ·intro _ _;unfold eV;rw[ar,cond_false];exact aa ⟨_,rfl,trivial⟩
theorem Fy(h:Inv N s)(hl0:0≤label)(hl1:label<s.Lf.Lp.length){k:L8}(hk:k.s=s)(hlb:k.label=label){Ld:Str}(hp:Ld.length≤1000000) :
  Gv (iB k Ld) λr=>r.2=k∧(-1125899906842624≤r.1∧r.1≤1125899906842624)∧(oi s label→r.1=0):=by
 unfold iB;rw[hk,hlb,qn h hp,K8,yI h.sc hp hl0 hl1,K8]
 refine ad (P:=QN s label) (ay (σ:=Unit) (λ_ i=>i) s.Lr.length (λ_ _=>True) (by have:=h.al;omega) ?_ ?_ (s:=()) trivial) ?_
 ·intro i hi _ _;unfold jG;rw[hk,ah hi,cond_true,ai hi,K8];have ha:s.Lr[i]∈s.Lr:=NQ hi;generalize s.Lr[i]=a at ha
  have hlv:nJ a=some (Mx a):=by
   unfold nJ Mx
   cases a.JF == 1<;>rfl
  rw[hlv,K8]
  cases hli:Mx a with
  | false=>rw[Vn,cond_true,K8,cond_true,K8];exact aa (.inl ⟨(),rfl,trivial⟩)
  | true=>
   rw[PZ,cond_false,K8]
   cases hq:a.Lm == Ld with
   | false=>rw[Vn,cond_true,K8];exact aa (.inl ⟨(),rfl,trivial⟩)
   | true=>
    have hqe:a.Lm=Ld:=by simpa using hq
    subst hqe;rw[PZ,cond_false];obtain⟨r,e,hr⟩:=J2 h hl0 hl1 hk hlb ha hli;rw[e,K8]
    cases r with
    | inl v=>exact aa (.inr ⟨_,rfl,hr⟩)
    | inr _=>exact aa (.inl ⟨(),rfl,trivial⟩)
 ·intro _ _;unfold jG;rw[hk,ar,cond_false];exact aa ⟨_,rfl,trivial⟩
 ·intro r hr
  cases r with
  | inl v=>exact aa ⟨rfl,hr.1,λhno=>absurd hno hr.2⟩
  | inr _=>exact aa ⟨rfl,by omega,λ_=>rfl⟩
theorem Kt(h:Inv N s)(hl0:0≤label)(hl1:label<s.Lf.Lp.length){k:L8}(hk:k.s=s)(hlb:k.label=label) :
  Gv (ju k) λr=>r.2=k∧(oi s label→r.1≤0):=by
 have hil:=pv h label;unfold ju;rw[hk,hlb,tG h hl0 hl1,K8];refine ad (ay (Q:=λq=>q.1=k∧(-(1125899906842624*4096)≤q.2∧q.2≤1125899906842624*4096)∧(oi s label→q.2=0)) (λ(t:L8×Int) i=>(t.1,t.2,i)) (MP s label).length
  (λm t=>t.1=k∧(-(1125899906842624*(m:Int))≤t.2∧t.2≤1125899906842624*(m:Int))∧(oi s label→t.2=0)) (step:=fE (MP s label)) (by omega) ?_ ?_ (s:=(k,0)) ⟨rfl,by simp,λ_=>rfl⟩) ?_
 ·rintro i hi ⟨k',sum⟩ ⟨h1,h2,h3⟩;dsimp only at h1 h2 h3;subst h1;unfold fE;dsimp only;rw[ah hi,cond_true,aC hi,K8,K9 hi,K8];have hx:=NQ hi;generalize(MP s label)[i]=x at hx;obtain⟨r,e,hr1,hr2,hr3⟩:=Fy h hl0 hl1 hk hlb (xB h hx).2.1
  rw[e,K8,am (by omega) (by omega)]
  refine aa (.inl ⟨(r.2,sum+r.1),rfl,hr1,by dsimp only;omega,λhno=>by dsimp only;rw[h3 hno,hr3 hno];rfl⟩)
 ·rintro⟨k',sum⟩ ⟨h1,h2,h3⟩;unfold fE;dsimp only;rw[ar,cond_false];refine aa ⟨_,rfl,h1,?_,h3⟩;dsimp only at h2 ⊢;omega
 ·rintro⟨k',sum⟩ ⟨h1,h2,h3⟩;dsimp only at h1 h2 h3 ⊢;subst h1
  rw[hk,hlb,sV h.sc,K8,qn h (by decide),K8]
  have htb:=nq h.sb label;have hnl:=h.nl;have hu:=qy (label:=label) h ([114,111,111,116]:Str);unfold VB at htb
  rw[am (x:=(b7 s label).Mem - _) (by omega) (by omega)]
  have him:0≤imax ((b7 s label).Mem - (Ms s [114,111,111,116] label true 0).Mem) 0∧imax ((b7 s label).Mem - (Ms s [114,111,111,116] label true 0).Mem) 0≤12884901888:=by
   unfold imax
   split<;>omega
  rw[am (by omega) (by omega)]
  refine aa ⟨rfl,λhno=>?_⟩;dsimp only;rw[h3 hno];omega
def Yd(s:JF)(label:Int)(id:Int):Prop:=
 ∃c∈s.Lc,c.Id=id∧c.ME=0∧c.Ll=label∧∃a∈s.Lr,a.Id=c.LD∧∃x∈MP s label,x.LC=a.Lm∧x.Mem<(Ms s a.Lm label true 0).Mem
theorem v8:∀{l1 l2:List Int},l1.Nodup→(∀x∈l1,x∈l2)→l1.length≤l2.length
 | [],_,_,_=>Yx _
 | a::l,l2,hn,hs=>by
  have hn':=Ug.1 hn
  have h:=v8 (l2:=l2.erase a) hn'.2 (λx hx=>by
   have hxa:x≠a:=λe=>hn'.1 (e▸hx)
   exact(QgF hxa).2 (hs x (by simp[hx])))
  have ha:=hs a (by simp)
  rw[QfI ha]at h;have:=Qe_ ha;simp only[PN];omega
theorem AA(h:Inv N s)(hN:N≤1000000)(hl0:0≤label)(hl1:label<s.Lf.Lp.length) :
  Gv (mi s label) λl=>(oi s label→l = [])∧l.Nodup∧(∀id∈l,Yd s label id)∧l.length≤200:=by
 have hcl:=h.cl;unfold mi;refine ad (J5 h hN hl0 hl1) ?_;rintro k0 ⟨hk0,hn0⟩;refine ad (Kt h hl0 hl1 hk0.st hk0.lab) ?_;rintro⟨nd,k1⟩ ⟨e,hno⟩;dsimp only at e hno;subst e;refine ad (gD (Q:=λl=>(oi s label→l = [])∧l.Nodup∧(∀id∈l,Yd s label id)∧l.length≤200)
  (λt=>LK s label (200+t.2.length) t.1∧N0 s label s.Lc t.1∧(∀id∈t.2,0<nval t.1 id∧Yd s label id)∧t.2.Nodup∧(oi s label→t.2 = [])) (λt=>200 - t.2.length) ?_ (t:=(k1,[])) ⟨hk0,hn0,by simp,Z6,λ_=>rfl⟩) (λl hl=>aa hl)
 rintro⟨k,out⟩ ⟨hk,hn,hf,hnd,hne⟩;dsimp only at hk hn hf hnd hne
 have hlen:∀{l:List Int},l.Nodup→(∀id∈l,Yd s label id)→l.length≤s.Lc.length:=by
  intro l h1 h2
  have:=v8 (l2:=s.Lc.map (·.Id)) h1 (λid hid=>by obtain⟨c,hc,e,_⟩:=h2 id hid;exact Ra.2 ⟨c,hc,e⟩)
  simpa using this
 have hol:=hlen hnd (λid hid=>(hf id hid).2);unfold qT;dsimp only;by_cases hg:k.gone<nd
 ·rw[decide_eq_true hg,cond_true]
  have hnot:¬ oi s label:=λhx=>by have:=hno hx;have:=hk.gb;omega
  have adn:k.s.Lc.length≤200:=by rw[hk.st];exact hcl
  refine ad (I3 adn (λi hi=>?_)) ?_
  ·obtain⟨c,hc,_,_,a,ha,_,e⟩:=hk.leaf i hi;rw[e];intro e0;have hr:=(h.ak a ha).Ld.root;rw[e0]at hr;rcases hr with hr | ⟨t,hr⟩
   ·cases hr
   ·cases hr
  ·rintro⟨c,is,k2⟩ ⟨e,hc⟩;dsimp only at e hc ⊢;subst e
   cases is with
   | false=>
    rw[Vn,cond_true]
    exact aa (.inr ⟨_,rfl,λhx=>absurd hx hnot,hnd,λid hid=>(hf id hid).2,by omega⟩)
   | true=>
    rw[PZ,cond_false];obtain⟨c1,c2,c3,c4⟩:=hc rfl;rw[hk.st]at c1;have hco:=h.ck c c1;obtain⟨c',hc',hci,hcl',a,ha,hai,hq⟩:=hk.leaf c.Id c2
    have hcc:c'=c:=by have f1:=oW (id:=λx:Lv=>x.Id) h.cs c1;have f2:=oW (id:=λx:Lv=>x.Id) h.cs hc';rw[hci,f1]at f2;exact(Option.some.inj f2).symm
    subst hcc
    have aaD:c'.ME=0:=by refine Classical.byContradiction λhnz=>?_;have:=hn c' c1 hcl' hnz;omega
    rw[hq]at c4;obtain⟨x,hx,hxp,hxm⟩:=hk.ov _ c4;have akG:Yd s label c'.Id:=⟨c',c1,rfl,aaD,hcl',a,ha,hai,x,hx,hxp,hxm⟩
    obtain⟨k3,e3,hk3,hnv,_⟩:=hk.notice (by omega) hco.size
    rw[e3,K8,aj (by simp;omega) (by omega),K8]
    have hnew:c'.Id∉out:=λhin=>by have:=(hf _ hin).1;omega
    have hnd':(out++[c'.Id]).Nodup:=by
     rw[Yo]
     exact⟨hnd,by simp,λx hx y hy=>by rw[Lb]at hy;subst hy;exactλe=>hnew (e▸hx)⟩
    have hf':∀id∈out++[c'.Id],0<nval k3 id∧Yd s label id:=by
     intro id hid;rw[hnv];rcases OB.1 hid with hid | hid
     ·have h1:=hf id hid;refine⟨?_,h1.2⟩
      split<;>omega
     ·rw[Lb]at hid;subst hid;rw[if_pos rfl];have:=hk.nb c'.Id
      exact⟨by omega,akG⟩
    have hl':=hlen hnd' (λid hid=>(hf' id hid).2);refine aa (.inl ⟨_,rfl,⟨?_,?_,hf',hnd',λhx=>absurd hx hnot⟩,?_⟩)
    ·dsimp only
     refine hk3.mono (by simp;omega)
    ·intro c2' hc2' hl2 aoS;dsimp only;rw[hnv];have:=hn c2' hc2' hl2 aoS
     split<;>omega
    ·dsimp only;simp only[La,PN,WV]at hl' ⊢;omega
 ·rw[decide_eq_false hg,cond_false]
  exact aa (.inr ⟨_,rfl,hne,hnd,λid hid=>(hf id hid).2,by omega⟩)
end
section
variable{N:Nat}{s:JF}{label:Int}
theorem so(h:Inv N s){x y:MC}(hx:x∈MP s label)(hy:y∈MP s label)(e:x.LC=y.LC):x=y:=by
 have hp:(MP s label).Pairwise λx y=>Op.bytesLess x.LC y.LC=true:=xa h label 3 root _;generalize MP s label=l at hx hy hp
 induction l with
 | nil=>cases hx
 | cons a l ih=>
  have hp':=SV.1 hp;rcases Nz.1 hx with hx1 | hx1
  ·rcases Nz.1 hy with hy1 | hy1
   ·rw[hx1,hy1]
   ·have:=hp'.1 y hy1;rw[← hx1,e,pu]at this;cases this
  ·rcases Nz.1 hy with hy1 | hy1
   ·have:=hp'.1 x hx1;rw[← hy1,e,pu]at this;cases this
   ·exact ih hx1 hy1 hp'.2
theorem A6(h:Inv N s){x:MC}(hx:x∈MP s label):cU s label x.LC=some x.Mem:=by
 have hil:=pv h label;unfold cU;rw[ym h,K8]
 have e:=eJ (λi=>i) (MP s label) (λy=>y.LC == x.LC) (λy=>(.inl y.Mem:Int ⊕ Unit)) (.inr ()) (step:=bE x.LC (MP s label)) (by omega) ?_ ?_ ?_
 ·rw[e]
  cases hf:(MP s label).find? λy=>y.LC == x.LC with
  | none=>have:=ZR.1 hf x hx;simp at this
  | some y=>
   have h1:=QdS hf;have h2:=QfS hf
   rw[so h h1 hx (by simpa using h2)]
   rfl
 ·intro k hk hp;unfold bE;rw[ah hk,cond_true,aC hk,K8,K9 hk,K8,hp,cond_false]
 ·intro k hk hp;unfold bE;rw[ah hk,cond_true,aC hk,K8,K9 hk,K8,hp,cond_true,K8,K9 hk];rfl
 ·unfold bE;rw[ar];rfl
end
theorem Hg{step:Int→Option (Int ⊕ (Bool ⊕ Unit))}(n:Nat)(hn:n<1000000000)(h1:∀k,k<n→step (k:Int)=some (.inl (Lx ((k:Int)+1))))(h2:step (n:Int)=some (.inr (.inr ()))):loop step 0=some (.inr ()):=by obtain⟨x,e,rfl⟩:=ay (σ:=Unit) (Q:=λx=>x=(.inr ():Bool ⊕ Unit)) (λ_ i=>i) n (λ_ _=>True) (step:=step) hn (λk hk _ _=>bO (h1 k hk) (.inl ⟨(),rfl,trivial⟩)) (λ_ _=>bO h2 ⟨_,rfl,rfl⟩) (s:=()) trivial;exact e
theorem Gr(x:Script):cP x=some (decide (x.Ns.length≤30)&&decide (x.Ux.length≤80)):=by
 unfold cP
 have e1:decide ((x.Ns.length:Int)≤30)=decide (x.Ns.length≤30):=by rw[decide_eq_decide];omega
 have e2:decide ((x.Ux.length:Int)≤80)=decide (x.Ux.length≤80):=by rw[decide_eq_decide];omega
 rw[e1,e2]
 cases decide (x.Ns.length≤30)<;>rfl
theorem aku{x:Script}{m:JF→Option Bool}(h:∀s,Inv 400000 s→m s=some true):((cP x).bind λx2=>bif ! x2 then some true else(cm x).bind m)=some true:=by
 rw[Gr,K8];by_cases h1:x.Ns.length≤30
 ·by_cases h2:x.Ux.length≤80
  ·rw[decide_eq_true h1,decide_eq_true h2];obtain⟨s,e,hs⟩:=Ic x h1 h2;rw[e];exact h s hs
  ·rw[decide_eq_false h2,Bool.and_false];rfl
 ·rw[decide_eq_false h1];rfl
theorem lv{τ σ : Type}{step:τ→Option (τ ⊕ σ)}{t:τ}{r:σ}(h:step t=some (.inr r)):loop step t=some r:=by rw[aX,h]
theorem yN{α : Type}{t:List α}{i:Nat}{x:α}(hi:i<t.length):(t.set i x).take (i+1)=t.take i++[x]:=by
 have h:i<(t.set i x).length:=by rw[Xx];exact hi
 rw[R3 h,List.getElem_set_self,List.take_set_of_le (MN i)]
theorem Kk{α : Type}{s t:List α}{j:Nat}(h:t.drop j=s.drop j)(hs:j<s.length)(ht:j<t.length):t[j]=s[j]:=by rw[Ww ht,Ww hs]at h;exact(List.cons.inj h).1
theorem xC{α : Type}{s t:List α}{j:Nat}(h:t.drop j=s.drop j):t.drop (j+1)=s.drop (j+1):=by rw[← Qg_,← Qg_,h]
theorem aaz{α σ τ ρ : Type}(p:α→Bool)(acc:σ→α→σ)(I:Nat→σ→Prop)(mk:List α→σ→Int→Int→τ)(fin:List α→σ→Int→ρ){step:τ→Option (τ ⊕ ρ)}{s:List α}
  (h1:∀(t:List α)(a:σ)(i j:Nat)(hi:i<t.length) (hj:j<t.length),t.length=s.length→I j a→step (mk t a (i:Int) (j:Int))=some (.inl (mk (if p t[j]=true then t else t.set i t[j]) (acc a t[j]) ((if p t[j]=true then i else i+1:Nat):Int) ((j+1:Nat):Int)))∧I (j+1) (acc a t[j]))
  (h2:∀(t:List α)(a:σ)(i:Nat),t.length=s.length→step (mk t a (i:Int) (s.length:Int))=some (.inr (fin t a i))) :
  ∀(m j:Nat),m+j=s.length→∀(t:List α)(a:σ)(i:Nat),i<j→t.length=s.length→I j a→t.take i=(s.take j).filter (λx=>!p x)→t.drop j=s.drop j→
   ∃(t':List α)(i':Nat),loop step (mk t a (i:Int) (j:Int))=some (fin t' ((s.drop j).foldl acc a) i')∧t'.length=s.length∧i'≤s.length∧t'.take i'=s.filter (λx=>!p x)∧I s.length ((s.drop j).foldl acc a)
 | 0,j,hm,t,a,i,hij,hl,ha,ht,hd=>by
  have hj:j=s.length:=by omega
  subst hj;rw[Sq]at ht
  refine⟨t,i,?_,hl,by omega,ht,?_⟩
  ·rw[aX,h2 t a i hl,ZQ];rfl
  ·rw[ZQ];exact ha
 | m+1,j,hm,t,a,i,hij,hl,ha,ht,hd=>by
  have hj:j<s.length:=by omega
  have hjt:j<t.length:=by omega
  obtain⟨e,ha'⟩:=h1 t a i j (by omega) hjt hl ha
  have hx:t[j]=s[j]:=Kk hd hj hjt;rw[hx]at e ha';rw[aX,e,Ww hj,TG];dsimp only
  cases hp:p s[j]with
  | true=>
   rw[if_pos rfl,if_pos rfl]
   refine aaz p acc I mk fin h1 h2 m (j+1) (by omega) t _ i (by omega) hl ha' ?_ (xC hd)
   rw[R3 hj,Z7,ht];simp[hp]
  | false=>
   rw[if_neg (by simp),if_neg (by simp)]
   refine aaz p acc I mk fin h1 h2 m (j+1) (by omega) _ _ (i+1) (by omega) (by rw[Xx];exact hl) ha' ?_ ?_
   ·rw[yN (by omega),R3 hj,Z7,ht]
    simp[hp]
   ·rw[List.drop_set_of_lt (by omega)]
    exact xC hd
theorem zd{α : Type}{t:List α}{i:Nat}(h:i≤t.length)(z:α){β : Type}(f:List α→Option β):((OQ (i:Int) (t.length:Int) t.length).bind λp=>(OQ 0 (i:Int) (Rn t p.1 p.2 (List.replicate p.2 z)).length).bind λq=>f (List.take q.2 (Rn t p.1 p.2 (List.replicate p.2 z))))=f (t.take i):=by
 have e1:OQ (i:Int) (t.length:Int) t.length=some (i,t.length - i):=by
  unfold OQ
  rw[if_pos (by omega)]
  simp
 rw[e1,K8];dsimp only
 have e2:Rn t i (t.length - i) (List.replicate (t.length - i) z)=t.take i++List.replicate (t.length - i) z:=by
  unfold Rn
  rw[List.length_replicate,QfN,List.take_replicate,QfN,show i+(t.length - i)=t.length by omega,ZQ,Wq]
 rw[e2]
 have e3:OQ 0 (i:Int) (t.take i++List.replicate (t.length - i) z).length=some (0,i):=by
  unfold OQ
  rw[if_pos (by simp;omega)]
  simp
 rw[e3,K8];show f (List.take i (t.take i++_))=_
 rw[QfV (by rw[Oy];omega),List.take_take,QfN]
theorem pT{α : Type}(l:List α)(p:α→Bool){step:Int→Option (Int ⊕ (Int ⊕ Unit))}(hn:l.length<1000000000)
  (h1:∀k (hk:k<l.length),step (k:Int)=some (bif p l[k]then .inr (.inl (k:Int))else .inl (Lx ((k:Int)+1))))
  (h3:step (l.length:Int)=some (.inr (.inr ()))) :
  (∃k,∃(hk:k<l.length),(l.take k).all (λx=>!p x)=true∧p l[k]=true∧loop step 0=some (.inl (k:Int)))∨(l.all (λx=>!p x)=true∧loop step 0=some (.inr ())):=by
 have h:=ay (σ:=Unit) (Q:=λx=>(∃k,∃(hk:k<l.length),(l.take k).all (λx=>!p x)=true∧p l[k]=true∧x = .inl (k:Int))∨(l.all (λx=>!p x)=true∧x = .inr ())) (λ_ i=>i) l.length (λk _=>(l.take k).all (λx=>!p x)=true) (step:=step) hn ?_ ?_ (s:=()) rfl
 ·obtain⟨x,e,hx⟩:=h;rw[e];rcases hx with⟨k,hk,a,b,rfl⟩ | ⟨a,rfl⟩
  ·exact .inl ⟨k,hk,a,b,rfl⟩
  ·exact .inr ⟨a,rfl⟩
 ·intro k hk _ hs;rw[h1 k hk]
  cases hp:p l[k]with
  | false=>refine aa (.inl ⟨(),rfl,?_⟩);rw[R3 hk,List.all_append,hs];simp[hp]
  | true=>exact aa (.inr ⟨_,rfl,.inl ⟨k,hk,hs,hp,rfl⟩⟩)
 ·intro _ hs;rw[Sq]at hs;rw[h3];exact aa ⟨_,rfl,.inr ⟨hs,rfl⟩⟩
theorem uk{α : Type}{id:α→Int}:∀{l:List α}(hs:l.Pairwise λx y=>id x<id y){k:Nat}(hk:k<l.length) {a:α} (e:id l[k]=id a),l.set k a=NR id l a
 | [],_,k,hk,a,e=>absurd hk (by simp)
 | b::l,hs,0,hk,a,e=>by
  have e:id b=id a:=e;unfold NR
  rw[QdO (by simp;omega),QeB (by simp;omega)]
  simp[e]
 | b::l,hs,k+1,hk,a,e=>by
  have hk':k<l.length:=by simpa using hk
  have e:id l[k]=id a:=e;have hb:=(SV.1 hs).1 _ (NQ hk');have ih:=uk (SV.1 hs).2 hk' e;unfold NR at ih ⊢
  rw[QdP (by simp;omega),QdQ (by simp;omega),QgP,ih,UF]
theorem wh{α : Type}{p:α→Bool}{l:List α}{k:Nat}(hk:k<l.length)(h:(l.take k).all (λx=>!p x)=true)(hp:p l[k]=true):l.find? p=some l[k]:=by
 have hs:(l.take k).find? p=none:=by rw[ZR];intro x hx;have:=Td.1 h x hx;simpa using this
 conv=>lhs;rw[← X0 k l]
 rw[QfY,hs,Vx,Ww hk,QgZ hp]
theorem xN{α : Type}{p:α→Bool}{l:List α}(h:l.all (λx=>!p x)=true):l.find? p=none:=by rw[ZR];intro x hx;have:=Td.1 h x hx;simpa using this
theorem qa{α : Type}{p:α→Bool}{l:List α}(h:l.all (λx=>!p x)=true):l.filter (λx=>!p x)=l:=QeR.2 (Td.1 h)
theorem Cq{s:List Lv}(hn:s.length≤100000)(p:Lv→Bool){f:M7 fam [.st 7]→Option Bool}(hf:∀x,f (x,())=some (p x)) :
  (∃k,∃(hk:k<s.length),(s.take k).all (λx=>!p x)=true∧p s[k]=true∧iY s f=some (k:Int))∨(s.all (λx=>!p x)=true∧iY s f=some (-1)):=by
 unfold iY
 have h:=pT s p (step:=n8 s f) (by omega) ?_ ?_
 ·rcases h with⟨k,hk,a,b,e⟩ | ⟨a,e⟩
  ·exact .inl ⟨k,hk,a,b,by rw[e];rfl⟩
  ·exact .inr ⟨a,by rw[e];rfl⟩
 ·intro k hk;unfold n8;rw[ah hk,cond_true,ai hk,K8,hf,K8]
  cases p s[k]<;>rfl
 ·unfold n8;rw[ar];rfl
theorem Ji{s:List Nv}(hn:s.length≤100000)(p:Nv→Bool){f:M7 fam [.st 8]→Option Bool}(hf:∀x,f (x,())=some (p x)) :
  (∃k,∃(hk:k<s.length),(s.take k).all (λx=>!p x)=true∧p s[k]=true∧lI s f=some (k:Int))∨(s.all (λx=>!p x)=true∧lI s f=some (-1)):=by
 unfold lI
 have h:=pT s p (step:=lC s f) (by omega) ?_ ?_
 ·rcases h with⟨k,hk,a,b,e⟩ | ⟨a,e⟩
  ·exact .inl ⟨k,hk,a,b,by rw[e];rfl⟩
  ·exact .inr ⟨a,by rw[e];rfl⟩
 ·intro k hk;unfold lC;rw[ah hk,cond_true,ai hk,K8,hf,K8]
  cases p s[k]<;>rfl
 ·unfold lC;rw[ar];rfl
theorem Kq{s:List Nv}(hn:s.length≤100000)(p:Nv→Bool){f:M7 fam [.st 8]→Option Bool}(hf:∀x,f (x,())=some (p x)):ng s f=some (s.filter λx=>!p x):=by
 unfold ng;rcases Ji hn p hf with⟨k,hk,a,b,e⟩ | ⟨a,e⟩
 ·rw[e,K8,show((k:Int) == -1)=false by rw[beq_eq_false_iff_ne];omega,cond_false,dI (by omega)]
  obtain⟨t,i,e1,h1,h2,h3,_⟩:=aaz p (λ(u:Unit) _=>u) (λ_ _=>True) (λt _ i j=>(t,i,j)) (λt _ i=>(t,i)) (step:=lA f) (s:=s) (by
   intro t u i j hi hj hl _;refine⟨?_,trivial⟩;unfold lA;dsimp only;rw[ah hj,cond_true,aC hj,K8,K9 hj,K8,hf,K8]
   cases p t[j]with
   | true=>simp only[PZ,cond_false,K8,if_true];rw[dI (by omega)]
   | false=>
    simp only[Vn,cond_true,RZ,if_false]
    rw[aC hi,K8,K9 hi,K8,K8,dI (by omega),dI (by omega)]) (by
   intro t u i hl;unfold lA;dsimp only
   rw[hl,ar,cond_false]) (s.length - (k+1)) (k+1) (by omega) s () k (by omega) rfl trivial (by rw[R3 hk,Z7,qa a];simp[b]) rfl
  rw[e1,K8];dsimp only
  rw[zd (by omega) _ some,h3]
 ·rw[e,K8,qa a];rfl
theorem yu(c:Lv)(p:Int){l:List Int}(h:l.length≤1000):mB c p l=some (c.LD == p,if(c.LD == p)=true then l++[c.Id]else l):=by
 unfold mB
 cases c.LD == p with
 | true=>rw[cond_true,aj (by simp;omega) (by omega)];rfl
 | false=>rfl
theorem JW{s:List Lv}(hn:s.length≤500)(i:Int):∃g,mc s () i []=some (s.filter λc=>!(c.LD == i),g):=by
 unfold mc;have e:=ay (σ:=List Int) (Q:=λx=>(∃k,∃(hk:k<s.length),(s.take k).all (λx=>!(x.LD == i))=true∧(s[k].LD == i)=true∧x=(.inl ([s[k].Id],(k:Int)):(List Int×Int) ⊕ List Int))∨(s.all (λx=>!(x.LD == i))=true∧x = .inr []))
  (λa k=>(a,k)) s.length (λk a=>(s.take k).all (λx=>!(x.LD == i))=true∧a = []) (step:=mD s i) (by omega) ?_ ?_ (s:=[]) ⟨rfl,rfl⟩
 ·obtain⟨x,e,hx⟩:=e;unfold rb;rw[e];rcases hx with⟨k,hk,a,b,rfl⟩ | ⟨a,rfl⟩
  ·rw[K8,K8];dsimp only
   rw[show((k:Int) == -1)=false by rw[beq_eq_false_iff_ne];omega,cond_false,dI (by omega)]
   obtain⟨t,j,e1,h1,h2,h3,_⟩:=aaz (λx:Lv=>x.LD == i) (λ(l:List Int) c=>if(c.LD == i)=true then l++[c.Id]else l) (λk l=>l.length≤k) (λt l i j=>(t,l,i,j)) (λt l i=>(t,l,i)) (step:=jX i) (s:=s) (by
    intro t l j m hj hm hl hlen;refine⟨?_,?_⟩
    ·unfold jX;dsimp only
     rw[ah hm,cond_true,aC hm,K8,K9 hm,K8,yu _ _ (by omega),K8]
     dsimp only
     cases t[m].LD == i with
     | true=>simp only[PZ,cond_false,K8,if_true];rw[dI (by omega)]
     | false=>
      simp only[Vn,cond_true,RZ,if_false]
      rw[aC hj,K8,K9 hj,K8,K8,dI (by omega),dI (by omega)]
    ·split
     ·simp;omega
     ·omega) (by
    intro t l j hl;unfold jX;dsimp only
    rw[hl,ar,cond_false]) (s.length - (k+1)) (k+1) (by omega) s [s[k].Id] k (by omega) rfl (by simp) (by rw[R3 hk,Z7,qa a];simp[b]) rfl
   rw[e1,K8];dsimp only
   rw[zd (by omega) _ λl=>some (l,_),h3]
   exact⟨_,rfl⟩
  ·rw[K8,K8,qa a];exact⟨_,rfl⟩
 ·rintro k hk l ⟨ha,rfl⟩;unfold mD;dsimp only
  rw[ah hk,cond_true,aC hk,K8,K9 hk,K8,yu _ _ (by simp),K8]
  dsimp only
  cases hp:s[k].LD == i with
  | true=>exact aa (.inr ⟨_,rfl,.inl ⟨k,hk,ha,hp,by simp⟩⟩)
  | false=>
   refine aa (.inl ⟨[],by simp,?_,rfl⟩)
   rw[R3 hk,List.all_append,ha];simp[hp]
 ·rintro l ⟨ha,rfl⟩;unfold mD;dsimp only;rw[ar,cond_false];rw[Sq]at ha;exact aa ⟨_,rfl,.inr ⟨ha,rfl⟩⟩
theorem Hw{s:JF}(hc:s.Lc.length≤500)(hl:s.LG.length≤100000)(i:Int):∃g,oA s i=some (P9 s i,g):=by unfold oA;obtain⟨g,e⟩:=JW hc i;rw[e,K8,Kq hl (λx=>x.LD == i) (λx=>rfl),K8];exact⟨g,rfl⟩
theorem GU(a:LD):pS a=some [dY a]:=by
 unfold pS vA vz
 rw[show V9 64 (([]:List Ask).length:Int) (([]:List Ask).length:Int) (⟨0,0,⟨0,0⟩,0,0,0,0⟩:Ask)=some []from rfl,K8,K8]
 have e1:∀f,ol (Rn ([]:List Ask) 0 ([]:List Ask).length []) f=some []:=by
  intro f;unfold ol qH
  rw[lv (r:=.inr ()) (by unfold qY;rfl)]
  rfl
 rw[e1,K8]
 rw[show((1:Int) == 0)=false from rfl,cond_false]
 rw[lv (r:=0) (by unfold uN;rfl)]
 rfl
theorem YP:∀k:Nat,Nat.ble k k=true
 | 0=>rfl
 | k+1=>YP k
theorem zI{α : Type}{l:List α}{k:Nat}(h:k<l.length):l.set k l[k]=l:=by simp
theorem vW{s:JF}(h:Small s):qp s=some s:=by
 unfold qp eN oV tp mr sP tf qx
 rw[kX (by have:=h.labels;omega) (by omega),kX (by have:=h.queues;omega) (by omega)]
 simp only[K8]
 obtain⟨x,e,hx⟩:=nx (λ(v:List Lm)(k:Int)=>(v,k.toNat,k)) (m9 s.Lf.Lg) s.Lf.Lg.length (λ_ v=>v=s.Lf.Lg) (λv=>(v,s.Lf.Lg.length,(s.Lf.Lg.length:Int))) (by
  rintro k hk v rfl;refine⟨s.Lf.Lg,?_,rfl⟩;have hq:=h.queues;have hc:=h.caps _ (NQ hk);unfold m9 qk;dsimp only
  rw[ah hk,cond_true,aC hk,K8,Tz,YP k,cond_true,K9 hk,K8,kX (by omega) (by omega),K8,K8,Yz,cond_true,K9 hk,K8,dI (by omega)]
  rw[show(⟨s.Lf.Lg[k].LC,s.Lf.Lg[k].MR,s.Lf.Lg[k].User⟩:Lm)=s.Lf.Lg[k]from rfl,zI hk]
  rfl) (by
  rintro v rfl;unfold m9;dsimp only;rw[ar];rfl) (s:=s.Lf.Lg) rfl
 have e':loop (m9 s.Lf.Lg) (s.Lf.Lg,0,0)=some (x,s.Lf.Lg.length,(s.Lf.Lg.length:Int)):=e;rw[e',hx];simp only[K8];rw[YP _,cond_true]
 rw[kX (by have:=h.nodes;omega) (by omega),kX (by have:=h.V4;omega) (by omega),kX (by have:=h.slots;omega) (by omega),kX (by have:=h.plans;omega) (by omega),kX (by have:=h.apps;omega) (by omega)]
 simp only[K8]
 obtain⟨y,e,hy⟩:=nx (λ(v:List LD)(k:Int)=>(v,k.toNat,k)) (nf s.Lr) s.Lr.length (λ_ v=>v=s.Lr) (λv=>(v,s.Lr.length,(s.Lr.length:Int))) (by
  rintro k hk v rfl;refine⟨s.Lr,?_,rfl⟩;have hq:=h.apps;unfold nf;dsimp only
  rw[ah hk,cond_true,aC hk,K8,Tz,YP k,cond_true,K9 hk,K8,tc (h.app _ (NQ hk)),K8,K8,Yz,cond_true,K9 hk,K8,dI (by omega),zI hk]
  rfl) (by
  rintro v rfl;unfold nf;dsimp only;rw[ar];rfl) (s:=s.Lr) rfl
 have e':loop (nf s.Lr) (s.Lr,0,0)=some (y,s.Lr.length,(s.Lr.length:Int)):=e;rw[e',hy];simp only[K8];rw[YP _,cond_true]
def Oo(s:JF)(a:LD):LD:=⟨a.Id,1,a.Lm,a.User,a.LA,⟨a.Lj.Mem,a.Lj.Lu⟩,[dY a],s.Now,0,[],[],[],[]⟩
def Oz(a:LD)(i:Int):LD:=⟨a.Id,a.JF,a.Lm,a.User,a.LA,⟨a.Lj.Mem,a.Lj.Lu⟩,a.Mr,a.NZ,a.Nf,a.Mv.filter λx=>x != i,if a.Mv.contains i=true then a.Nr else a.Nr++[i],a.Told,a.N7⟩
def Od(s:JF)(i:Int):JF:=match bJ s i with
 | none=>s
 | some c=>match MV s c.LD with
  | none=>s
  | some a=>if c.Lj=true then P9 (NA s (Oo s a)) a.Id else NA (RN s i) (Oz a i)
theorem A5{α : Type}{id:α→Int}:∀{l:List α},l.Pairwise (λx y=>id x<id y)→∀{k:Nat}(hk:k<l.length),l.take k++l.drop (k+1)=l.filter λx=>id x != id l[k]
 | b::l,h,0,hk=>by
  have h1:=(SV.1 h).1;show l=(b::l).filter λx=>id x != id b
  rw[Z9 (by simp)]
  refine(QeR.2 λx hx=>?_).symm;have:=h1 x hx;simp;omega
 | b::l,h,k+1,hk=>by
  have h1:=(SV.1 h).1
  have hk':k<l.length:=by simpa using hk
  have ih:=A5 (SV.1 h).2 hk';have hb:=h1 _ (NQ hk');show b::(l.take k++l.drop (k+1))=(b::l).filter λx=>id x != id l[k]
  rw[QdW (by simp;omega),ih]
theorem DG{l:List Int}(h:l.Pairwise λx y=>x<y)(i:Int)(hn:l.length≤1000000) :
  (∃j:Nat,l.contains i=true∧bw l i=some (j:Int)∧cz l (j:Int) (Lx ((j:Int)+1))=some (l.filter λx=>x != i))∨(l.contains i=false∧bw l i=some (-1)∧(l.filter λx=>x != i)=l):=by
 have e:=pT l (λx=>i == x) (step:=dj l i) (by omega) ?_ ?_
 ·rcases e with⟨k,hk,a,b,e⟩ | ⟨a,e⟩
  ·have b:i=l[k]:=by simpa using b
   refine .inl ⟨k,?_,by unfold bw;rw[e];rfl,?_⟩
   ·rw[Yp,b];exact NQ hk
   ·unfold cz del
    rw[dI (by omega),if_pos (by omega),Tz,Tz,A5 (id:=λx:Int=>x) h hk,← b]
  ·refine .inr ⟨?_,by unfold bw;rw[e];rfl,?_⟩
   ·rw[Bool.eq_false_iff];intro hc;have:=Td.1 a i (Yp.1 hc);simp at this
   ·refine QeR.2 λx hx=>?_;have:=Td.1 a x hx;simp only[U3,beq_eq_false_iff_ne]at this;simp only[bne_iff_ne,ne_eq];exactλe=>this e.symm
 ·intro k hk;unfold dj;rw[ah hk,cond_true,ai hk,K8]
  cases i == l[k]<;>rfl
 ·unfold dj;rw[ar];rfl
theorem Fo{E:Sz}{N:Nat}{s:JF}(h:MI E N s){a:LD}(ha:a∈s.Lr):∃k,∃(hk:k<s.Lr.length),s.Lr[k]=a∧o5 s a.Id=some (k:Int):=by
 have hal:=h.al
 rcases xP (s:=s) (by omega) a.Id with⟨k,hk,e1,e2⟩ | ⟨e1,e2⟩
 ·rw[h.MV ha]at e1;exact⟨k,hk,(Option.some.inj e1).symm,e2⟩
 ·rw[h.MV ha]at e1;cases e1
theorem H8{N:Nat}{s:JF}(h:Inv N s)(hN:N≤1000000)(ids:List Int){k:Nat}(hk:k<ids.length)(hkn:k<1000000):k_ ids (s,(k:Int))=some (.inl (Od s ids[k],((k+1:Nat):Int))):=by
 unfold k_;dsimp only
 rw[ah hk,cond_true,ai hk,K8,dI (by omega)]
 generalize ids[k]=i;have hcl:=h.cl
 have key:∀(m:Option JF),m=some (Od s i)→(m.bind λs1=>some (.inl (s1,((k+1:Nat):Int)):(JF×Int) ⊕ JF))=some (.inl (Od s i,((k+1:Nat):Int))):=λm e=>by rw[e];rfl
 refine key _ ?_
 rcases Cq (s:=s.Lc) (by omega) (λc=>c.Id == i) (f:=λa'=>q_ a'.1 i) (λx=>rfl)with⟨j,hj,a,b,e⟩ | ⟨a,e⟩
 ·rw[e,K8,decide_eq_false (by omega),cond_false,aC hj,K8,K9 hj,K8]
  have hfd:bJ s i=some s.Lc[j]:=wh hj a b
  have hci:s.Lc[j].Id=i:=by simpa using b
  have hcm:s.Lc[j]∈s.Lc:=NQ hj;obtain⟨p,hp,hpi,hp2⟩:=(h.ck _ hcm).app;obtain⟨q,hq,hqe,e2⟩:=Fo h hp
  rw[← hpi,e2,K8,decide_eq_true (by omega),cond_true,K8]
  have hat:MV s s.Lc[j].LD=some p:=by rw[← hpi];exact h.MV hp
  unfold Od;rw[hfd];dsimp only;rw[hat];dsimp only
  cases hm:s.Lc[j].Lj with
  | true=>
   rw[cond_true,if_pos rfl];unfold rh;rw[aC hq,K8,K9 hq,K8,GU,K8,K8,Yz,cond_true,K9 hq,K8];rw[hqe]
   have hset:s.Lr.set q (Oo s p)=NR (·.Id) s.Lr (Oo s p):=uk h.Px hq (by rw[hqe];rfl)
   obtain⟨g,e3⟩:=Hw (s:=NA s (Oo s p)) (by show s.Lc.length≤500;omega) (by show s.LG.length≤100000;have:=h.sl;omega) p.Id
   unfold NA at e3;rw[← hset]at e3;have e4:oA (⟨⟨s.Lf.Lp,s.Lf.Lg⟩,s.Ls,List.set s.Lr q (⟨p.Id,1,p.Lm,p.User,p.LA,⟨p.Lj.Mem,p.Lj.Lu⟩,[dY p],s.Now,0,[],[],[],[]⟩:LD),s.Lc,s.LG,s.LU,s.Now,s.L9,s.Seq⟩:JF) p.Id=_:=e3;rw[e4,K8,K8,hset];rfl
  | false=>
   rw[cond_false,if_neg (by simp)]
   have e3:om s.Lc (j:Int) (Lx ((j:Int)+1))=some (s.Lc.filter λc=>c.Id != i):=by
    unfold om del
    rw[dI (by omega),if_pos (by omega),Tz,Tz,A5 (id:=λc:Lv=>c.Id) h.cs hj,hci]
   rw[e3,K8,decide_eq_false (by omega),cond_false,aC hq,K8,K9 hq,K8,hqe]
   have hpk:=h.ak p hp;have hg:=h.en.2.2 p hp
   have e4:((bw p.Mv i).bind λj=>
       bif decide (j≥0)then
        (cz p.Mv j (Lx (j+1))).bind λx6=>
        some (⟨p.Id,p.JF,p.Lm,p.User,p.LA,⟨p.Lj.Mem,p.Lj.Lu⟩,p.Mr,p.NZ,p.Nf,x6,p.Nr,p.Told,p.N7⟩:LD)
       else
        (app 8 p.Nr [i]).bind λl=>
        some (⟨p.Id,p.JF,p.Lm,p.User,p.LA,⟨p.Lj.Mem,p.Lj.Lu⟩,p.Mr,p.NZ,p.Nf,p.Mv,l,p.Told,p.N7⟩:LD))=some (Oz p i):=by
    unfold Oz
    rcases DG hg.1 i (by have:=hpk.gr;omega)with⟨j,a1,a2,a3⟩ | ⟨a1,a2,a3⟩
    ·rw[a2,K8,decide_eq_true (by omega),cond_true,a3,K8,a1]
     rfl
    ·rw[a2,K8,decide_eq_false (by omega),cond_false,aj (by have:=hpk.ki;simp;omega) (by omega),K8,a1,a3]
     rfl
   rw[e4,K8,K8,Yz,cond_true,K9 hq,K8]
   have hset:s.Lr.set q (Oz p i)=NR (·.Id) s.Lr (Oz p i):=uk h.Px hq (by rw[hqe];rfl)
   rw[hset];rfl
 ·rw[e,K8,decide_eq_true (by omega),cond_true]
  unfold Od
  rw[show bJ s i=none from xN a]
theorem IH{N:Nat}{s:JF}(h:Inv N s)(hN:N≤1000000):mf s []=some s:=by
 unfold mf
 rw[vW (h.small hN),K8,lv (r:=s) (by unfold k_;rfl),K8,vW (h.small hN)]
 rfl
theorem E_(l:List Int)(i:Int):decide ((l.filter λx=>x != i).length<l.length)=l.contains i:=by
 cases hc:l.contains i with
 | true=>
  refine decide_eq_true ?_;rw[List.length_filter_lt_length_iff_exists]
  exact⟨i,Yp.1 hc,by simp⟩
 | false=>
  refine decide_eq_false ?_
  have:(l.filter λx=>x != i)=l:=by refine QeR.2 λx hx=>?_;simp only[bne_iff_ne,ne_eq];rintro rfl;rw[Yp.2 hx]at hc;cases hc
  rw[this];omega
section
variable{N:Nat}{s:JF}
theorem vT(h:Inv N s)(hN:N≤1000000)(i:Int):bn s [i]=some (Od s i):=by
 unfold bn
 have key:∀(m:Option JF),m=some (Od s i)→(m.bind λs1=>some (.inl (s1,1):(JF×Int) ⊕ JF))=some (.inl (Od s i,1)):=λm e=>by rw[e];rfl
 have e:bS [i] (s,0)=some (.inl (Od s i,1)):=by
  unfold bS;dsimp only
  rw[show decide ((0:Int)<(([i]:List Int).length:Int))=true from rfl,cond_true,show idx [i] 0=some i from rfl,K8,show Lx ((0:Int)+1)=1 from rfl]
  refine key _ ?_;rw[dR h.z,K8];unfold Od
  cases hc:bJ s i with
  | none=>rfl
  | some c=>
   obtain⟨hcm,hci⟩:=iH hc;obtain⟨a,ha,e1,e2⟩:=(h.ck c hcm).app;have hak:=h.ak a ha
   have hat:MV s c.LD=some a:=by rw[← e1];exact h.MV ha
   simp only[Option.elim,PZ,cond_false];rw[co h.z,hat,K8];simp only[Option.elim]
   cases hm:c.Lj with
   | true=>
    rw[cond_true,if_pos rfl];show(some [dY a]).bind _=_;rw[K8,nI h.z,K8,wU]
    ·rw[K8,← e1];rfl
    ·refine⟨h.z.n,?_,h.z.c,h.z.l,h.z.p⟩;have:=(mq (id:=λx:LD=>x.Id) (l:=s.Lr) (a:=Oo s a)).1;have h2:=h.al;show(NR (λx:LD=>x.Id) s.Lr (Oo s a)).length≤100000;omega
   | false=>
    rw[cond_false,if_neg (by simp),xh h.z,K8,rP (by have:=hak.gr;omega),K8]
    dsimp only;rw[hci,E_]
    have e3:(bif !(a.Mv.contains i)then
       (app 8 [] a.Nr).bind λl=>
       (app 8 l [i]).bind λl1=>
       some (⟨a.Id,a.JF,a.Lm,a.User,a.LA,⟨a.Lj.Mem,a.Lj.Lu⟩,a.Mr,a.NZ,a.Nf,a.Mv.filter λx=>x != i,l1,a.Told,a.N7⟩:LD)
      else
       some (⟨a.Id,a.JF,a.Lm,a.User,a.LA,⟨a.Lj.Mem,a.Lj.Lu⟩,a.Mr,a.NZ,a.Nf,a.Mv.filter λx=>x != i,a.Nr,a.Told,a.N7⟩:LD))=some (Oz a i):=by
     unfold Oz
     cases a.Mv.contains i with
     | true=>rfl
     | false=>
      rw[Vn,cond_true,aj (by have:=hak.ki;simp;omega) (by omega),K8,aj (by have:=hak.ki;simp;omega) (by omega)]
      rfl
    rw[e3,K8,nI (s:=RN s i) ⟨h.z.n,h.z.a,Rb (Um _ _) h.z.c,h.z.l,h.z.p⟩];rfl
 rw[aX,e];dsimp only
 rw[lv (r:=Od s i) (by unfold bS;rfl)]
 rfl
theorem vf(h:Inv N s)(hN:N<1000000)(i:Int):Inv (N+1) (Od s i)∧N7 s (Od s i) [i]:=by
 obtain⟨t,e,ht⟩:=vu h (ids:=[i]) (by simp;omega)
 rw[vT h (by omega)]at e
 cases e;exact ht
theorem Jv(h:Inv N s)(hN:N<1000000)(i:Int):mf s [i]=some (Od s i):=by
 unfold mf
 rw[vW (h.small (by omega)),K8,aX]
 have e:k_ [i] (s,0)=some (.inl (Od s i,1)):=H8 h (by omega) [i] (k:=0) (by simp) (by omega)
 rw[e];dsimp only
 rw[lv (r:=Od s i) (by unfold k_;rfl),K8,vW ((vf h hN i).1.small (by omega))]
 rfl
end
section
variable{N:Nat}{s:JF}
theorem JE{label:Int}{p:Str}(hp:Nq s.Lf p=true)(mem:Int):∀d:Nat,(⟨p,mem⟩:MC)∈pI d s p label mem
 | 0=>by simp[pI]
 | d+1=>by unfold Nq at hp;simp only[Np]at hp;unfold pI;rw[if_pos hp.2];simp
theorem qP(h:Inv N s)(label:Int){p:Str}(hp:Nq s.Lf p=true):∃x∈MP s label,x.LC=p:=by
 have key:∀n,n≤3→∀p:Str,(Nb s.Lf p).isSome=true→p.count 46=n→∃mem,∀x∈pI (3 - n) s p label mem,x∈MP s label:=by
  intro n
  induction n with
  | zero=>
   intro _ p hf hc;obtain⟨q,hq⟩:=QdC.1 hf;obtain⟨hq1,hq2⟩:=iX hq;have hr:=(jh h.cf hq1).root;rw[hq2]at hr;rcases hr with rfl | ⟨t,rfl⟩
   ·exact⟨(b7 s label).Mem,λx hx=>hx⟩
   ·rw[QgX,QgX]at hc;simp at hc
  | succ n ih=>
   intro hn p hf hc;obtain⟨q,hq⟩:=QdC.1 hf;obtain⟨hq1,hq2⟩:=iX hq;obtain⟨i,hi,e⟩:=Ul hq1
   have hi0:0<i:=by
    refine Nat.pos_of_ne_zero ?_;rintro rfl;obtain⟨q0,h0,h1,_⟩:=h.cf.root;rw[K9 hi,e]at h0;cases h0;rw[hq2]at h1;subst h1
    rw[show root.count 46=0 by decide]at hc
    omega
   have hup:=(h.cf.q i hi).up hi0;rw[e,hq2]at hup;obtain⟨q',hq'⟩:=QdC.1 hup;obtain⟨hq3,hq4⟩:=iX hq'
   have hne:aF p≠[]:=by
    have hr:=(jh h.cf hq3).root;rw[hq4]at hr;intro e0;rw[e0]at hr;rcases hr with hr | ⟨t,hr⟩
    ·cases hr
    ·cases hr
   have hcnt:=dQ (x:=p) hne rfl
   obtain⟨mem',hm⟩:=ih (by omega) (aF p) hup (by omega)
   have hk:p∈LP s.Lf (aF p):=by
    unfold LP;rw[if_neg hne]
    exact Ra.2 ⟨q,PL.2 ⟨hq1,by rw[hq2];simp⟩,hq2⟩
   obtain⟨j,hj,ej⟩:=Ul hk
   have hjl:j<(aT s label mem' (LP s.Lf (aF p))).length:=by rw[li];exact hj
   refine⟨(aT s label mem' (LP s.Lf (aF p)))[j],λx hx=>hm x ?_⟩
   rw[show 3 - n=(3 - (n+1))+1 by omega]
   unfold pI
   rw[if_neg (by intro he;rw[QgE]at he;rw[he]at hk;cases hk)]
   refine QfL.2 ⟨(p,(aT s label mem' (LP s.Lf (aF p)))[j]),?_,hx⟩
   have hz:j<((LP s.Lf (aF p)).zip (aT s label mem' (LP s.Lf (aF p)))).length:=by rw[QeL];omega
   have:=NQ hz;rw[Xz,ej]at this;exact this
 have hd:=(nF h.cf hp).deep
 obtain⟨mem,hm⟩:=key (p.count 46) hd p (by unfold Nq at hp;simp only[Np]at hp;exact hp.1) rfl
 exact⟨_,hm _ (JE hp mem _),rfl⟩
theorem lj(h:Inv N s){c:Lv}(hc:c∈s.Lc):∃a∈s.Lr,a.Id=c.LD∧MV s c.LD=some a∧kT s c=a.Lm∧Nq s.Lf a.Lm=true:=by
 obtain⟨a,ha,e1,e2⟩:=(h.ck c hc).app
 have hat:MV s c.LD=some a:=by rw[← e1];exact h.MV ha
 exact⟨a,ha,e1,hat,by unfold kT;rw[hat];rfl,(h.ak a ha).leaf (.inr e2)⟩
def U_(s:JF)(c:Lv):Int:=if c.Lj=true then((s.Lc.filter λx=>x.LD == c.LD&&(x.Id != c.Id&&x.Ll == c.Ll)).map (·.LV.Mem)).sum else 0
theorem yt{α : Type}(p:α→Bool)(f:α→Int):∀(l:List α)(z:Int),l.foldl (λn x=>if p x=true then n+f x else n) z=z+((l.filter p).map f).sum
 | [],z=>by simp
 | x::l,z=>by
  rw[TG,yt p f l,UE];split
  ·rw[M9,R8];omega
  ·rfl
theorem yp{α : Type}(p:α→Bool)(f:α→Int):∀(l:List α)(z:Int),l.foldl (λn x=>if p x=true then n - f x else n) z=z - ((l.filter p).map f).sum
 | [],z=>by simp
 | x::l,z=>by
  rw[TG,yp p f l,UE];split
  ·rw[M9,R8];omega
  ·rfl
theorem FK(h:Inv N s)(c:Lv):cK s c=some (U_ s c):=by
 have hcl:=h.cl;unfold cK U_
 cases hm:c.Lj with
 | false=>
  rw[lv (r:=0) (by unfold bg;rw[hm];dsimp only;cases decide ((0:Int)<(s.Lc.length:Int))<;>rfl)]
  rfl
 | true=>
  have e:=(cW (λ(n:Int) i=>(n,i)) s.Lc (λn x=>if(x.LD == c.LD&&(x.Id != c.Id&&x.Ll == c.Ll))=true then n+x.LV.Mem else n) (λk n=>0≤n∧n≤1073741824*k) (λn=>n) (step:=bg s c) (by omega) ?_ ?_ (s:=0) (by simp)).1
  ·rw[e,yt];simp
  ·rintro k hk n ⟨h0,h1⟩;have hsz:=(h.ck _ (NQ hk)).size.1
   refine⟨?_,by split<;>omega⟩
   unfold bg;dsimp only;rw[ah hk,cond_true,hm,K8,cond_true];simp only[ai hk,K8]
   rw[am (x:=n+s.Lc[k].LV.Mem) (by omega) (by omega)]
   cases s.Lc[k].LD == c.LD<;>cases s.Lc[k].Id != c.Id<;>cases s.Lc[k].Ll == c.Ll<;>rfl
  ·rintro n _;unfold bg;dsimp only;rw[ar];rfl
def aak(s:JF)(c:Lv)(m:Int):Bool:=decide ((Ms s (kT s c) c.Ll true 0).Mem - U_ s c>m)
theorem EP(h:Inv N s)(c:Lv):0≤U_ s c∧U_ s c≤214748364800:=by
 have hcl:=h.cl
 have key:∀l:List Lv,(∀x∈l,RB x.LV)→0≤(l.map (·.LV.Mem)).sum∧(l.map (·.LV.Mem)).sum≤1073741824*l.length:=by
  intro l
  induction l with
  | nil=>simp
  | cons x l ih=>
   intro hl
   have h1:=ih λy hy=>hl y (by simp[hy])
   have h2:=(hl x (by simp)).1
   rw[M9,R8,PN];omega
 unfold U_;split
 ·have h1:=key (s.Lc.filter λx=>x.LD == c.LD&&(x.Id != c.Id&&x.Ll == c.Ll)) λx hx=>(h.ck x (PL.1 hx).1).size;have h2:=Um (λx:Lv=>x.LD == c.LD&&(x.Id != c.Id&&x.Ll == c.Ll)) s.Lc;omega
 ·omega
end
def T9(t:Int)(c:Lv):Lv:=⟨c.Id,c.LD,c.LB,⟨c.LV.Mem,c.LV.Lu⟩,c.LA,c.Ll,c.Lj,t⟩
def NG(i t:Int)(c:Lv):Lv:=if c.Id=i then T9 t c else c
def Rt(s:JF)(i t:Int):JF:=⟨s.Lf,s.Ls,s.Lr,s.Lc.map (NG i t),s.LG,s.LU,s.Now,s.L9,s.Seq⟩
theorem xz(t:Int):∀{l:List Lv},l.Pairwise (λx y=>x.Id<y.Id)→∀{k:Nat}(hk:k<l.length),l.set k (T9 t l[k])=l.map (NG l[k].Id t)
 | b::l,h,0,hk=>by
  have h1:=(SV.1 h).1;show T9 t b::l=NG b.Id t b::l.map (NG b.Id t)
  have e:l.map (NG b.Id t)=l:=by
   conv=>rhs;rw[← Z0 l]
   refine YC λx hx=>?_;unfold NG
   rw[if_neg (by have:=h1 x hx;omega)]
   rfl
  rw[e];unfold NG;rw[if_pos rfl]
 | b::l,h,k+1,hk=>by
  have h1:=(SV.1 h).1
  have hk':k<l.length:=by simpa using hk
  have ih:=xz t (SV.1 h).2 hk';have hb:=h1 _ (NQ hk');show b::l.set k (T9 t l[k])=NG l[k].Id t b::l.map (NG l[k].Id t);rw[ih];unfold NG
  rw[if_neg (by omega)]
section
variable{N:Nat}{s:JF}
theorem wo(hl:s.Lc.length≤1000)(i t:Int):cw s i t=some (Rt s i t):=by
 unfold cw
 rw[aj (by simp;omega) (by omega),K8,PE]
 have e:=ay (Q:=λx=>x=s.Lc.map (NG i t)) (λ(l:List Lv) k=>(l,k)) s.Lc.length (λk l=>l=(s.Lc.take k).map (NG i t)++s.Lc.drop k) (step:=bT i t) (by omega) ?_ ?_ (s:=s.Lc) (by simp)
 ·obtain⟨x,e,rfl⟩:=e;rw[e];rfl
 ·rintro k hk l rfl
  have hA:((s.Lc.take k).map (NG i t)).length=k:=by rw[Py,Oy];omega
  have hn:(s.Lc.take (k+1)).map (NG i t)=(s.Lc.take k).map (NG i t)++[NG i t s.Lc[k]]:=by rw[R3 hk,UD];rfl
  rw[hn,Ww hk,P5];generalize(s.Lc.take k).map (NG i t)=A at hA;generalize hB:s.Lc.drop (k+1)=B
  have hlen:s.Lc.length=A.length+(B.length+1):=by rw[← hB,hA,Ro];omega
  generalize s.Lc[k]=x;subst hA
  have hx:(A++x::B)[A.length]? = some x:=by simp
  have hkl:A.length<(A++x::B).length:=by simp
  unfold bT;dsimp only;rw[ah hkl,cond_true];simp only[aC hkl,K8,hx]
  show Gv ((bif x.Id == i then some (List.set (A++x::B) A.length (T9 t x))else some (A++x::B)).bind _) _
  have hs:List.set (A++x::B) A.length (T9 t x)=A++(T9 t x::B):=by simp
  unfold NG
  cases hp:x.Id == i with
  | true=>
   rw[cond_true,K8,hs,if_pos (by simpa using hp)]
   exact aa (.inl ⟨_,rfl,rfl⟩)
  | false=>
   rw[cond_false,K8,if_neg (by simpa using hp)]
   exact aa (.inl ⟨_,rfl,rfl⟩)
 ·rintro l rfl;rw[Sq,ZQ,Wq];unfold bT;dsimp only;rw[Py,ar,cond_false];exact aa ⟨_,rfl,rfl⟩
theorem zB(h:Inv N s)(i t:Int)(ht:0≤t∧t≤imax s.Now 1):Inv N (Rt s i t):=by
 obtain⟨u,e,hu⟩:=xm h i t ht
 rw[wo (by have:=h.cl;omega)]at e
 cases e;exact hu.1
theorem H5{s:List MC}(hn:s.length≤100000)(p:MC→Bool){f:M7 fam [.st 16]→Option Bool}(hf:∀x,f (x,())=some (p x)) :
  (∃k,∃(hk:k<s.length),(s.take k).all (λx=>!p x)=true∧p s[k]=true∧mA s f=some (k:Int))∨(s.all (λx=>!p x)=true∧mA s f=some (-1)):=by
 unfold mA
 have h:=pT s p (step:=ma s f) (by omega) ?_ ?_
 ·rcases h with⟨k,hk,a,b,e⟩ | ⟨a,e⟩
  ·exact .inl ⟨k,hk,a,b,by rw[e];rfl⟩
  ·exact .inr ⟨a,by rw[e];rfl⟩
 ·intro k hk;unfold ma;rw[ah hk,cond_true,ai hk,K8,hf,K8]
  cases p s[k]<;>rfl
 ·unfold ma;rw[ar];rfl
theorem qK(h:Inv N s)(hN:N≤1000000){c:Lv}(hc:c∈s.Lc):∃b,lO s c=some b∧∀x∈MP s c.Ll,x.LC=kT s c→b=aak s c x.Mem:=by
 obtain⟨a,ha,e1,hat,hlf,hpl⟩:=lj h hc;have hlab:=(h.ck c hc).label;have hil:=pv h c.Ll;have hcl:=h.cl
 have hlen:a.Lm.length≤1000000:=by have:=(nF h.cf hpl).len;omega
 unfold lO;rw[uV (h.small hN),hat,K8];dsimp only[Option.elim_some];rw[qn h hlen,K8];have hu:=qy (label:=c.Ll) h a.Lm
 have e:=(cW (λ(n:Int) i=>(n,i)) s.Lc (λn x=>if(c.Lj&&(x.LD == c.LD&&(x.Id != c.Id&&x.Ll == c.Ll)))=true then n - x.LV.Mem else n) (λk n=>-(1073741824*(k:Int))≤n∧n≤214748364800) (λn=>n) (step:=lz s c) (by omega) ?_ ?_ (s:=(Ms s a.Lm c.Ll true 0).Mem) ⟨by have:=hu.1;omega,hu.2⟩).1
 ·rw[e,K8,yp,tG h hlab.1 hlab.2,K8]
  have hoth:((s.Lc.filter λx=>c.Lj&&(x.LD == c.LD&&(x.Id != c.Id&&x.Ll == c.Ll))).map (·.LV.Mem)).sum=U_ s c:=by
   unfold U_
   cases c.Lj with
   | true=>simp
   | false=>
    rw[if_neg (by simp),QeA.2 (λx _=>by simp)]
    rfl
  rw[hoth]
  rcases H5 (s:=MP s c.Ll) (by omega) (λx=>x.LC == a.Lm) (f:=λa'=>n7 a'.1 a) (λx=>rfl)with⟨k,hk,_,hp,e2⟩ | ⟨hno,e2⟩
  ·rw[e2,K8,decide_eq_true (by omega),cond_true,aC hk,K8,K9 hk,K8]
   refine⟨_,rfl,λx hx hxp=>?_⟩
   have:x=(MP s c.Ll)[k]:=so h hx (NQ hk) (by rw[hxp,hlf];simpa using(by simpa using hp:(MP s c.Ll)[k].LC=a.Lm).symm)
   unfold aak;rw[this,hlf]
  ·obtain⟨x,hx,hxp⟩:=qP h c.Ll hpl;have:=Td.1 hno x hx;simp[hxp]at this
 ·rintro k hk n ⟨h0,h1⟩;have hsz:=(h.ck _ (NQ hk)).size.1
  refine⟨?_,by split<;>omega⟩
  unfold lz;dsimp only
  rw[ah hk,cond_true,ai hk,K8,am (x:=n - s.Lc[k].LV.Mem) (by omega) (by omega)]
  cases c.Lj<;>cases s.Lc[k].LD == c.LD<;>cases s.Lc[k].Id != c.Id<;>cases s.Lc[k].Ll == c.Ll<;>rfl
 ·rintro n _;unfold lz;dsimp only;rw[ar];rfl
end
def Pb(c:Lv)(label now:Int):Bool:=c.Ll == label&&(c.ME != 0&&decide (c.ME+3≤now))
noncomputable def OT(t:JF)(c:Lv):Option JF:=match bJ t c.Id with
 | none=>some t
 | some d=>(lO t d).bind λb=>some (if b=true then Od t d.Id else Rt t d.Id 0)
section
variable{N:Nat}{s:JF}
theorem yz(h:Inv N s)(hN:N<1000000)(c:Lv):Gv (OT s c) λt=>Inv (N+1) t∧t.Now=s.Now∧t.Lf=s.Lf∧∀d∈t.Lc,d∈s.Lc∨d.Id=c.Id:=by
 unfold OT
 cases hc:bJ s c.Id with
 | none=>exact aa ⟨h.mono (by omega),rfl,rfl,λd hd=>.inl hd⟩
 | some d=>
  obtain⟨U1,hdi⟩:=iH hc
  obtain⟨b,e,_⟩:=qK h (by omega) U1
  dsimp only;rw[e,K8];refine aa ?_;split
  ·obtain⟨h1,h2⟩:=vf h hN d.Id;refine⟨h1,?_,?_,λx hx=>.inl (h2.ct x hx).1⟩
   ·unfold Od;split
    ·rfl
    ·split
     ·rfl
     ·split<;>rfl
   ·unfold Od;split
    ·rfl
    ·split
     ·rfl
     ·split<;>rfl
  ·refine⟨(zB h d.Id 0 ⟨Uj _,by unfold imax;split<;>omega⟩).mono (by omega),rfl,rfl,λx hx=>?_⟩
   obtain⟨y,hy,rfl⟩:=Ra.1 hx;unfold NG;split
   ·rename_i e
    exact .inr (by rw[← hdi,← e];rfl)
   ·exact .inl hy
theorem HU(h:Inv N s)(hN:N<1000000){label:Int}{l:List Lv}{k:Nat}(hk:k<l.length)(hkn:k<1000000)(hlb:∀d,bJ s l[k].Id=some d→d.Ll=label) :
  a9 label l (s,(k:Int))=(OT s l[k]).bind λt=>some (.inl (t,((k+1:Nat):Int))):=by
 unfold a9 OT;dsimp only
 rw[ah hk,cond_true,aC hk,K8,K9 hk,K8,dR h.z,K8,dI (by omega)]
 cases hc:bJ s l[k].Id with
 | none=>rfl
 | some d=>
  obtain⟨U1,hdi⟩:=iH hc
  obtain⟨b,e,hb⟩:=qK h (by omega) U1
  obtain⟨a,ha,e1,hat,hlf,hpl⟩:=lj h U1;have hdl:=hlb d hc;obtain⟨x,hx,hxp⟩:=qP h d.Ll hpl
  have hxp:x.LC=kT s d:=by rw[hlf];exact hxp
  have hm:=A6 h hx;have hbx:=hb x hx hxp;have hu:=qy (label:=d.Ll) h (kT s d);have ho:=EP h d;rw[hxp,hdl]at hm;simp only[Option.elim,PZ,cond_false];rw[qU h.z,K8,jH h.sb,K8,FK h,K8,K8,hm,K8];rw[hdl]at hu
  rw[am (by omega) (by omega),vT h (by omega),wo (by have:=h.cl;omega),e,K8]
  have:b=decide ((Ms s (kT s d) label true 0).Mem - U_ s d>x.Mem):=by rw[hbx];unfold aak;rw[hdl]
  rw[← this]
  cases b<;>rfl
theorem AH(h:Inv N s)(i:Int){f:M7 fam [.st 7]→Option Bool}(hf:∀x,f (x,())=some (x.Id == i)) :
  (∃k,∃(hk:k<s.Lc.length),bJ s i=some s.Lc[k]∧s.Lc[k].Id=i∧iY s.Lc f=some (k:Int))∨(bJ s i=none∧iY s.Lc f=some (-1)):=by
 have hcl:=h.cl
 rcases Cq (s:=s.Lc) (by omega) (λc=>c.Id == i) hf with⟨k,hk,a,b,e⟩ | ⟨a,e⟩
 ·exact .inl ⟨k,hk,wh hk a b,by simpa using b,e⟩
 ·exact .inr ⟨xN a,e⟩
theorem G3(h:Inv N s)(hN:N<1000000)(label:Int)(c:Lv)(hcd:∀d,bJ s c.Id=some d→d=c) :
  jP label c s=if Pb c label s.Now=true then OT s c else some s:=by
 unfold jP OT;rcases AH h c.Id (f:=λa'=>oY a'.1 c) (λx=>rfl)with⟨k,hk,e1,e2,e3⟩ | ⟨e1,e3⟩
 ·have hck:=hcd _ e1
  have hcm:c∈s.Lc:=by rw[← hck];exact NQ hk
  obtain⟨b,e,_⟩:=qK h (by omega) hcm
  have hnt:=h.sd.Vr c hcm;have ade:=h.now
  have Xg:nQ c label s.Now=some (Pb c label s.Now):=by
   unfold nQ Pb
   have:imax s.Now 1≤1000000000:=by unfold imax;split<;>omega
   rw[am (by omega) (by omega),show decide (s.Now - c.ME≥3)=decide (c.ME+3≤s.Now)by rw[decide_eq_decide];omega]
   cases c.Ll == label<;>cases c.ME != 0<;>rfl
  rw[e3,K8,decide_eq_false (by omega),cond_false,aC hk,K8,K9 hk,K8,hck,Xg,K8,K8]
  cases hl:Pb c label s.Now with
  | false=>rfl
  | true=>
   rw[PZ,cond_false,if_pos rfl,e1,hck,e,K8];dsimp only;rw[e,K8,Jv h hN]
   cases b with
   | true=>rfl
   | false=>
    rw[cond_false,K8,K9 hk,K8,hck];have hs:=xz 0 h.cs hk;rw[hck]at hs
    rw[if_neg (by simp)]
    unfold Rt;rw[← hs];rfl
 ·rw[e3,K8,decide_eq_true (by omega),cond_true,e1]
  split<;>rfl
noncomputable def lM:JF→List Lv→Option JF
 | t,[]=>some t
 | t,c::l=>(OT t c).bind λu=>lM u l
theorem C8(l m:List Lv):∀t,lM t (l++m)=(lM t l).bind λu=>lM u m:=by
 induction l with
 | nil=>intro t;rfl
 | cons c l ih=>
  intro t;show(OT t c).bind _=((OT t c).bind _).bind _
  cases OT t c with
  | none=>rfl
  | some u=>exact ih u
structure Kept(s:JF)(l:List Lv)(N:Nat)(t:JF):Prop where
 inv:Inv N t
 now:t.Now=s.Now
 conf:t.Lf=s.Lf
 ct:∀d∈t.Lc,d∈s.Lc∨∃c∈l,d.Id=c.Id
theorem Kept.step{l:List Lv}{t:JF}(h:Kept s l N t)(hN:N<1000000)(c:Lv):Gv (OT t c) (Kept s (l++[c]) (N+1)):=by
 refine mH (yz h.inv hN c) ?_;rintro u ⟨h1,h2,h3,h4⟩;refine⟨h1,h2.trans h.now,h3.trans h.conf,λd hd=>?_⟩;rcases h4 d hd with h5 | h5
 ·rcases h.ct d h5 with h6 | ⟨x,hx,h6⟩
  ·exact .inl h6
  ·exact .inr ⟨x,by simp[hx],h6⟩
 ·exact .inr ⟨c,by simp,h5⟩
theorem Kept.all:∀(m:List Lv){l:List Lv}{t:JF}{N:Nat},Kept s l N t→N+m.length<1000000→Gv (lM t m) (Kept s (l++m) (N+m.length))
 | [],l,t,N,h,_=>by rw[Wq];exact aa h
 | c::m,l,t,N,h,hN=>by
  simp only[PN]at hN
  refine ad (h.step (by omega) c) λu hu=>?_
  have:=Kept.all m hu (by omega)
  rw[P5]at this;refine mH this λv hv=>?_
  rw[PN,show N+(m.length+1)=N+1+m.length by omega]
  exact hv
end
def O8(s:JF)(label:Int):List Lv:=(s.Lc.filter λc=>Pb c label s.Now).reverse
section
variable{N:Nat}{s:JF}{label:Int}
theorem xV(h:Inv N s):∀(k:Nat),k≤s.Lc.length→∀acc:List Lv,acc.length+k≤1000→loop (cp s label) (acc,(k:Int) - 1)=some (acc++((s.Lc.take k).filter λc=>Pb c label s.Now).reverse)
 | 0,_,acc,_=>by
  rw[lv (r:=acc) (by unfold cp;rfl)]
  simp
 | k+1,hk,acc,hl=>by
  have hk':k<s.Lc.length:=by omega
  have hnt:=h.sd.Vr _ (NQ hk');have ade:=h.now
  have him:imax s.Now 1≤1000000000:=by unfold imax;split<;>omega
  have ih:=λacc h=>xV h0 k (by omega) acc h
  rw[R3 hk',Z7,QeQ];generalize hx:s.Lc[k]=x at hnt
  have e:cp s label (acc,((k+1:Nat):Int) - 1)=some (.inl (if Pb x label s.Now=true then acc++[x]else acc,(k:Int) - 1)):=by
   unfold cp Pb;dsimp only
   rw[show((k+1:Nat):Int) - 1=(k:Int)by omega,decide_eq_true (by omega),cond_true,ai hk',K8,hx,am (x:=x.ME+3) (by omega) (by omega),am (x:=(k:Int) - 1) (by omega) (by omega),aj (by simp;omega) (by omega),K8]
   cases x.Ll == label<;>cases x.ME != 0<;>cases decide (x.ME+3≤s.Now)<;>rfl
  rw[aX,e];dsimp only
  cases hl2:Pb x label s.Now with
  | true=>
   rw[if_pos rfl,ih _ (by simp;omega)]
   simp[hl2]
  | false=>
   rw[if_neg (by simp),ih _ (by omega)]
   simp[hl2]
where h0:Inv N s:=h
theorem vJ(h:Inv N s)(hN:N+500<1000000){l:List Lv}(hd:l.Pairwise λx y=>x.Id≠y.Id)(hs:∀c∈l,c∈s.Lc∧c.Ll=label)(hl:l.length≤200) :
  ∀(m a:List Lv),l=a++m→∀t,Kept s a (N+a.length) t→loop (a9 label l) (t,(a.length:Int))=lM t m
 | [],a,e,t,ht=>by
  rw[Wq]at e;subst e
  rw[lv (r:=t) (by unfold a9;dsimp only;rw[ar,cond_false])]
  rfl
 | c::m,a,e,t,ht=>by
  have hal:a.length<l.length:=by rw[e];simp
  have hla:l[a.length]=c:=by simp[e]
  have e2:=HU (label:=label) ht.inv (by omega) hal (by omega) (λd hd'=>by
   obtain⟨d1,d2⟩:=iH hd';rw[hla]at d2
   have hcs:=hs c (by rw[e];simp)
   rcases ht.ct d d1 with h5 | ⟨x,hx,h5⟩
   ·have:=eL (id:=λx:Lv=>x.Id) h.cs h5 hcs.1 d2;rw[this];exact hcs.2
   ·rw[e,QdN]at hd
    exact absurd (by omega) (hd.2.2 x hx c (by simp)))
  rw[hla]at e2;rw[aX,e2]
  obtain⟨u,eu,hu⟩:=ht.step (by omega) c
  show(match(OT t c).bind λt=>some (.inl (t,((a.length+1:Nat):Int)):(JF×Int) ⊕ JF)with | _=>_)=(OT t c).bind _
  rw[eu]
  have:=vJ h hN hd hs hl m (a++[c]) (by rw[e];simp) u (by rw[La];exact hu)
  rw[La]at this;exact this
theorem uM(h:Inv N s)(label:Int):(O8 s label).Pairwise (λx y=>x.Id≠y.Id)∧(∀c∈O8 s label,c∈s.Lc∧c.Ll=label)∧(O8 s label).length≤200:=by
 unfold O8;refine⟨?_,λc hc=>?_,?_⟩
 ·rw[List.pairwise_reverse];refine(h.cs.sublist Wh).imp λhxy=>?_;omega
 ·obtain⟨h1,h2⟩:=PL.1 (QgG.1 hc);refine⟨h1,?_⟩;unfold Pb at h2;simp only[Np]at h2;simpa using h2.1
 ·rw[Z8];exact Rb (Um _ _) h.cl
theorem Cl(h:Inv N s)(hN:N+500<1000000):cC s label=lM s (O8 s label):=by
 have hcl:=h.cl;unfold cC;dsimp only
 rw[am (by omega) (by omega),xV h s.Lc.length (MN _) [] (by simp;omega),K8,PE,Sq]
 obtain⟨h1,h2,h3⟩:=uM h label;have:=vJ h hN h1 h2 h3 (O8 s label) [] rfl s ⟨h,rfl,rfl,λd hd=>.inl hd⟩;show(loop (a9 label (O8 s label)) (s,0)).bind _=_
 rw[show loop (a9 label (O8 s label)) (s,0)=lM s (O8 s label)from this]
 cases lM s (O8 s label)<;>rfl
theorem yw(h:Inv N s)(hN:N+500<1000000):∀(r p:List Lv),s.Lc=p++r→ZK (jP label) r s=lM s ((r.filter λc=>Pb c label s.Now).reverse)
 | [],p,e=>rfl
 | x::r,p,e=>by
  have ih:=yw h hN r (p++[x]) (by rw[e];simp)
  show(ZK (jP label) r s).bind _=_;rw[ih]
  have hlen:((r.filter λc=>Pb c label s.Now).reverse).length≤200:=by rw[Z8];have h1:=Um (λc=>Pb c label s.Now) r;have h2:=h.cl;have h3:=congrArg List.length e;simp at h3;omega
  have hk:=Kept.all (s:=s) ((r.filter λc=>Pb c label s.Now).reverse) (l:=[]) (t:=s) (N:=N) ⟨h,rfl,rfl,λd hd=>.inl hd⟩ (by omega)
  obtain⟨t,et,ht⟩:=hk;rw[PE]at ht
  have hxs:x∈s.Lc:=by rw[e];simp
  have e3:=G3 ht.inv (by omega) label x (λd hd=>by
   obtain⟨d1,d2⟩:=iH hd;rcases ht.ct d d1 with h5 | ⟨y,hy,h5⟩
   ·exact eL (id:=λx:Lv=>x.Id) h.cs h5 hxs d2
   ·have hy:=(PL.1 (QgG.1 hy)).1;have hp:=h.cs;rw[e,QdN]at hp;have:=(SV.1 hp.2.1).1 y hy;omega)
  rw[et,K8,e3,ht.now,UE]
  cases hl:Pb x label s.Now with
  | true=>
   rw[if_pos rfl,if_pos rfl,List.reverse_cons,C8,et,K8];show _=(OT t x).bind λu=>some u
   cases OT t x<;>rfl
  | false=>
   rw[if_neg (by simp),if_neg (by simp)]
   exact et.symm
theorem Io(h:Inv N s)(hN:N+500<1000000):mC s label=cC s label:=by
 have hcl:=h.cl;unfold mC mr
 rw[kX (by omega) (by omega),K8,yw h hN s.Lc [] rfl,Cl h hN]
 unfold O8
 cases lM s ((s.Lc.filter λc=>Pb c label s.Now).reverse)<;>rfl
end
def r1:Int→List (Int×Int×Int)→List Int
 | _,[]=>[]
 | z,x::l=>sp1 x z::r1 (z - sp1 x z) l
def e1:Int→List (Int×Int×Int)→Int
 | z,[]=>z
 | z,x::l=>e1 (z - sp1 x z) l
def r2:Int→List ((Int×Int×Int)×Int)→List Int
 | _,[]=>[]
 | z,x::l=>(x.2+sp2 x z)::r2 (z - sp2 x z) l
theorem BX:∀(l:List (Int×Int×Int)) (a:List Int) (z:Int),l.foldl st1 (a,z)=(a++r1 z l,e1 z l)
 | [],a,z=>by simp[r1,e1]
 | x::l,a,z=>by rw[TG];show l.foldl st1 (a++[sp1 x z],z - sp1 x z)=_;rw[BX l];simp[r1,e1]
theorem CJ:∀(l:List ((Int×Int×Int)×Int)) (a:List Int) (z:Int),(l.foldl st2 (a,z)).1=a++r2 z l
 | [],a,z=>by simp[r2]
 | x::l,a,z=>by rw[TG];show(l.foldl st2 (a++[x.2+sp2 x z],z - sp2 x z)).1=_;rw[CJ l];simp[r2]
theorem uv(total:Int)(l:List (Int×Int×Int)):eg total l=r2 (e1 (LM total) l) (l.zip (r1 (LM total) l)):=by unfold eg ax;rw[BX];dsimp only;rw[CJ,PE,PE]
def Z_:List (Int×Int×Int)→List (Int×Int×Int)→Prop
 | [],[]=>True
 | x::l,y::m=>(x.1=y.1∧x.2.2=y.2.2∧LM y.2.1≤LM x.2.1)∧Z_ l m
 | _,_=>False
def Ge:List (Int×Int×Int)→List Int→List Int→Prop
 | [],[],[]=>True
 | x::l,a::p,b::q=>Mj a (LM x.2.1)≤b∧Ge l p q
 | _,_,_=>False
def capOf(x:Int×Int×Int):Int:=Mj (Mj (LM x.1) (LM x.2.1)) (LM x.2.2)
theorem m_(x:Int×Int×Int)(z:Int):sp1 x z=Mj (capOf x) z:=rfl
theorem oz(x:Int×Int×Int):0≤capOf x∧capOf x≤LM x.1∧capOf x≤LM x.2.1∧capOf x≤LM x.2.2:=by
 have h1:=bD x.1;have h2:=bD x.2.1;have h3:=bD x.2.2;unfold capOf Mj
 repeat' split
 all_goals omega
theorem KE{x y:Int×Int×Int}(h:x.1=y.1∧x.2.2=y.2.2∧LM y.2.1≤LM x.2.1):capOf y≤capOf x∧Mj (capOf x) (LM y.2.1)≤capOf y:=by
 obtain⟨h1,h2,h3⟩:=h;unfold capOf;rw[h1,h2];unfold Mj;constructor
 ·repeat' split
  all_goals omega
 ·repeat' split
  all_goals omega
theorem wa:∀(l:List (Int×Int×Int)) {z:Int},0≤z→0≤e1 z l∧e1 z l≤z
 | [],z,h=>⟨h,Uj _⟩
 | x::l,z,h=>by
  have hc:=oz x
  have hs:0≤sp1 x z∧sp1 x z≤z:=by rw[m_];unfold Mj;split<;>omega
  have:=wa l (z:=z - sp1 x z) (by omega)
  show 0≤e1 (z - sp1 x z) l∧e1 (z - sp1 x z) l≤z;omega
theorem IJ:∀{l m:List (Int×Int×Int)},Z_ l m→∀{z w:Int},0≤z→z≤w→Ge m (r1 z l) (r1 w m)∧e1 z l≤e1 w m
 | [],[],_,z,w,_,h=>⟨trivial,h⟩
 | x::l,y::m,hl,z,w,h0,h=>by
  have hx:=KE hl.1;have hc:=oz x;have hd:=oz y
  have h1:Mj (sp1 x z) (LM y.2.1)≤sp1 y w:=by
   rw[m_,m_];have:=hx.2;unfold Mj at this ⊢;split at this
   ·repeat' split
    all_goals omega
   ·repeat' split
    all_goals omega
  have h2:0≤z - sp1 x z∧z - sp1 x z≤w - sp1 y w:=by
   rw[m_,m_];unfold Mj
   repeat' split
   all_goals omega
  have ih:=IJ hl.2 h2.1 h2.2;exact⟨⟨h1,ih.1⟩,ih.2⟩
 | [],_::_,hl,_,_,_,_=>hl.elim
 | _::_,[],hl,_,_,_,_=>hl.elim
theorem A3:∀{l:List (Int×Int×Int)} {z:Int},0≤z→0<e1 z l→r1 z l=l.map capOf
 | [],z,_,_=>rfl
 | x::l,z,h0,h=>by
  have hc:=oz x
  have hs:0≤z - sp1 x z:=by rw[m_];unfold Mj;split<;>omega
  have h:0<e1 (z - sp1 x z) l:=h;have hn:=wa l hs
  have hlt:sp1 x z<z:=by omega
  have hcap:sp1 x z=capOf x:=by
   rw[m_]at hlt ⊢;unfold Mj at hlt ⊢;split at hlt
   ·omega
   ·rename_i hh;rw[if_neg hh]
  show sp1 x z::r1 (z - sp1 x z) l=capOf x::l.map capOf
  rw[hcap,A3 (by rw[← hcap];exact hs) (by rw[← hcap];exact h)]
theorem Av(x:(Int×Int×Int)×Int){z:Int}(h:0≤z):0≤sp2 x z∧sp2 x z≤z:=by
 unfold sp2 Mj imax
 repeat' split
 all_goals omega
theorem BO:∀{l:List (Int×Int×Int)} {p:List Int},l.length=p.length→r2 0 (l.zip p)=p
 | [],[],_=>rfl
 | x::l,a::p,h=>by
  have hs:=Av (x,a) (Uj 0);show(a+sp2 (x,a) 0)::r2 (0 - sp2 (x,a) 0) (l.zip p)=a::p
  rw[show sp2 (x,a) 0=0 by omega,Int.add_zero,Int.sub_zero,BO (by simpa using h)]
theorem Cx:∀{m:List (Int×Int×Int)} {p q:List Int},Ge m p q→∀{z:Int},0≤z→Ge m p (r2 z (m.zip q))
 | [],[],[],_,z,_=>trivial
 | x::m,a::p,b::q,h,z,hz=>by
  have hs:=Av (x,b) hz
  exact⟨by have:=h.1;show Mj a (LM x.2.1)≤b+sp2 (x,b) z;omega,Cx h.2 (by omega)⟩
 | [],[],_::_,h,_,_=>h.elim
 | [],_::_,_,h,_,_=>by cases h
 | _::_,[],_,h,_,_=>by cases h
 | _::_,_::_,[],h,_,_=>by cases h
def Vl(x:Int×Int×Int):Int:=Mj (LM x.2.1) (LM x.2.2)
theorem ac1(x:Int×Int×Int):capOf x≤Vl x:=by
 unfold capOf Vl Mj
 repeat' split
 all_goals omega
theorem Fq(x:Int×Int×Int)(z:Int):sp2 (x,capOf x) z=Mj (Vl x - capOf x) z:=by
 have h:=ac1 x;unfold sp2;dsimp only;show Mj (imax (Vl x - capOf x) 0) z=_
 rw[show imax (Vl x - capOf x) 0=Vl x - capOf x by unfold imax;split<;>omega]
theorem aoF{x y:Int×Int×Int}(h:x.1=y.1∧x.2.2=y.2.2∧LM y.2.1≤LM x.2.1) :
  capOf x≤Vl x∧capOf y≤Vl y∧Vl y≤Vl x∧Vl y - capOf y≤Vl x - capOf x∧(capOf y<Vl y→capOf x=capOf y)∧Vl x≤LM y.2.2∧Vl y=Mj (LM y.2.1) (LM y.2.2):=by
 obtain⟨h1,h2,h3⟩:=h;refine⟨ac1 x,ac1 y,?_,?_,?_,?_,rfl⟩
 all_goals unfold Vl
 all_goals try unfold capOf
 all_goals rw[h2]
 all_goals try rw[h1]
 all_goals generalize LM y.1=a
 all_goals generalize LM y.2.1=b at *
 all_goals generalize LM y.2.2=c
 all_goals generalize LM x.2.1=d at *
 all_goals unfold Mj
 all_goals repeat' split
 all_goals omega
theorem IK:∀{l m:List (Int×Int×Int)},Z_ l m→∀{z w:Int},0≤z→z≤w→Ge m (r2 z (l.zip (l.map capOf))) (r2 w (m.zip (m.map capOf)))
 | [],[],_,z,w,_,_=>trivial
 | x::l,y::m,hl,z,w,h0,h=>by
  obtain⟨hl1,hl2⟩:=hl;obtain⟨k1,k2,k3,k4,k5,k6,k7⟩:=aoF hl1
  have key:Mj (capOf x+sp2 (x,capOf x) z) (LM y.2.1)≤capOf y+sp2 (y,capOf y) w∧0≤z - sp2 (x,capOf x) z∧z - sp2 (x,capOf x) z≤w - sp2 (y,capOf y) w:=by
   rw[Fq,Fq];generalize capOf x=cx at *;generalize capOf y=cy at *;generalize Vl x=mx at *;generalize Vl y=my at *;generalize LM y.2.1=b at *;generalize LM y.2.2=c at *
   have u1:Mj (mx - cx) z=mx - cx∧mx - cx≤z∨Mj (mx - cx) z=z∧z<mx - cx:=by unfold Mj;split<;>omega
   have u2:Mj (my - cy) w=my - cy∧my - cy≤w∨Mj (my - cy) w=w∧w<my - cy:=by unfold Mj;split<;>omega
   generalize Mj (mx - cx) z=sx at *;generalize Mj (my - cy) w=sy at *
   refine⟨?_,by omega,by omega⟩
   have u3:my=b∧b≤c∨my=c∧c<b:=by rw[k7];unfold Mj;split<;>omega
   unfold Mj
   split<;>omega
  exact⟨key.1,IK hl2 key.2.1 key.2.2⟩
 | [],_::_,hl,_,_,_,_=>hl.elim
 | _::_,[],hl,_,_,_,_=>hl.elim
theorem zi:∀(l:List (Int×Int×Int)) (z:Int),(r1 z l).length=l.length
 | [],_=>rfl
 | x::l,z=>by simp[r1,zi l]
theorem EE:∀(l:List ((Int×Int×Int)×Int)) (z:Int),(r2 z l).length=l.length
 | [],_=>rfl
 | x::l,z=>by simp[r2,EE l]
theorem EA{l m:List (Int×Int×Int)}(hl:Z_ l m){z w:Int}(h:LM z≤LM w):Ge m (eg z l) (eg w m):=by
 have b1:=bD z;have b2:=bD w;rw[uv,uv];obtain⟨g1,g2⟩:=IJ hl b1.1 h;have n1:=wa l b1.1;have n2:=wa m b2.1;by_cases h0:0<e1 (LM z) l
 ·rw[A3 b1.1 h0,A3 b2.1 (by omega)]
  exact IK hl n1.1 g2
 ·rw[show e1 (LM z) l=0 by omega,BO (zi l _).symm]
  exact Cx g1 n2.1
def TJ:List (Int×Int×Int)→Int
 | []=>0
 | x::l=>LM x.2.1+TJ l
def Vz:List (Int×Int×Int)→Int
 | []=>0
 | x::l=>(LM x.2.1 - capOf x)+Vz l
theorem xf:∀l:List (Int×Int×Int),0≤TJ l
 | []=>Uj _
 | x::l=>by have h1:=bD x.2.1;have h2:=xf l;unfold TJ;omega
theorem BT:∀l:List (Int×Int×Int),0≤Vz l
 | []=>Uj _
 | x::l=>by have h1:=oz x;have h2:=BT l;unfold Vz;omega
theorem Ef:∀{l:List (Int×Int×Int)} {z:Int},TJ l≤z→r1 z l=l.map capOf∧Vz l≤e1 z l
 | [],z,h=>⟨rfl,h⟩
 | x::l,z,h=>by
  have hc:=oz x;have hn:=xf l;have h:LM x.2.1+TJ l≤z:=h
  have hcap:sp1 x z=capOf x:=by rw[m_];unfold Mj;split<;>omega
  have key:∀(l:List (Int×Int×Int)) (z d:Int),0≤d→TJ l+d≤z→r1 z l=l.map capOf∧Vz l+d≤e1 z l:=by
   intro l
   induction l with
   | nil=>intro z d _ h;exact⟨rfl,h⟩
   | cons x l ih=>
    intro z d hd h;have hc:=oz x;have hn:=xf l;have h:LM x.2.1+TJ l+d≤z:=h
    have hcap:sp1 x z=capOf x:=by rw[m_];unfold Mj;split<;>omega
    have:=ih (z - capOf x) (LM x.2.1 - capOf x+d) (by omega) (by omega)
    refine⟨?_,?_⟩
    ·show sp1 x z::r1 (z - sp1 x z) l=_;rw[hcap,this.1];rfl
    ·show LM x.2.1 - capOf x+Vz l+d≤e1 (z - sp1 x z) l;rw[hcap];omega
  have:=key (x::l) z 0 (Uj _) (by show LM x.2.1+TJ l+0≤z;omega)
  exact⟨this.1,by have:=this.2;omega⟩
theorem xL:∀{m:List (Int×Int×Int)} {p:List Int} {w:Int},Vz m≤w→p.length=m.length→(∀(k:Nat)(x:Int×Int×Int)(a:Int),m[k]? = some x→p[k]? = some a→a≤LM x.2.2)→Ge m p (r2 w (m.zip (m.map capOf)))
 | [],[],_,_,_,_=>trivial
 | x::m,a::p,w,h,hl,hp=>by
  have hc:=oz x;have hn:=BT m;have b2:=bD x.2.1;have b3:=bD x.2.2;have b1:=bD x.1;have h:(LM x.2.1 - capOf x)+Vz m≤w:=h;have ha:=hp 0 x a rfl rfl;refine⟨?_,?_⟩
  ·show Mj a (LM x.2.1)≤capOf x+sp2 (x,capOf x) w;unfold sp2;dsimp only;unfold Mj imax
   repeat' split
   all_goals omega
  ·refine xL ?_ (by simpa using hl) λk y b h1 h2=>hp (k+1) y b h1 h2
   unfold sp2;dsimp only;unfold Mj imax
   repeat' split
   all_goals omega
theorem CU:∀{l:List (Int×Int×Int)} {p:List Int} {z:Int},0≤z→(∀(k:Nat)(x:Int×Int×Int)(a:Int),l[k]? = some x→p[k]? = some a→a≤LM x.2.2)→∀(k:Nat)(x:Int×Int×Int)(a:Int),l[k]? = some x→(r2 z (l.zip p))[k]? = some a→a≤LM x.2.2
 | [],_,_,_,_,k,x,a,h,_=>by simp at h
 | _::_,[],_,_,_,k,x,a,_,h=>by simp[r2]at h
 | x0::l,b::p,z,hz,hp,k,x,a,h1,h2=>by
  have hs:=Av (x0,b) hz;have hb:=hp 0 x0 b rfl rfl
  cases k with
  | zero=>
   simp only[PW,NJ]at h1;subst h1;have h2:some (b+sp2 (x0,b) z)=some a:=h2;cases h2;unfold sp2;dsimp only;unfold Mj imax
   repeat' split
   all_goals omega
  | succ k=>
   exact CU (by omega) (λk y c e1 e2=>hp (k+1) y c e1 e2) k x a (by simpa using h1) h2
theorem Cs:∀{l:List (Int×Int×Int)} {z:Int},∀(k:Nat)(x:Int×Int×Int)(a:Int),l[k]? = some x→(r1 z l)[k]? = some a→a≤LM x.2.2
 | [],_,k,x,a,h,_=>by simp at h
 | x0::l,z,k,x,a,h1,h2=>by
  cases k with
  | zero=>
   simp only[PW,NJ]at h1;subst h1;have h2:some (sp1 x0 z)=some a:=h2;cases h2;have hc:=oz x0;rw[m_];unfold Mj
   split<;>omega
  | succ k=>exact Cs k x a (by simpa using h1) h2
theorem Z_.most:∀{l m:List (Int×Int×Int)},Z_ l m→l.length=m.length∧∀(k:Nat)(x y:Int×Int×Int),l[k]? = some x→m[k]? = some y→x.2.2=y.2.2
 | [],[],_=>⟨rfl,λk x y h=>by simp at h⟩
 | x::l,y::m,h=>by
  obtain⟨h1,h2⟩:=Z_.most h.2
  refine⟨by simp[h1],λk a b ha hb=>?_⟩
  cases k with
  | zero=>simp only[PW,NJ]at ha hb;subst ha hb;exact h.1.2.1
  | succ k=>exact h2 k a b (by simpa using ha) (by simpa using hb)
 | [],_::_,h=>h.elim
 | _::_,[],h=>h.elim
theorem Er{l m:List (Int×Int×Int)}(hl:Z_ l m){z w:Int}(h:TJ m≤LM w):Ge m (eg z l) (eg w m):=by
 have b1:=bD z;rw[uv,uv];obtain⟨g1,g2⟩:=Ef h;rw[g1];obtain⟨hlen,hm⟩:=hl.most;refine xL g2 ?_ ?_
 ·rw[EE,QeL,zi];omega
 ·intro k x a h1 h2;have hk:k<m.length:=(K_.1 h1).1
  have hkl:k<l.length:=by omega
  have h3:=CU (wa l b1.1).1 (λk x a=>Cs (l:=l) (z:=LM z) k x a) k l[k] a (K9 hkl) h2;rw[hm k l[k] x (K9 hkl) h1]at h3;exact h3
theorem nB:∀l:List Vec,(Oh l).Mem=(l.map (·.Mem)).sum
 | []=>rfl
 | v::l=>by rw[mo,M9,R8,← nB l];rfl
theorem IP:∀(n:Nat)(p:Str),p.length≤n→∀x∈Ob p,x.count 46≤p.count 46
 | n,p,hn,x,hx=>by
  by_cases hp:p = []
  ·subst hp;simp[gH]at hx
  ·rw[dm hp]at hx;rcases Nz.1 hx with rfl | hx
   ·exact MN _
   ·by_cases ha:aF p = []
    ·rw[ha,gH]at hx;cases hx
    ·have h1:=dQ (x:=p) ha rfl;have h2:=Aj hx
     match n with
     | 0=>exact absurd (QdL.1 (by omega)) hp
     | n+1=>
      have h3:=IP n (aF p) (by have:=cN hp;omega) x hx
      omega
theorem B8:∀(n:Nat)(p:Str),p.length≤n→∀x∈Ob p,∀y∈Ob p,x.count 46=y.count 46→x=y
 | n,p,hn,x,hx,y,hy,e=>by
  by_cases hp:p = []
  ·subst hp;simp[gH]at hx
  ·rw[dm hp]at hx hy;by_cases ha:aF p = []
   ·rw[ha,gH]at hx hy;simp only[Nz,QeT,or_false]at hx hy;rw[hx,hy]
   ·have h1:=dQ (x:=p) ha rfl;have h2:=λz (hz:z∈Ob (aF p))=>IP _ (aF p) (MN _) z hz;rcases Nz.1 hx with rfl | hx
    ·rcases Nz.1 hy with rfl | hy
     ·rfl
     ·have:=h2 y hy;omega
    ·rcases Nz.1 hy with rfl | hy
     ·have:=h2 x hx;omega
     ·match n with
      | 0=>exact absurd (QdL.1 (by omega)) hp
      | n+1=>exact B8 n (aF p) (by have:=cN hp;omega) x hx y hy e
theorem zG:∀(n:Nat)(p:Str),p.length≤n→∀x∈Ob p,∀z∈Ob x,z∈Ob p
 | n,p,hn,x,hx,z,hz=>by
  by_cases hp:p = []
  ·subst hp;simp[gH]at hx
  ·rw[dm hp]at hx ⊢;rcases Nz.1 hx with rfl | hx
   ·rw[dm hp]at hz;exact hz
   ·match n with
    | 0=>exact absurd (QdL.1 (by omega)) hp
    | n+1=>exact Uh _ (zG n (aF p) (by have:=cN hp;omega) x hx z hz)
theorem xd(f g:Str→Int):∀l:List Str,(l.map λx=>f x+g x).sum=(l.map f).sum+(l.map g).sum
 | []=>rfl
 | x::l=>by rw[M9,R8,xd f g l,M9,R8,M9,R8];omega
theorem yV(b:Str→Bool)(v:Int):∀l:List Str,(l.map λx=>if b x=true then v else 0).sum=v*((l.filter b).length:Int)
 | []=>by simp
 | x::l=>by
  rw[M9,R8,yV b v l,UE];split
  ·rw[PN,Int.natCast_add,Int.mul_add];simp;omega
  ·simp
theorem vq{α : Type}(f:α→Int)(b:Str→α→Bool)(kids:List Str)(p:Str):∀l:List α,(∀c∈l,0≤f c)→(∀c∈l,∀x∈kids,b x c=true→b p c=true)→(∀c∈l,(kids.filter λx=>b x c).length≤1)→
  (kids.map λx=>((l.filter (b x)).map f).sum).sum≤((l.filter (b p)).map f).sum
 | [],_,_,_=>by
  have:∀l:List Str,(l.map λx=>((([]:List α).filter (b x)).map f).sum).sum=0:=by
   intro l
   induction l with
   | nil=>rfl
   | cons x l ih=>rw[M9,R8,ih];rfl
  rw[this kids];simp
 | c::l,h0,h1,h2=>by
  have ih:=vq f b kids p l (λd hd=>h0 d (by simp[hd])) (λd hd=>h1 d (by simp[hd])) (λd hd=>h2 d (by simp[hd]))
  have e:∀x,(((c::l).filter (b x)).map f).sum=(if b x c=true then f c else 0)+((l.filter (b x)).map f).sum:=by
   intro x;rw[UE];split
   ·rw[M9,R8]
   ·omega
  have e2:(kids.map λx=>(((c::l).filter (b x)).map f).sum)=kids.map λx=>(if b x c=true then f c else 0)+((l.filter (b x)).map f).sum:=YC λx _=>e x
  rw[e2,xd,yV (λx=>b x c),e p]
  have hf:=h0 c (by simp)
  have hn:=h2 c (by simp)
  by_cases hk:(kids.filter λx=>b x c).length=0
  ·rw[hk]
   split<;>omega
  ·have hk1:(kids.filter λx=>b x c).length=1:=by omega
   obtain⟨x,hx⟩:=List.exists_mem_of_length_pos (l:=kids.filter λx=>b x c) (by omega)
   obtain⟨hx1,hx2⟩:=PL.1 hx
   rw[hk1,if_pos (h1 c (by simp) x hx1 hx2)]
   omega
section
variable{N:Nat}{s:JF}
theorem zj(h:Inv N s)(Ld q:Str):((LP s.Lf Ld).filter λx=>ba q x).length≤1:=by
 have hr:=xF h.cf Ld;have hp:((LP s.Lf Ld).filter λx=>ba q x).Pairwise λx y=>Op.bytesLess x y=true:=hr.sublist Wh;generalize hl:(LP s.Lf Ld).filter (λx=>ba q x)=l at hp
 match l with
 | []=>simp
 | [x]=>simp
 | x::y::l=>
  have hx:x∈(LP s.Lf Ld).filter λx=>ba q x:=by rw[hl];simp
  have hy:y∈(LP s.Lf Ld).filter λx=>ba q x:=by rw[hl];simp
  obtain⟨x1,x2⟩:=PL.1 hx;obtain⟨y1,y2⟩:=PL.1 hy
  have hne:=(SV.1 hp).1 y (by simp)
  have hcx:=(pB h x1).2.1;have hcy:=(pB h y1).2.1;unfold ba at x2 y2
  have:=B8 _ q (MN _) x (Yp.1 x2) y (Yp.1 y2) (by omega)
  rw[this,pu]at hne;cases hne
theorem xR(h:Inv N s){Ld x q:Str}(hx:x∈LP s.Lf Ld)(hb:ba q x=true):ba q Ld=true:=by
 obtain⟨hp,qq,_,_,ha⟩:=dK hx;unfold ba at hb ⊢;have hxq:=Yp.1 hb
 have hxn:x≠[]:=by
  rintro rfl;have:aF []=Ld:=ha
  exact hp (by rw[← this];rfl)
 refine Yp.2 (zG _ q (MN _) x hxq Ld ?_);rw[dm hxn,ha,dm hp];simp
theorem EU(h:Inv N s)(label:Int)(Ld:Str):((LP s.Lf Ld).map (cR s label)).sum≤cR s label Ld:=by
 have hu:∀x,(Ms s x label true 0).Mem=((s.Lc.filter (OC s x label true 0)).map (·.LV.Mem)).sum:=λx=>by unfold Ms;rw[nB,Yy];rfl
 have hp:∀x,(bB s x label).Mem=((s.Lr.filter λa=>Mx a&&ba a.Lm x).map λa=>(ga a.Mr label).Mem).sum:=λx=>by unfold bB;rw[nB,Yy];rfl
 have e:(LP s.Lf Ld).map (cR s label)=(LP s.Lf Ld).map λx=>((s.Lc.filter (OC s x label true 0)).map (·.LV.Mem)).sum+((s.Lr.filter λa=>Mx a&&ba a.Lm x).map λa=>(ga a.Mr label).Mem).sum:=YC λx _=>by unfold cR;rw[hu,hp]
 rw[e,xd];unfold cR;rw[hu,hp]
 have k1:=vq (λc:Lv=>c.LV.Mem) (λx c=>OC s x label true 0 c) (LP s.Lf Ld) Ld s.Lc (λc hc=>by have:=(h.ck c hc).size.1;omega) (λc hc x hx hb=>by
  obtain⟨a,ha,e1,hat,_,_⟩:=lj h hc;unfold OC at hb ⊢;rw[hat]at hb ⊢;simp only[Option.elim,Bool.true_or,QgH,Np]at hb ⊢
  exact⟨hb.1,xR h hx hb.2⟩) (λc hc=>by
  obtain⟨a,ha,e1,hat,_,_⟩:=lj h hc;refine Rb ?_ (zj h Ld a.Lm);rw[← QeV,← QeV];refine List.countP_mono_left λx _ hx=>?_;unfold OC at hx;rw[hat]at hx;simp only[Option.elim,Bool.true_or,QgH,Np]at hx;exact hx.2)
 have k2:=vq (λa:LD=>(ga a.Mr label).Mem) (λx a=>Mx a&&ba a.Lm x) (LP s.Lf Ld) Ld s.Lr (λa ha=>by
  have hak:=h.ak a ha;unfold ga;rw[nB,Yy]
  have key:∀l:List Ask,(∀x∈l,NI s.Lf x)→0≤(l.map ((λv:Vec=>v.Mem) ∘ kU)).sum:=by
   intro l
   induction l with
   | nil=>simp
   | cons x l ih=>
    intro hl
    have h1:=ih λy hy=>hl y (by simp[hy])
    have h2:=((mn (hl x (by simp))).1).1
    rw[M9,R8];show 0≤(kU x).Mem+_;omega
  exact key _ λx hx=>hak.ask x (PL.1 hx).1) (λa ha x hx hb=>by
  simp only[Np]at hb ⊢
  exact⟨hb.1,xR h hx hb.2⟩) (λa ha=>by
  refine Rb ?_ (zj h Ld a.Lm);rw[← QeV,← QeV];refine List.countP_mono_left λx _ hx=>?_;simp only[Np]at hx;exact hx.2)
 exact Int.add_le_add k1 k2
end
theorem oL{n:Int}(h:0≤n)(h':n≤1125899906842624):LM n=n:=by
 unfold LM
 rw[if_neg (by omega)]
theorem Ge.get:∀{m:List (Int×Int×Int)} {p q:List Int},Ge m p q→∀(k:Nat)(x:Int×Int×Int)(a:Int),m[k]? = some x→p[k]? = some a→∃b,q[k]? = some b∧Mj a (LM x.2.1)≤b
 | [],p,q,h,k,x,a,h1,h2=>by simp at h1
 | x0::m,a0::p,b0::q,h,k,x,a,h1,h2=>by
  cases k with
  | zero=>simp only[PW,NJ]at h1 h2;subst h1;subst h2;exact⟨b0,rfl,h.1⟩
  | succ k=>exact Ge.get h.2 k x a (by simpa using h1) (by simpa using h2)
 | _::_,[],_,h,_,_,_,_,_=>h.elim
 | _::_,_::_,[],h,_,_,_,_,_=>h.elim
structure Wx(s t:JF):Prop where
 cf:t.Lf=s.Lf
 nd:t.Ls=s.Ls
 us:∀label x,(Ms t x label true 0).Mem≤(Ms s x label true 0).Mem
 wn:∀label x,cR t label x≤cR s label x
theorem Wx.refl(s:JF):Wx s s:=⟨rfl,rfl,λ_ _=>Uj _,λ_ _=>Uj _⟩
theorem Wx.trans{s t u:JF}(h:Wx s t)(k:Wx t u):Wx s u:=
 ⟨k.cf.trans h.cf,k.nd.trans h.nd,λl x=>QgR (k.us l x) (h.us l x),λl x=>QgR (k.wn l x) (h.wn l x)⟩
section
variable{N M:Nat}{s t:JF}
theorem Wx.down(h:Wx s t)(x:Str)(label:Int)(b:Bool):NC t x label b=NC s x label b:=by unfold NC Bh b7;rw[h.cf,h.nd]
theorem rW(h:Inv N s)(label:Int)(x:Str):0≤cR s label x∧cR s label x≤1125899906842624:=by have:=qd h label x;unfold cR;omega
theorem Wx.leW(h:Wx s t)(hs:Inv N s)(ht:Inv M t)(label:Int):∀l:List Str,Z_ (l.map (M0 s label)) (l.map (M0 t label))
 | []=>trivial
 | x::l=>by
  refine⟨⟨?_,?_,?_⟩,h.leW hs ht label l⟩
  ·show(NC s x label true).Mem=(NC t x label true).Mem;rw[h.down]
  ·show(NC s x label false).Mem=(NC t x label false).Mem;rw[h.down]
  ·show LM (cR t label x)≤LM (cR s label x);have a:=rW hs label x;have b:=rW ht label x;rw[oL a.1 a.2,oL b.1 b.2];exact h.wn label x
theorem Cy(ht:Inv M t)(label:Int):∀l:List Str,TJ (l.map (M0 t label))=(l.map (cR t label)).sum
 | []=>rfl
 | x::l=>by have b:=rW ht label x;show LM (cR t label x)+TJ _=_;rw[Cy ht label l,oL b.1 b.2,M9,R8]
theorem IR(h:Wx s t)(hs:Inv N s)(ht:Inv M t)(label:Int):∀(d:Nat)(Ld:Str)(m m':Int),0≤m→m≤1125899906842624→0≤m'→m'≤1125899906842624→Mj m (cR t label Ld)≤m'→
  ∀x∈pI d s Ld label m,∃y∈pI d t Ld label m',y.LC=x.LC∧Mj x.Mem (cR t label x.LC)≤y.Mem
 | 0,Ld,m,m',_,_,_,_,hm,x,hx=>by
  have:x=⟨Ld,m⟩:=by simpa[pI]using hx
  subst this
  exact⟨⟨Ld,m'⟩,by simp[pI],rfl,hm⟩
 | d+1,Ld,m,m',h0,h1,h2,h3,hm,x,hx=>by
  unfold pI at hx ⊢;rw[h.cf];split at hx
  ·have:x=⟨Ld,m⟩:=by simpa using hx
   subst this;rename_i hk;rw[if_pos hk]
   exact⟨⟨Ld,m'⟩,by simp,rfl,hm⟩
  ·rename_i hk;rw[if_neg hk];obtain⟨y0,hy0,hxy⟩:=QfL.1 hx;have hb:=vj s label m (LP s.Lf Ld) y0 hy0;have hg:=bD (M0 s label y0.1).2.1;obtain⟨k,hk1,e⟩:=Ul hy0
   have hkk:k<(LP s.Lf Ld).length:=by rw[oJ]at hk1;exact hk1
   rw[Xz]at e;subst e;dsimp only at hb hg hxy
   have hge:Ge ((LP s.Lf Ld).map (M0 t label)) (aT s label m (LP s.Lf Ld)) (aT t label m' (LP s.Lf Ld)):=by
    unfold aT;by_cases hc:m≤cR t label Ld
    ·refine EA (h.leW hs ht label _) ?_;rw[oL h0 h1,oL h2 h3];unfold Mj at hm
     split at hm<;>omega
    ·refine Er (h.leW hs ht label _) ?_;rw[oL h2 h3,Cy ht];have hkw:=EU ht label Ld;rw[h.cf]at hkw;unfold Mj at hm
     split at hm<;>omega
   obtain⟨b,hb1,hb2⟩:=hge.get k (M0 t label (LP s.Lf Ld)[k]) _ (by rw[Rf,K9 hkk];rfl) (K9 (by rw[li];exact hkk))
   have hwt:=rW ht label (LP s.Lf Ld)[k];have e2:(M0 t label (LP s.Lf Ld)[k]).2.1=cR t label (LP s.Lf Ld)[k]:=rfl;rw[e2,oL hwt.1 hwt.2]at hb2
   have hkb:k<(aT t label m' (LP s.Lf Ld)).length:=by rw[li];exact hkk
   have hbe:(aT t label m' (LP s.Lf Ld))[k]=b:=by rw[K9 hkb]at hb1;exact Option.some.inj hb1
   have hmem:((LP s.Lf Ld)[k],b)∈(LP s.Lf Ld).zip (aT t label m' (LP s.Lf Ld)):=by
    have hz:k<((LP s.Lf Ld).zip (aT t label m' (LP s.Lf Ld))).length:=by rw[oJ];exact hkk
    have:=NQ hz;rw[Xz,hbe]at this;exact this
   have hbt:=vj t label m' (LP s.Lf Ld) _ hmem;have hgt:=bD (M0 t label (LP s.Lf Ld)[k]).2.1;dsimp only at hbt
   obtain⟨y,hy,e1,e3⟩:=IR h hs ht label d _ _ b hb.1 (by omega) hbt.1 (by omega) hb2 x hxy
   exact⟨y,QfL.2 ⟨_,hmem,hy⟩,e1,e3⟩
theorem Fl(h:Wx s t)(hs:Inv N s)(ht:Inv M t){label:Int}{p:Str}(hp:Nq s.Lf p=true){x y:MC}(hx:x∈MP s label)(ex:x.LC=p)(hy:y∈MP t label)(ey:y.LC=p)
  (ho:y.Mem<(Ms t p label true 0).Mem):x.Mem<(Ms s p label true 0).Mem:=by
 have htb:=nq hs.sb label;have hnl:=hs.nl
 have hT:0≤(b7 s label).Mem∧(b7 s label).Mem≤12*1073741824:=by unfold VB at htb;omega
 have hTe:b7 t label=b7 s label:=by unfold b7;rw[h.nd]
 have hx':x∈pI 3 s root label (b7 s label).Mem:=hx
 obtain⟨z,hz,e1,e2⟩:=IR h hs ht label 3 root _ (b7 s label).Mem hT.1 (by omega) hT.1 (by omega) (by unfold Mj;split<;>omega) x hx'
 have hz:z∈MP t label:=by show z∈pI 3 t root label (b7 t label).Mem;rw[hTe];exact hz
 have:z=y:=so ht hz hy (by rw[e1,ex,ey])
 subst this;rw[ex]at e2;have hu:=h.us label p;have hpn:=(qd ht label p).2;have hwm:cR t label p=(Ms t p label true 0).Mem+(bB t p label).Mem:=rfl;unfold Mj at e2
 split at e2<;>omega
end
theorem rU{α : Type}(f:α→Int){l m:List α}(h:l.Sublist m)(h0:∀c∈m,0≤f c):(l.map f).sum≤(m.map f).sum:=by
 induction h with
 | slnil=>exact Uj _
 | cons a h ih=>
  have:=ih λc hc=>h0 c (by simp[hc])
  have:=h0 a (by simp)
  rw[M9,R8];omega
 | cons_cons a h ih=>
  have:=ih λc hc=>h0 c (by simp[hc])
  rw[M9,R8,M9,R8];omega
theorem BW{α : Type}(f:α→Int)(p q:α→Bool){d:α}(hp:p d=true)(hq:q d=false):∀{l:List α},(∀c∈l,0≤f c)→d∈l→(((l.filter q).filter p).map f).sum+f d≤((l.filter p).map f).sum
 | y::l,h0,hd=>by
  rcases Nz.1 hd with rfl | hd
  ·rw[Z9 (p:=q) (by simp[hq]),QdW hp,M9,R8]
   have:=rU f ((Wh (p:=q) (l:=l)).filter p) λc hc=>h0 c (by simp[(PL.1 hc).1])
   omega
  ·have ih:=BW f p q hp hq (λc hc=>h0 c (by simp[hc])) hd
   have hy:=h0 y (by simp)
   rw[UE (p:=p) (x:=y) (xs:=l)];by_cases hqy:q y=true
   ·rw[QdW hqy,UE];split
    ·rw[M9,R8,M9,R8];omega
    ·exact ih
   ·rw[Z9 hqy];split
    ·rw[M9,R8];omega
    ·exact ih
theorem Ec{α : Type}(f:α→Int)(p:α→Bool):∀l:List α,((l.filter p).map f).sum=(l.map λx=>if p x=true then f x else 0).sum
 | []=>rfl
 | x::l=>by
  rw[UE,M9,R8,← Ec f p l];split
  ·rw[M9,R8]
  ·omega
theorem Cb{α : Type}(f:α→Int)(b:α):∀{l:List α}{k:Nat}(hk:k<l.length),((l.set k b).map f).sum=(l.map f).sum - f l[k]+f b
 | x::l,0,_=>by rw[QeW,M9,R8,M9,R8];show _=f x+_ - f x+f b;omega
 | x::l,k+1,hk=>by
  have hk':k<l.length:=by simpa using hk
  rw[QgP,M9,R8,M9,R8,Cb f b hk'];show _=f x+_ - f l[k]+f b;omega
section
variable{N M:Nat}{s t:JF}
def pG(label:Int)(x:Str)(a:LD):Int:=if(Mx a&&ba a.Lm x)=true then(ga a.Mr label).Mem else 0
theorem rX(s:JF)(label:Int)(x:Str):(bB s x label).Mem=(s.Lr.map (pG label x)).sum:=by unfold bB;rw[nB,Yy,Ec];rfl
theorem aiA(h:Inv N s){a:LD}(ha:a∈s.Lr)(label:Int)(x:Str):0≤pG label x a:=by
 unfold pG;split
 ·have hak:=h.ak a ha;unfold ga;rw[nB,Yy]
  have key:∀l:List Ask,(∀x∈l,NI s.Lf x)→0≤(l.map ((λv:Vec=>v.Mem) ∘ kU)).sum:=by
   intro l
   induction l with
   | nil=>simp
   | cons x l ih=>
    intro hl
    have h1:=ih λy hy=>hl y (by simp[hy])
    have h2:=((mn (hl x (by simp))).1).1
    rw[M9,R8];show 0≤(kU x).Mem+_;omega
  exact key _ λx hx=>hak.ask x (PL.1 hx).1
 ·exact Uj _
theorem AY(h:Inv N s){a b:LD}(ha:a∈s.Lr)(hb:b.Id=a.Id)(label:Int)(x:Str):((NR (·.Id) s.Lr b).map (pG label x)).sum=(s.Lr.map (pG label x)).sum - pG label x a+pG label x b:=by obtain⟨k,hk,rfl⟩:=Ul ha;rw[← uk (id:=λx:LD=>x.Id) h.Px hk hb.symm,Cb]
theorem mh(s:JF)(label:Int)(x:Str):(Ms s x label true 0).Mem=((s.Lc.filter (OC s x label true 0)).map (·.LV.Mem)).sum:=by unfold Ms;rw[nB,Yy];rfl
theorem zN(h:Inv N s)(ht:Inv M t)(hap:∀a∈s.Lr,∃b∈t.Lr,b.Id=a.Id∧b.Lm=a.Lm){c:Lv}(hc:c∈s.Lc)(x:Str)(label:Int):OC t x label true 0 c=OC s x label true 0 c:=by obtain⟨a,ha,e1,hat,_⟩:=lj h hc;obtain⟨b,hb,e2,e3⟩:=hap a ha;unfold OC;rw[hat,← e1,← e2,ht.MV hb];show(c.Ll == label&&ba b.Lm x&&_)=(c.Ll == label&&ba a.Lm x&&_);rw[e3];rfl
theorem wK(h:Inv N s){a b:LD}(ha:a∈s.Lr)(hb:b.Id=a.Id)(hq:b.Lm=a.Lm){P:LD→LD→Prop}(hP:P a b)(hr:∀a,P a a):∀a'∈s.Lr,∃b'∈NR (·.Id) s.Lr b,b'.Id=a'.Id∧b'.Lm=a'.Lm∧P a' b':=by
 intro a' ha';by_cases e:a'.Id=a.Id
 ·have:a'=a:=h.TU ha' ha e;subst this;exact⟨b,(aJ h.Px).2 (.inl rfl),hb,hq,hP⟩
 ·exact⟨a',(aJ h.Px).2 (.inr ⟨ha',by omega⟩),rfl,rfl,hr _⟩
def StD(a b:LD):Prop:=b.JF=a.JF∨(a.JF=2∧b.JF=1)
theorem AO(h:Inv N s):∀c∈s.Lc,0≤c.LV.Mem:=λc hc=>by have:=(h.ck c hc).size.1;omega
theorem I9(h:Inv N s){i:Int}{a:LD}(ha:a∈s.Lr)(ht:Inv M (NA (RN s i) (Oz a i))):Wx s (NA (RN s i) (Oz a i)):=by
 have hap:∀a'∈s.Lr,∃b'∈NR (·.Id) s.Lr (Oz a i),b'.Id=a'.Id∧b'.Lm=a'.Lm:=λa' ha'=>by obtain⟨b,hb,e1,e2,_⟩:=wK h ha (b:=Oz a i) rfl rfl (P:=λ_ _=>True) trivial (λ_=>trivial) a' ha';exact⟨b,hb,e1,e2⟩
 have hu:∀label x,(Ms (NA (RN s i) (Oz a i)) x label true 0).Mem≤(Ms s x label true 0).Mem:=λlabel x=>by
  rw[mh,mh]
  have e:(NA (RN s i) (Oz a i)).Lc.filter (OC (NA (RN s i) (Oz a i)) x label true 0)=(s.Lc.filter λc=>c.Id != i).filter (OC s x label true 0):=
   QfB λc hc=>zN h ht hap (PL.1 hc).1 x label
  rw[e];exact rU _ (Wh.filter _) λc hc=>AO h c (PL.1 hc).1
 refine⟨rfl,rfl,hu,λlabel x=>?_⟩
 have e:(bB (NA (RN s i) (Oz a i)) x label).Mem=(bB s x label).Mem:=by rw[rX,rX];show((NR (·.Id) s.Lr (Oz a i)).map (pG label x)).sum=_;rw[AY h ha (b:=Oz a i) rfl];have:pG label x (Oz a i)=pG label x a:=rfl;omega
 have:=hu label x;unfold cR;omega
theorem KG(h:Inv N s){d:Lv}(hd:d∈s.Lc)(hm:d.Lj=true){a:LD}(ha:a∈s.Lr)(hid:a.Id=d.LD)(ht:Inv M (P9 (NA s (Oo s a)) a.Id)):Wx s (P9 (NA s (Oo s a)) a.Id):=by
 obtain⟨a',ha',e1,hst⟩:=(h.ck d hd).app
 have:a'=a:=h.TU ha' ha (by omega)
 subst this;obtain⟨hl,hsz⟩:=(h.ck d hd).R6 hm;have hsz:=hsz a' ha hid
 have hap:∀a''∈s.Lr,∃b'∈NR (·.Id) s.Lr (Oo s a'),b'.Id=a''.Id∧b'.Lm=a''.Lm:=λa'' apk=>by obtain⟨b,hb,e1,e2,_⟩:=wK h ha (b:=Oo s a') rfl rfl (P:=λ_ _=>True) trivial (λ_=>trivial) a'' apk;exact⟨b,hb,e1,e2⟩
 have hf:∀label x,(P9 (NA s (Oo s a')) a'.Id).Lc.filter (OC (P9 (NA s (Oo s a')) a'.Id) x label true 0)=(s.Lc.filter λc=>!(c.LD == a'.Id)).filter (OC s x label true 0):=λlabel x=>
  QfB λc hc=>zN h ht hap (PL.1 hc).1 x label
 have hu:∀label x,(Ms (P9 (NA s (Oo s a')) a'.Id) x label true 0).Mem≤(Ms s x label true 0).Mem:=λlabel x=>by rw[mh,mh,hf];exact rU _ (Wh.filter _) λc hc=>AO h c (PL.1 hc).1
 refine⟨rfl,rfl,hu,λlabel x=>?_⟩
 have e:(bB (P9 (NA s (Oo s a')) a'.Id) x label).Mem=(bB s x label).Mem - pG label x a'+pG label x (Oo s a'):=by rw[rX,rX];exact AY h ha (b:=Oo s a') rfl label x
 have h0:=aiA h ha label x;have hux:=hu label x;unfold cR;by_cases hb:ba a'.Lm x=true∧label=0
 ·have hg:pG label x (Oo s a')=a'.Lj.Mem:=by
   unfold pG
   rw[if_pos (by show(true&&ba a'.Lm x)=true;rw[hb.1];rfl),hb.2]
   show a'.Lj.Mem*1+0=_;omega
  have ho:=BW (λc:Lv=>c.LV.Mem) (OC s x label true 0) (λc=>!(c.LD == a'.Id)) (d:=d) (l:=s.Lc) (by
   unfold OC;rw[← hid,h.MV ha];show(d.Ll == label&&ba a'.Lm x&&_)=true;rw[hb.1,hl,hb.2]
   rfl) (by simp[hid]) (AO h) hd
  rw[← hf,← mh,← mh]at ho;omega
 ·have hg:pG label x (Oo s a')=0:=by
   unfold pG;split
   ·rename_i hc;have hc:(true&&ba a'.Lm x)=true:=hc
    have hln:label≠0:=λe=>hb ⟨by simpa using hc,e⟩
    show(ga [dY a'] label).Mem=0;unfold ga
    rw[Z9 (by show¬ ((0:Int) == label)=true;simp;omega)]
    rfl
   ·rfl
  omega
end
theorem Ez{τ σ : Type}{step:τ→Option (τ ⊕ σ)}{t t':τ}(h:step t=some (.inl t')):loop step t=loop step t':=by rw[aX,h]
theorem i7{k:Nat}(h:k<1000000000):Lx ((k:Int)+1)=((k+1:Nat):Int):=dI h
theorem qE{ρ : Type}(step:Int→Option (Int ⊕ ρ))(n:Nat)(fin:ρ)(h1:∀k:Nat,k<n→step k=some (.inl ((k+1:Nat):Int)))(h2:step (n:Int)=some (.inr fin)):loop step 0=some fin:=by
 rcases Ix step n (λ_=>true) (λ_=>fin) fin (λk hk=>by rw[h1 k hk];rfl) h2 with⟨_,b⟩ | ⟨i,_,h,_⟩
 ·exact b
 ·cases h
theorem qQ{l:List Int}(h:l.length≤1000000):cE l l=some true:=by
 unfold cE
 rw[qE (gA l l) l.length (.inr ()) (by
  intro k hk;unfold gA
  rw[decide_eq_true (by omega),mT hk,i7 (by omega)]
  simp only[cond_true,K8,bne_self_eq_false,cond_false]) (by
  unfold gA
  rw[decide_eq_false (by omega)]
  rfl)]
 simp
theorem H9{a:LD}(h:WR a):kx a a=some true:=by
 have hl:=h.asks;unfold kx
 rw[qE (ir a a) a.Mr.length (.inr ()) (by
  intro k hk;unfold ir
  rw[decide_eq_true (by omega),mT hk,i7 (by omega)]
  simp only[cond_true,K8,beq_self_eq_true,Bool.and_self,PZ,cond_false]) (by
  unfold ir
  rw[decide_eq_false (by omega)]
  rfl)]
 simp only[bne_self_eq_false,beq_self_eq_true,PZ,cond_false,Bool.and_self,K8];rw[qQ h.grants,qQ h.kills,qQ h.told,qQ h.lost];rfl
theorem FD{c:Lf}(h1:c.Lp.length≤1000)(h2:c.Lg.length≤1000)(h3:∀q∈c.Lg,q.MR.length≤1000):kK c c=some true:=by
 unfold kK
 rw[qE (il c c) c.Lp.length (.inr ()) (by
  intro k hk;unfold il
  rw[decide_eq_true (by omega),mT hk,i7 (by omega)]
  simp only[cond_true,K8,beq_self_eq_true,PZ,cond_false]) (by
  unfold il
  rw[decide_eq_false (by omega)]
  rfl)]
 rw[qE (ie c c) c.Lg.length (.inr ()) (by
  intro k hk;have hc:=h3 _ (NQ hk);unfold ie
  rw[decide_eq_true (by omega),mT hk,i7 (by omega)]
  simp only[cond_true,K8,beq_self_eq_true,bne_self_eq_false,PZ,cond_false]
  rw[qE (iD c.Lg[k] c.Lg[k]) c.Lg[k].MR.length (.inr ()) (by
   intro j hj;unfold iD
   rw[decide_eq_true (by omega),mT hj,i7 (by omega)]
   simp only[cond_true,K8,beq_self_eq_true,Bool.and_self,PZ,cond_false]) (by
   unfold iD
   rw[decide_eq_false (by omega)]
   rfl)]
  rfl) (by
  unfold ie
  rw[decide_eq_false (by omega)]
  rfl)]
 simp
theorem Fd{s:JF}(h:Small s):jL s s=some true:=by
 have hn:=h.nodes;have ha:=h.apps;have hc:=h.V4;have hs:=h.slots;have hp:=h.plans;unfold jL;rw[FD h.labels h.queues h.caps];simp only[K8,PZ,bne_self_eq_false,cond_false]
 obtain⟨b1,e1,rfl⟩:=nx (λ(v:Bool) k=>(v,k)) (gE s s) s.Ls.length (λ_ v=>v=true) (λv=>v) (by
  rintro k hk v rfl;refine⟨true,?_,rfl⟩;unfold gE
  rw[decide_eq_true (by dsimp only;omega),i7 (by omega)]
  dsimp only;rw[mT hk]
  simp) (by
  rintro v rfl;unfold gE
  rw[decide_eq_false (by dsimp only;omega)]
  rfl) (s:=true) rfl
 rw[e1];simp only[K8]
 obtain⟨b2,e2,rfl⟩:=nx (λ(v:Bool) k=>(v,k)) (gv s s) s.Lr.length (λ_ v=>v=true) (λv=>v) (by
  rintro k hk v rfl;refine⟨true,?_,rfl⟩;unfold gv
  rw[decide_eq_true (by dsimp only;omega),i7 (by omega)]
  dsimp only;rw[mT hk];simp only[cond_true,K8];rw[H9 (h.app _ (NQ hk))]
  rfl) (by
  rintro v rfl;unfold gv
  rw[decide_eq_false (by dsimp only;omega)]
  rfl) (s:=true) rfl
 rw[e2];simp only[K8]
 obtain⟨b3,e3,rfl⟩:=nx (λ(v:Bool) k=>(v,k)) (gm s s) s.Lc.length (λ_ v=>v=true) (λv=>v) (by
  rintro k hk v rfl;refine⟨true,?_,rfl⟩;unfold gm
  rw[decide_eq_true (by dsimp only;omega),i7 (by omega)]
  dsimp only;rw[mT hk]
  simp) (by
  rintro v rfl;unfold gm
  rw[decide_eq_false (by dsimp only;omega)]
  rfl) (s:=true) rfl
 rw[e3];simp only[K8]
 obtain⟨b4,e4,rfl⟩:=nx (λ(v:Bool) k=>(v,k)) (gk s s) s.LG.length (λ_ v=>v=true) (λv=>v) (by
  rintro k hk v rfl;refine⟨true,?_,rfl⟩;unfold gk
  rw[decide_eq_true (by dsimp only;omega),i7 (by omega)]
  dsimp only;rw[mT hk]
  simp) (by
  rintro v rfl;unfold gk
  rw[decide_eq_false (by dsimp only;omega)]
  rfl) (s:=true) rfl
 rw[e4];simp only[K8]
 obtain⟨b5,e5,rfl⟩:=nx (λ(v:Bool) k=>(v,k)) (gK s s) s.LU.length (λ_ v=>v=true) (λv=>v) (by
  rintro k hk v rfl;refine⟨true,?_,rfl⟩;unfold gK
  rw[decide_eq_true (by dsimp only;omega),i7 (by omega)]
  dsimp only;rw[mT hk]
  simp) (by
  rintro v rfl;unfold gK
  rw[decide_eq_false (by dsimp only;omega)]
  rfl) (s:=true) rfl
 rw[e5];rfl
def Gn(s t:JF)(c:Lv):Prop:=
 (∃a∈s.Lr,a.Id=c.LD∧∀x∈MP s c.Ll,x.LC=a.Lm→x.Mem<(Ms s a.Lm c.Ll true 0).Mem)∨∃a∈s.Lr,∃b∈t.Lr,a.Id=c.LD∧b.Id=c.LD∧a.JF=2∧b.JF=1
structure Rl(s t:JF):Prop where
 le:Wx s t
 ct:∀d∈t.Lc,∃c∈s.Lc,c.Id=d.Id∧c.LD=d.LD∧c.Ll=d.Ll
 ap:∀a∈s.Lr,∃b∈t.Lr,b.Id=a.Id∧b.Lm=a.Lm∧StD a b
 gn:∀c∈s.Lc,(∀d∈t.Lc,d.Id≠c.Id)→Gn s t c
 nil:s.Lc = []→t=s
theorem Rl.refl(s:JF):Rl s s:=⟨.refl s,λd hd=>⟨d,hd,rfl,rfl,rfl⟩,λa ha=>⟨a,ha,rfl,rfl,.inl rfl⟩,λc hc h=>absurd rfl (h c hc),λ_=>rfl⟩
section
variable{N M:Nat}{s t u:JF}
theorem Rl.trans(hs:Inv N s)(ht:Inv M t)(h:Rl s t)(k:Rl t u):Rl s u:=by
 refine⟨h.le.trans k.le,λd hd=>?_,λa ha=>?_,λc hc hg=>?_,λh0=>?_⟩
 ·obtain⟨c,hc,e1,e2,e3⟩:=k.ct d hd;obtain⟨c',hc',f1,f2,f3⟩:=h.ct c hc;exact⟨c',hc',f1.trans e1,f2.trans e2,f3.trans e3⟩
 ·obtain⟨b,hb,e1,e2,e3⟩:=h.ap a ha;obtain⟨b',hb',f1,f2,f3⟩:=k.ap b hb;refine⟨b',hb',f1.trans e1,f2.trans e2,?_⟩;unfold StD at e3 f3 ⊢;omega
 ·by_cases hd:∃d∈t.Lc,d.Id=c.Id
  ·obtain⟨d,hd,ed⟩:=hd;obtain⟨c',hc',f1,f2,f3⟩:=h.ct d hd
   have:c'=c:=eL (id:=λx:Lv=>x.Id) hs.cs hc' hc (by omega)
   subst this
   rcases k.gn d hd λe he=>by rw[ed];exact hg e he with⟨b,hb,e1,e2⟩ | ⟨a,ha,b,hb,e1,e2,e3,e4⟩
   ·obtain⟨a,ha,g1,_,_,hpl⟩:=lj hs hc;obtain⟨b',hb',g2,g3,_⟩:=h.ap a ha
    have:b'=b:=ht.TU hb' hb (by omega)
    subst this
    obtain⟨y,hy,ey⟩:=qP ht c'.Ll (p:=a.Lm) (by rw[h.le.cf];exact hpl)
    refine .inl ⟨a,ha,g1,λx hx ex=>Fl h.le hs ht hpl hx ex hy ey ?_⟩;rw[f3,← g3]
    exact e2 y (by rw[← f3];exact hy) (by rw[g3];exact ey)
   ·obtain⟨a',ha',g1,g2⟩:=(hs.ck c' hc).app;exact .inr ⟨a',ha',b,hb,g1,e2.trans f2.symm,g2,e4⟩
  ·rcases h.gn c hc λd hd' e=>hd ⟨d,hd',e⟩with hl | ⟨a,ha,b,hb,e1,e2,e3,e4⟩
   ·exact .inl hl
   ·obtain⟨b',hb',f1,_,f3⟩:=k.ap b hb;unfold StD at f3
    exact .inr ⟨a,ha,b',hb',e1,by omega,e3,by omega⟩
 ·have:=h.nil h0;subst this;exact k.nil h0
theorem BV(h:Inv N s)(i tm:Int):Rl s (Rt s i tm):=by
 have hf:∀c,(NG i tm c).Id=c.Id∧(NG i tm c).LD=c.LD∧(NG i tm c).Ll=c.Ll∧(NG i tm c).LV.Mem=c.LV.Mem:=λc=>by
  unfold NG
  split<;>exact⟨rfl,rfl,rfl,rfl⟩
 have hu:∀label x,(Ms (Rt s i tm) x label true 0).Mem=(Ms s x label true 0).Mem:=λlabel x=>by
  rw[mh,mh];show(((s.Lc.map (NG i tm)).filter (OC s x label true 0)).map (·.LV.Mem)).sum=_;rw[List.filter_map,Yy]
  have e1:s.Lc.filter ((OC s x label true 0) ∘ NG i tm)=s.Lc.filter (OC s x label true 0):=QfB λc _=>by show OC s x label true 0 (NG i tm c)=_;unfold OC;rw[(hf c).2.1,(hf c).2.2.1]
  rw[e1];exact congrArg List.sum (YC λc _=>(hf c).2.2.2)
 refine⟨⟨rfl,rfl,λlabel x=>Int.le_of_eq (hu label x),λlabel x=>?_⟩,λd hd=>?_,λa ha=>⟨a,ha,rfl,rfl,.inl rfl⟩,λc hc hg=>?_,λh0=>?_⟩
 ·unfold cR;rw[hu];exact Uj _
 ·obtain⟨c,hc,rfl⟩:=Ra.1 hd;exact⟨c,hc,(hf c).1.symm,(hf c).2.1.symm,(hf c).2.2.1.symm⟩
 ·exact absurd (hf c).1 (hg _ (QdX hc))
 ·unfold Rt;rw[h0];show(⟨s.Lf,s.Ls,s.Lr,[],s.LG,s.LU,s.Now,s.L9,s.Seq⟩:JF)=s;rw[← h0]
theorem Kp(h:Inv N s)(hN:N<1000000){d:Lv}(hd:d∈s.Lc)(ho:∀x∈MP s d.Ll,x.LC=kT s d→x.Mem<(Ms s (kT s d) d.Ll true 0).Mem):Rl s (Od s d.Id):=by
 obtain⟨a,ha,e1,hat,hlf,hpl⟩:=lj h hd;have hinv:=(vf h hN d.Id).1;have hcd:bJ s d.Id=some d:=oW (id:=λx:Lv=>x.Id) h.cs hd
 have hst:a.JF=2:=by
  obtain⟨a',ha',g1,g2⟩:=(h.ck d hd).app
  have:a'=a:=h.TU ha' ha (by omega)
  subst this;exact g2
 have he:Od s d.Id=if d.Lj=true then P9 (NA s (Oo s a)) a.Id else NA (RN s d.Id) (Oz a d.Id):=by unfold Od;rw[hcd];dsimp only;rw[hat]
 rw[he]at hinv ⊢;by_cases hm:d.Lj=true
 ·rw[if_pos hm]at hinv ⊢
  refine⟨KG h hd hm ha e1 hinv,λe he=>?_,?_,λc hc hg=>?_,λh0=>by rw[h0]at hd;cases hd⟩
  ·exact⟨e,(PL.1 he).1,rfl,rfl,rfl⟩
  ·exact wK h ha (b:=Oo s a) rfl rfl (P:=StD) (.inr ⟨hst,rfl⟩) λ_=>.inl rfl
  ·have hca:c.LD=a.Id:=by
    refine Classical.byContradiction λhne=>hg c (PL.2 ⟨hc,by simp[hne]⟩) rfl
   exact .inr ⟨a,ha,Oo s a,(aJ h.Px).2 (.inl rfl),hca.symm,hca.symm,hst,rfl⟩
 ·rw[if_neg hm]at hinv ⊢
  refine⟨I9 h ha hinv,λe he=>?_,?_,λc hc hg=>?_,λh0=>by rw[h0]at hd;cases hd⟩
  ·exact⟨e,(PL.1 he).1,rfl,rfl,rfl⟩
  ·exact wK h ha (b:=Oz a d.Id) rfl rfl (P:=StD) (.inl rfl) λ_=>.inl rfl
  ·have hcd:c.Id=d.Id:=by
    refine Classical.byContradiction λhne=>hg c (PL.2 ⟨hc,by simp[hne]⟩) rfl
   have:c=d:=eL (id:=λx:Lv=>x.Id) h.cs hc hd hcd;subst this;rw[hlf]at ho;exact .inl ⟨a,ha,e1,ho⟩
theorem I2(h:Inv N s)(hN:N<1000000)(c:Lv):Gv (OT s c) λt=>Inv (N+1) t∧Rl s t:=by
 obtain⟨t,et,ht,_⟩:=yz h hN c;refine⟨t,et,ht,?_⟩;unfold OT at et
 cases hc:bJ s c.Id with
 | none=>rw[hc]at et;cases et;exact .refl s
 | some d=>
  obtain⟨U1,hdi⟩:=iH hc
  obtain⟨b,e,hb⟩:=qK h (by omega) U1
  rw[hc]at et;dsimp only at et;rw[e,K8]at et
  cases b with
  | false=>
   cases et;exact BV h _ _
  | true=>
   cases et;refine Kp h hN U1 λx hx ex=>?_
   have h1:=hb x hx ex;unfold aak at h1;have h2:=of_decide_eq_true h1.symm;have h3:=(EP h d).1;omega
theorem Ax:∀(l:List Lv){N:Nat}{s:JF},Inv N s→N+l.length<1000000→Gv (lM s l) λt=>Inv (N+l.length) t∧Rl s t
 | [],N,s,h,_=>aa ⟨h,.refl s⟩
 | c::l,N,s,h,hN=>by
  rw[PN]at hN ⊢
  obtain⟨t,et,ht,hr⟩:=I2 h (by omega) c
  obtain⟨u,eu,hu,hr2⟩:=Ax l ht (by omega)
  refine⟨u,?_,hu.mono (by omega),hr.trans h ht hr2⟩
  show(OT s c).bind _=_;rw[et];exact eu
theorem J8(h:Inv N s)(hN:N+500<1000000)(label:Int):Gv (mC s label) λt=>Inv (N+200) t∧Rl s t:=by
 rw[Io h hN,Cl h hN];have h3:=(uM h label).2.2
 exact mH (Ax (O8 s label) h (by omega)) λt ht=>⟨ht.1.mono (by omega),ht.2⟩
def Ay(s:JF)(l:List Int):JF:=l.foldl (λt i=>Rt t i (imax t.Now 1)) s
theorem Ie(s:JF)(i t:Int):(Rt s i t).Lc.map (·.Id)=s.Lc.map (·.Id):=by
 show(s.Lc.map (NG i t)).map (·.Id)=_;rw[Yy];refine YC λc _=>?_;show(NG i t c).Id=c.Id;unfold NG
 split<;>rfl
structure NK(s:JF)(N:Nat)(t:JF):Prop where
 inv:Inv N t
 rl:Rl s t
 ids:t.Lc.map (·.Id)=s.Lc.map (·.Id)
theorem NK.note{t:JF}(hs:Inv N s)(h:NK s N t)(i:Int):NK s N (Rt t i (imax t.Now 1)):=
 ⟨zB h.inv i _ ⟨by unfold imax;split<;>omega,Uj _⟩,h.rl.trans hs h.inv (BV h.inv _ _),(Ie t i _).trans h.ids⟩
theorem FN(h:Inv N s){l:List Int}(hl:l.length≤200)(hs:∀x∈l,∃c∈s.Lc,c.Id=x):loop (ji l) (s,0)=some (Ay s l)∧NK s N (Ay s l):=by
 refine cW (λ(t:JF) i=>(t,i)) l (λt i=>Rt t i (imax t.Now 1)) (λ_ t=>NK s N t) (λt=>t) (step:=ji l) (by omega) ?_ ?_ (s:=s) ⟨h,.refl s,rfl⟩
 ·intro k hk t ht;refine⟨?_,ht.note h _⟩;obtain⟨c,hc,hci⟩:=hs l[k] (NQ hk);unfold ji;dsimp only;rw[ah hk,cond_true,aC hk,K8,K9 hk,K8];rcases AH ht.inv l[k] (f:=λa'=>nR a'.1 l[k]) (λx=>rfl)with⟨j,hj,e1,e2,e3⟩ | ⟨e1,_⟩
  ·rw[e3,K8,aC hj,K8,K9 hj,K8];have hset:=xz (imax t.Now 1) ht.inv.cs hj;rw[e2]at hset;unfold Rt;rw[← hset];rfl
  ·have:l[k]∈t.Lc.map (·.Id):=by
    rw[ht.ids,← hci];exact QdX hc
   obtain⟨d,hd,hdi⟩:=Ra.1 this;have:=ZR.1 e1 d hd;simp[hdi]at this
 ·intro t _;unfold ji;dsimp only;rw[ar];rfl
theorem DX(h:Inv N s)(hN:N+2000<1000000):∃t,loop (jc s) (s,0)=some t∧Inv (N+600) t∧Rl s t:=by
 have hlb:=h.cf.lab
 have key:∀(m k:Nat),m+k=s.Lf.Lp.length→∀t:JF,Inv (N+200*k) t→Rl s t→∃u,loop (jc s) (t,(k:Int))=some u∧Inv (N+600) u∧Rl s u:=by
  intro m
  induction m with
  | zero=>
   intro k hk t ht hr
   have hk:k=s.Lf.Lp.length:=by omega
   exact⟨t,lv (by unfold jc;dsimp only;rw[hk,ar];rfl),ht.mono (by omega),hr⟩
  | succ m ih=>
   intro k hk t ht hr
   have hkl:k<s.Lf.Lp.length:=by omega
   obtain⟨x,ex,hx,hrx⟩:=J8 ht (by omega) (k:Int)
   have hr1:=hr.trans h ht hrx
   obtain⟨r,er,_,_,h3,h4⟩:=AA (label:=(k:Int)) hx (by omega) (by omega) (by rw[hr1.le.cf];omega)
   obtain⟨en,hn⟩:=FN hx h4 λi hi=>by obtain⟨c,hc,e,_⟩:=h3 i hi;exact⟨c,hc,e⟩
   rw[Ez (t':=(Ay x r,((k+1:Nat):Int))) (by
    unfold jc;dsimp only
    rw[ah hkl,cond_true,ex,K8,er,K8,en,K8,dI (by omega)])]
   exact ih (k+1) (by omega) _ (hn.inv.mono (by omega)) (hr1.trans h hx hn.rl)
 exact key s.Lf.Lp.length 0 (by omega) s h (.refl s)
end
theorem sortV{l:List Int}(h:l.length≤200)(hp:l.Pairwise λx y=>x<y):fy l=some l:=by
 unfold fy VL
 cases l with
 | nil=>rfl
 | cons x l=>
  show UK (x::l)=_;unfold UK
  rw[if_pos ⟨by simp,by omega⟩]
  congr 1
  refine List.mergeSort_of_pairwise ?_
  exact hp.imp λe=>by simp;omega
theorem ri{a n:Int}(h0:0<n)(h1:n≤4611686018427387904):Gv (cM a n) λx=>0≤x∧x<n:=by
 unfold cM
 have hn:nz n=some ():=by unfold nz;rw[if_pos (by omega)]
 rw[hn]
 have hm:Int.tmod a n=if 0≤a∨n ∣ a then a % n else a % n - n:=by
  rw[Int.tmod_eq_emod]
  split<;>simp[Int.natAbs_of_nonneg (Int.le_of_lt h0)]
 have e0:=Int.emod_nonneg a (show n≠0 by omega)
 have e1:=Int.emod_lt_of_pos a h0;simp only[K8,Bool.cond_eq_ite,decide_eq_true_eq];rw[hm];by_cases hc:0≤a∨n ∣ a
 ·rw[if_pos hc,if_neg (by omega)]
  exact aa ⟨e0,e1⟩
 ·rw[if_neg hc,if_pos (by omega),am (by omega) (by omega)]
  exact aa ⟨by omega,by omega⟩
section
variable{N:Nat}{s:JF}
theorem G0(h:Inv N s)(hN:N≤500000)(marks:List Int)(more:Int):Gv (jE s marks more) (Inv (N+10)):=by
 have hcl:=h.cl;have ade:=h.now;have hen:=h.en.2.1;unfold jE
 rw[kX (by omega) (by omega),K8]
 refine ad (P:=λl=>l.map strip=s.Lc.map strip∧∀c∈l,0≤c.ME∧c.ME≤s.Now+1) ?_ ?_
 ·refine gD (λt:List Lv×Int=>0≤t.2∧t.1.map strip=s.Lc.map strip∧∀c∈t.1,0≤c.ME∧c.ME≤s.Now+1) (λt=>(10 - t.2).toNat) ?_ ⟨Uj _,rfl,λc hc=>by
   have:=h.sd.Vr c hc
   have him:imax s.Now 1≤s.Now+1:=by unfold imax;split<;>omega
   omega⟩
  rintro⟨l,i⟩ ⟨h1,h2,h3⟩;dsimp only at h1 h2 h3
  have hll:l.length=s.Lc.length:=by simpa using congrArg List.length h2
  unfold mP;dsimp only;refine ad (P:=λq=>q=true→i<marks.length∧i<10∧0<l.length) ?_ λq hq=>?_
  ·refine ae (λa=>?_) λ_=>aa (by simp)
   refine ae (λb=>?_) λ_=>aa (by simp)
   simp only[decide_eq_true_eq]at a b
   exact aa λc=>⟨a,b,by simpa using c⟩
  refine ae (λhqt=>?_) λ_=>aa (.inr ⟨_,rfl,h2,h3⟩);obtain⟨q1,q2,q3⟩:=hq hqt;refine ad (cL (eB h1 q1)) λx _=>?_
  refine ad (ri (by omega) (by omega)) λx1 hx1=>?_
  refine ad (cL (eB h1 q1)) λx2 _=>?_
  rw[am (x:=s.Now+1) (by omega) (by omega)]
  refine ad (ri (by omega) (by omega)) λx3 hx3=>?_
  refine ad (lQ hx1.1 hx1.2) ?_;rintro j rfl
  have hj:x1.toNat<l.length:=by omega
  rw[K9 hj,K8,am (x:=1+x3) (by omega) (by omega),am (x:=i+1) (by omega) (by omega)]
  refine aa (.inl ⟨_,rfl,⟨by dsimp only;omega,?_,λc hc=>?_⟩,by dsimp only;omega⟩)
  ·dsimp only;rw[← h2,List.map_set]
   have e:strip ⟨l[x1.toNat].Id,l[x1.toNat].LD,l[x1.toNat].LB,⟨l[x1.toNat].LV.Mem,l[x1.toNat].LV.Lu⟩,l[x1.toNat].LA,l[x1.toNat].Ll,l[x1.toNat].Lj,1+x3⟩=(l.map strip)[x1.toNat]'(by simpa using hj):=by simp[strip]
   rw[e,List.set_getElem_self]
  ·rcases QfE hc with hc | rfl
   ·exact h3 c hc
   ·exact⟨by dsimp only;omega,by dsimp only;omega⟩
 ·rintro l ⟨h2,h3⟩
  refine ad (ri (by omega) (by omega)) λx5 hx5=>?_
  rw[am (x:=s.Now+1) (by omega) (by omega),am (x:=s.Now+1+x5) (by omega) (by omega)]
  have h4:=(h.mono (show N≤N+10 by omega)).at_ (t:=s.Now+1+x5) ⟨by omega,by omega,by omega⟩ (by omega)
  have h5:=h4.V4 (cs:=l) h2 (λc hc=>⟨(h3 c hc).1,by
   have:=(h3 c hc).2;show c.ME≤imax (s.Now+1+x5) 1;unfold imax
   split<;>omega⟩)
  exact aa h5
def PS(s t:JF):List Int:=(s.Lc.filter λc=>(bJ t c.Id).isNone).map (·.Id)
theorem Ik{M:Nat}{t:JF}(h:Inv N s)(h':Inv M t):loop (jb s t) ([],0)=some (PS s t):=by
 have hc:=h.cl;unfold PS
 refine bU (λ(l:List Int) i=>(l,i)) s.Lc (λc=>(bJ t c.Id).isNone) (·.Id) (step:=jb s t) (by omega) ?_ ?_
 ·intro k hk l hl;unfold jb qC;dsimp only;rw[ah hk,cond_true,ai hk,K8];generalize s.Lc[k]=c;rcases AH h' c.Id (f:=λa'=>ox a'.1 c) (λx=>rfl)with⟨j,hj,e1,e2,e3⟩ | ⟨e1,e3⟩
  ·rw[e3,e1,K8,K8,decide_eq_true (by omega)]
   rfl
  ·rw[e3,e1,K8,K8,decide_eq_false (by omega),Vn,cond_true,aj (by simp;omega) (by omega)]
   rfl
 ·intro l;unfold jb;dsimp only;rw[ar];rfl
theorem Eb(h:Inv N s)(t:JF):(PS s t).Pairwise λx y=>x<y:=by unfold PS;rw[QfW];exact h.cs.sublist Wh
theorem wF(h:Inv N s)(hN:N+2000<1000000):∃t,lJ s=some (t,PS s t)∧Inv (N+600) t∧Rl s t:=by
 obtain⟨t,e1,h1,h2⟩:=DX h hN;refine⟨t,?_,h1,h2⟩;unfold lJ
 rw[IH h (by omega),K8,e1,K8,Ik h h1,K8,sortV ?_ (Eb h t)]
 ·rfl
 ·unfold PS;rw[Py];exact Rb (Um _ _) h.cl
theorem C9:jF=some true:=by
 have h:Inv 0 newS:=vt;have h0:newS.Lc = []:=rfl;unfold jF;rw[FP,K8]
 obtain⟨t,e1,_,e2⟩:=wF h (by omega)
 have ht:=e2.nil h0;subst ht
 obtain⟨r,e3,_,_,e4,_⟩:=AA (label:=0) h (by omega) (by omega) (by decide)
 have hr:r = []:=by
  cases r with
  | nil=>rfl
  | cons y r=>
   obtain⟨c,hc,_⟩:=e4 y (by simp)
   rw[h0]at hc;cases hc
 rw[e1,K8,Fd (h.small (by omega)),K8,e3,hr]
 rfl
theorem DR{M:Nat}{t:JF}(h:Inv N s)(ht:Inv M t)(hr:Rl s t):t.Lc.length+(PS s t).length=s.Lc.length:=by
 unfold PS;rw[Py]
 have e:t.Lc.length=(s.Lc.filter λc=>(bJ t c.Id).isSome).length:=by
  refine Nat.le_antisymm ?_ ?_
  ·refine v7 (·.Id) (·.Id) _ _ ht.cs (h.cs.sublist Wh) λd hd=>?_;obtain⟨c,hc,e1,_⟩:=hr.ct d hd;refine⟨c,PL.2 ⟨hc,?_⟩,e1⟩;rw[e1];have:bJ t d.Id=some d:=oW (id:=λx:Lv=>x.Id) ht.cs hd;rw[this];rfl
  ·refine v7 (·.Id) (·.Id) _ _ (h.cs.sublist Wh) ht.cs λc hc=>?_;obtain⟨d,hd⟩:=QdC.1 (PL.1 hc).2;obtain⟨d1,d2⟩:=iH hd;exact⟨d,d1,d2⟩
 rw[e]
 have gen:∀l:List Lv,(l.filter λc=>(bJ t c.Id).isSome).length+(l.filter λc=>(bJ t c.Id).isNone).length=l.length:=by
  intro l
  induction l with
  | nil=>rfl
  | cons c l ih=>
   rw[UE,UE]
   cases bJ t c.Id<;>simp<;>omega
 exact gen _
theorem u9(a0:Script)(a1:List Int)(a2:Int)(w0:Wp fam (.st 12) a0)(w1:Wp fam (.slice (.int .i64)) a1)(w2:Wp fam (.int .i64) a2):dL a0 a1 a2=some true:=by
 unfold dL;rw[C9];simp only[K8,PZ,cond_false];refine aku λs0 hs0=>?_
 obtain⟨s,es,hs⟩:=G0 hs0 (by omega) a1 a2
 rw[es,K8]
 obtain⟨t,e1,ht,hr⟩:=wF hs (by omega)
 have hgl:(PS s t).length≤200:=by unfold PS;rw[Py];exact Rb (Um _ _) hs.cl
 rw[e1,K8,Hg (PS s t).length (by omega)]
 ·rw[K8];dsimp only;have hc:=DR hs ht hr;have hcl:=hs.cl
  rw[am (by omega) (by omega)]
  show some (((t.Lc.length:Int)+((PS s t).length:Int)) == (s.Lc.length:Int))=some true
  rw[show((t.Lc.length:Int)+((PS s t).length:Int))=(s.Lc.length:Int)by omega]
  simp
 ·intro k hk;have hm:=NQ hk;generalize hi:(PS s t)[k]=i at hm;obtain⟨c,hc,rfl⟩:=Ra.1 hm;obtain⟨hc,hn⟩:=PL.1 hc;have hn:bJ t c.Id=none:=QgO.1 hn;have hcs:bJ s c.Id=some c:=oW (id:=λx:Lv=>x.Id) hs.cs hc;obtain⟨a,ha,g1,hat,_,hpl⟩:=lj hs hc;obtain⟨x,hx,ex⟩:=qP hs c.Ll hpl;have hmem:=A6 hs hx;rw[ex]at hmem;unfold fk;dsimp only;rw[ah hk,cond_true,aC hk,K8,K9 hk,K8,hi,dR hs.z,hcs,K8];simp only[Option.elim];rw[co hs.z,hat,K8,K8,K9 hk,K8,hi,dR ht.z,hn,K8];simp only[Option.elim,PZ,cond_false,K8];rw[jH hs.sb,K8,hmem,K8]
  rcases hr.gn c hc (λd hd=>by have:=qw hn d hd;simpa using this)with⟨a',ha',e2,e3⟩ | ⟨a',ha',b,hb,e2,e3,e4,e5⟩
  ·have:a'=a:=hs.TU ha' ha (by omega)
   subst this;have:=e3 x hx ex
   rw[decide_eq_false (by omega)]
   rfl
  ·have hl:kf s t c.LD=some true:=by
    unfold kf
    have f1:MV s c.LD=some a':=by rw[← e2];exact hs.MV ha'
    have f2:MV t c.LD=some b:=by rw[← e3];exact ht.MV hb
    rw[co hs.z,f1,K8,co ht.z,f2,K8];simp only[Option.elim];rw[e4,e5];rfl
   rw[hl]
   cases decide ((Ms s a.Lm c.Ll true 0).Mem≤x.Mem)<;>rfl
 ·unfold fk;dsimp only;rw[ar];rfl
end
end Go.Fx.D
