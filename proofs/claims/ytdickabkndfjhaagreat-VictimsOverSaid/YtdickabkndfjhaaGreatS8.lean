/-
  The reference manager: what holds of its state after every script. Conditions: none.
-/
import Derived.Test.YtdickabkndfjhaaGreatS7
namespace Go.Fx.D
open Go Go.Fx
set_option linter.unusedVariables false
set_option linter.unusedSimpArgs false
structure SC(s:JF):Prop where
 b:SB s
 c:Nj s.Lf
 n:s.Ls.length≤100
theorem SC.Xq{s:JF}(h:SC s){Ld:Str}(label:Int)(least:Bool):VB (s.Ls.length*1073741824) (NC s Ld label least):=by
 unfold NC;split
 ·rename_i hh;refine Hx h.b h.c hh.2.1 hh.2.2 least ?_;intro p hp;exact pe h.c Ld.length Ld (MN _) hh.1 p (List.dropLast_subset _ (QgG.1 hp))
 ·unfold VB;simp;omega
theorem nt{s:JF}(h:SC s){Ld:Str}(hp:Ld.length≤1000000)(label:Int):bI s Ld label=some (NC s Ld label true):=by unfold bI;rw[CT h.b h.c h.n hp];rfl
theorem wW{s:JF}(h:SC s){Ld:Str}(hp:Ld.length≤1000000)(label:Int):hZ s Ld label=some (NC s Ld label false):=by unfold hZ;rw[CT h.b h.c h.n hp];rfl
def Y7(s:JF)(Ld:Str)(label:Int):Vec:=(Nb s.Lf Ld).elim ⟨0,0⟩ λq=>gW (NC s Ld label true) q.User
theorem Dn{c:Lf}(h:Nj c){p:Str}{q:Lm}(hq:Nb c p=some q):1≤q.User∧q.User≤1000000:=by obtain⟨hm,_⟩:=iX hq;obtain⟨i,hi,rfl⟩:=Ul hm;exact(h.q i hi).user
theorem Jx{s:JF}(h:SC s){Ld:Str}(hp:Ld.length≤1000000)(label:Int):kJ s Ld label=some (Y7 s Ld label):=by
 unfold kJ Y7;rw[oN h.b.cf]
 cases hf:Nb s.Lf Ld with
 | none=>rfl
 | some q=>
  have hu:=Dn h.c hf;have hn:=h.n;simp only[Option.elim_some,K8,PZ,cond_false]
  rw[nt h hp,K8,(xG ((h.Xq label true).mono (by omega)) (by omega) hu.2).1]
  rfl
def ae9(s:JF)(leaf:Str)(a:Ask):Bool:=RL (MB (Ms s leaf a.Ll true 0) a.LV) (NC s leaf a.Ll true)
theorem FA{s:JF}(h:SC s){leaf:Str}(hp:leaf.length≤1000000){a:Ask}(ha:VB 1073741824 a.LV):ia s leaf a=some (ae9 s leaf a):=by
 unfold ia ae9;have hc:=h.b.z.c
 rw[jH h.b,K8,lU ((xb h.b leaf a.Ll true 0).mono (m:=200000000000000000) (by omega)) (ha.mono (by omega)) (by omega),K8,nt h hp,K8,lW]
 rfl
def abr(s:JF)(leaf:Str)(label user:Int):Bool:=RL (Ms s leaf label false user) (Y7 s leaf label)
theorem CN{s:JF}(h:SC s){leaf:Str}(hp:leaf.length≤1000000)(label user:Int):fY s leaf label user=some (abr s leaf label user):=by unfold fY abr;rw[Bo h.b,K8,Jx h hp,K8,lW];rfl
def tN(s:JF)(label:Int)(size:Vec)(p:Str):Bool:=
 RL (MB (Ms s p label true 0) size) (NC s p label false)&&(!(p == root)||RL (MB (Ms s p label true 0) size) (UJ (b7 s label) (W_ s label)))
def abq(s:JF)(Ld:Str)(label:Int)(size:Vec):Bool:=(Ob Ld).all (tN s label size)
theorem Aj{p x:Str}(h:x∈Ob p):x.length≤p.length:=by
 generalize hn:p.length=n
 induction n using Nat.strongRecOn generalizing p with
 | _ n ih=>
  by_cases hp:p = []
  ·subst hp;simp[gH]at h
  ·rw[dm hp]at h;rcases Nz.1 h with rfl | h
   ·omega
   ·have:=cN hp
    have:=ih _ (by omega) h rfl
    omega
theorem zF{α : Type}(l:List α)(p:α→Bool):(l.find? λx=>!(p x)).isNone=l.all p:=by rw[YA,Td,QgO,ZR];simp
theorem CO{s:JF}(h:SC s){Ld:Str}(hp:Ld.length≤1000000)(label:Int){size:Vec}(hs:VB 1073741824 size):fP s Ld label size=some (abq s Ld label size):=by
 unfold fP abq;have hl:=uh Ld;have hc:=h.b.z.c;have hpl:=h.b.z.p;have hn:=h.n;rw[Dx hp,K8]
 have st:∀k (hk:k<(Ob Ld).length),dA s label size (Ob Ld) (k:Int)=some (bif tN s label size (Ob Ld)[k]then .inl (Lx ((k:Int)+1))else .inr (.inl false)):=by
  intro k hk;unfold dA tN;rw[ah hk,aC hk];simp only[cond_true,K8,K9 hk]
  have hx:(Ob Ld)[k].length≤1000000:=by have:=Aj (NQ hk);omega
  rw[jH h.b,K8,lU ((xb h.b _ label true 0).mono (m:=200000000000000000) (by omega)) (hs.mono (by omega)) (by omega),K8,wW h hx,K8,lW,K8]
  have hV:=h.b;generalize MB (Ms s (Ob Ld)[k] label true 0) size=V;generalize RL V (NC s (Ob Ld)[k] label false)=b1
  cases b1 with
  | false=>rfl
  | true=>
   simp only[PZ,cond_false,QhB];rw[o0 hV,I7 hV];simp only[K8]
   rw[Cw ((nq hV label).mono (by omega)) ((I0 hV label).mono (by omega))]
   simp only[K8,lW];rcases QfK ((Ob Ld)[k] == root)with hr | hr
   ·simp only[hr,cond_true,K8,PZ,QhA]
    cases RL V (UJ (b7 s label) (W_ s label))<;>rfl
   ·simp only[hr,cond_false,K8,Vn,Bool.true_or,cond_true]
 have e:=eJ (λi=>i) (Ob Ld) (λx=>!(tN s label size x)) (λq=>(.inl false:Bool ⊕ Unit)) (.inr ()) (step:=dA s label size (Ob Ld)) (by omega) ?_ ?_ ?_
 ·rw[e,← zF]
  cases (Ob Ld).find? λx=>!(tN s label size x)<;>rfl
 ·intro k hk hf;rw[st k hk];simp only[QdU]at hf;rw[hf];rfl
 ·intro k hk hf;rw[st k hk];simp only[U3]at hf;rw[hf];rfl
 ·unfold dA;rw[ar];rfl
def noK:Ask:=⟨0,0,⟨0,0⟩,0,0,0,0⟩
def V5(l:List Ask)(prio:Int):Option Ask:=l.find? λx=>x.LA == prio
theorem D2{l:List Ask}(h:l.length≤100000)(prio:Int):lu l prio=some ((V5 l prio).elim (noK,false) λx=>(x,true)):=by
 unfold lu
 have e:=eJ (λi=>(noK,i)) l (λq=>q.LA == prio) (λq=>.inl (q,true)) (.inr noK) (step:=fd l prio) (by omega) ?_ ?_ ?_
 ·unfold noK at e;rw[e];unfold V5 noK
  cases l.find? λq=>q.LA == prio<;>rfl
 ·intro k hk hp;unfold fd;rw[ah hk,ai hk];simp only[cond_true,K8,hp,cond_false]
 ·intro k hk hp;unfold fd;rw[ah hk,ai hk];simp only[cond_true,K8,hp]
 ·unfold fd;rw[ar];rfl
def Te(prio:Int)(x:Ask):Option Ask:=if x.LA=prio then(if x.Mw - 1≤0 then none else some ⟨x.LA,x.Ll,x.LV,x.Mw - 1,x.LB,x.Oj,0⟩)else some x
def Sk(l:List Ask)(prio:Int):List Ask:=l.filterMap (Te prio)
theorem I8{l:List Ask}(h:l.length≤100000)(hc:∀x∈l,0≤x.Mw∧x.Mw≤1000000)(prio:Int):Gv (kM l prio) λr=>r.1=Sk l prio:=by
 unfold kM
 have e:=cW (σ:=List Ask×Bool) (λt i=>(t.1,t.2,i)) l (λt x=>(t.1++(Te prio x).toList,if x.LA=prio then true else t.2)) (λk t=>t.1.length≤k) (λt=>t) (step:=iQ l prio) (by omega) ?_ ?_ (s:=([],false)) (by simp)
 ·rw[e.1];refine aa ?_;dsimp only
  have key:∀(l:List Ask)(z:List Ask×Bool),(l.foldl (λt x=>(t.1++(Te prio x).toList,if x.LA=prio then true else t.2)) z).1=z.1++Sk l prio:=by
   intro l
   induction l with
   | nil=>simp[Sk]
   | cons x l ih=>
    intro z;rw[TG,ih];unfold Sk;rw[List.filterMap_cons]
    cases Te prio x<;>simp
  rw[key];simp
 ·rintro k hk ⟨z,b⟩ hz;dsimp only at hz;have hcx:=hc _ (NQ hk);unfold iQ Te;dsimp only;rw[ah hk,ai hk];simp only[cond_true,K8]
  rw[am (x:=l[k].Mw - 1) (by omega) (by omega)]
  by_cases hp:l[k].LA=prio
  ·rw[show(l[k].LA == prio)=true by simpa using hp,if_pos hp]
   simp only[cond_true];by_cases hn:l[k].Mw - 1≤0
   ·rw[decide_eq_true hn,if_pos hn]
    refine⟨by simp[hp],?_⟩
    simp;omega
   ·rw[decide_eq_false hn,if_neg hn];simp only[cond_false,K8]
    rw[aj (by simp;omega) (by omega)]
    refine⟨by simp[hp],?_⟩
    simp;omega
  ·rw[show(l[k].LA == prio)=false by simpa using hp,if_neg hp]
   simp only[cond_false,K8]
   rw[aj (by simp;omega) (by omega)]
   refine⟨by simp[hp],?_⟩
   simp;omega
 ·rintro⟨z,b⟩ _;unfold iQ;dsimp only;rw[ar];rfl
def Pe(prio:Int)(x:Ask):Ask:=if x.LA=prio then⟨x.LA,x.Ll,x.LV,x.Mw,x.LB,x.Oj,Mj (Lx (x.RX+1)) 100⟩else x
def UM(l:List Ask)(prio:Int):List Ask:=l.map (Pe prio)
theorem IV{l:List Ask}(h:l.length≤100000)(prio:Int):kD l prio=some (UM l prio):=by
 unfold kD
 rw[aj (by simp;omega) (by omega),K8,PE]
 have key:=ay (σ:=List Ask) (λt i=>(t,i)) l.length (λk t=>t=(l.take k).map (Pe prio)++l.drop k) (step:=iT prio) (Q:=λr=>r=UM l prio) (by omega) ?_ ?_ (s:=l) (by simp)
 ·obtain⟨r,e,rfl⟩:=key;rw[e];rfl
 ·rintro k hk t rfl
  have hlen:((l.take k).map (Pe prio)++l.drop k).length=l.length:=by simp;omega
  have hget:((l.take k).map (Pe prio)++l.drop k)[k]? = some l[k]:=by
   rw[RF (by simp;omega)]
   simp[QfR (Nat.le_of_lt hk),K9 hk]
  have hstep:(l.take (k+1)).map (Pe prio)++l.drop (k+1)=((l.take k).map (Pe prio)++l.drop k).set k (Pe prio l[k]):=by
   rw[QgB _ _ (by simp;omega)]
   simp only[Py,Oy,QfR (Nat.le_of_lt hk),Nat.sub_self];rw[Ww hk,QeW,R3 hk,UD,P5];rfl
  unfold iT;dsimp only;rw[hlen,ah hk,aC hk];simp only[cond_true,K8,hget];refine ad (P:=λz=>z=(l.take (k+1)).map (Pe prio)++l.drop (k+1)) ?_ (λz hz=>aa (.inl ⟨z,rfl,hz⟩));rw[hstep];unfold Pe;by_cases hp:l[k].LA=prio
  ·rw[show(l[k].LA == prio)=true by simpa using hp,if_pos hp]
   exact aa rfl
  ·rw[show(l[k].LA == prio)=false by simpa using hp,if_neg hp]
   refine aa ?_
   have:((l.take k).map (Pe prio)++l.drop k).set k l[k]=(l.take k).map (Pe prio)++l.drop k:=by
    apply QeM;intro i;rw[List.getElem?_set];split
    ·rename_i hki;subst hki
     rw[if_pos (by omega),hget]
    ·rfl
   exact this.symm
 ·rintro t rfl
  have hlen:((l.take l.length).map (Pe prio)++l.drop l.length).length=l.length:=by simp
  unfold iT;dsimp only;rw[hlen,ar];refine aa ⟨_,rfl,?_⟩;simp[UM]
end Go.Fx.D
