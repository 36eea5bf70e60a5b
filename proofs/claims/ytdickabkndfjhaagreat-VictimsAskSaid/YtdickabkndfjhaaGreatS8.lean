/-
  The reference manager: what holds of its state after every script. Conditions: none.
-/
import Derived.Test.YtdickabkndfjhaaGreatS7
namespace Go.Fx.D
open Go Go.Fx
set_option linter.unusedVariables false
set_option linter.unusedSimpArgs false
structure SC(s:JG):Prop where
 b:SB s
 c:Nj s.Lg
 n:s.Lu.length≤100
theorem SC.X6{s:JG}(h:SC s){Lf:Str}(label:Int)(least:Bool):VB (s.Lu.length*1073741824) (NA s Lf label least):=by
 unfold NA;split
 ·rename_i hh;refine Hz h.b h.c hh.2.1 hh.2.2 least ?_;intro p hp;exact pO h.c Lf.length Lf (MO _) hh.1 p (List.dropLast_subset _ (QgE.1 hp))
 ·unfold VB;simp;omega
theorem mL{s:JG}(h:SC s){Lf:Str}(hp:Lf.length≤1000000)(label:Int):bO s Lf label=some (NA s Lf label true):=by unfold bO;rw[Ca h.b h.c h.n hp];rfl
theorem xW{s:JG}(h:SC s){Lf:Str}(hp:Lf.length≤1000000)(label:Int):iH s Lf label=some (NA s Lf label false):=by unfold iH;rw[Ca h.b h.c h.n hp];rfl
def Zn(s:JG)(Lf:Str)(label:Int):Vec:=(Na s.Lg Lf).elim ⟨0,0⟩ λq=>iF (NA s Lf label true) q.User
theorem DO{c:Lg}(h:Nj c){p:Str}{q:Ls}(hq:Na c p=some q):1≤q.User∧q.User≤1000000:=by obtain⟨hm,_⟩:=jt hq;obtain⟨i,hi,rfl⟩:=UL hm;exact(h.q i hi).user
theorem Jf{s:JG}(h:SC s){Lf:Str}(hp:Lf.length≤1000000)(label:Int):ll s Lf label=some (Zn s Lf label):=by
 unfold ll Zn;rw[pA h.b.cf]
 cases hf:Na s.Lg Lf with
 | none=>rfl
 | some q=>
  have hu:=DO h.c hf;have hn:=h.n;simp only[Option.elim_some,K_,PG,cond_false]
  rw[mL h hp,K_,(yj ((h.X6 label true).mono (by omega)) (by omega) hu.2).1]
  rfl
def afp(s:JG)(leaf:Str)(a:Ask):Bool:=RL (MF (MQ s leaf a.Ll true 0) a.LY) (NA s leaf a.Ll true)
theorem E_{s:JG}(h:SC s){leaf:Str}(hp:leaf.length≤1000000){a:Ask}(ha:VB 1073741824 a.LY):iB s leaf a=some (afp s leaf a):=by
 unfold iB afp;have hc:=h.b.z.c
 rw[gL h.b,K_,mo ((xS h.b leaf a.Ll true 0).mono (m:=200000000000000000) (by omega)) (ha.mono (by omega)) (by omega),K_,mL h hp,K_,mr]
 rfl
def abF(s:JG)(leaf:Str)(label user:Int):Bool:=RL (MQ s leaf label false user) (Zn s leaf label)
theorem CJ{s:JG}(h:SC s){leaf:Str}(hp:leaf.length≤1000000)(label user:Int):gj s leaf label user=some (abF s leaf label user):=by unfold gj abF;rw[BT h.b,K_,Jf h hp,K_,mr];rfl
def ur(s:JG)(label:Int)(size:Vec)(p:Str):Bool:=
 RL (MF (MQ s p label true 0) size) (NA s p label false)&&(!(p == root)||RL (MF (MQ s p label true 0) size) (UN (gk s label) (Xl s label)))
def abE(s:JG)(Lf:Str)(label:Int)(size:Vec):Bool:=(Ov Lf).all (ur s label size)
theorem HR{p x:Str}(h:x∈Ov p):x.length≤p.length:=by
 generalize hn:p.length=n
 induction n using Nat.strongRecOn generalizing p with
 | _ n ih=>
  by_cases hp:p = []
  ·subst hp;simp[m9]at h
  ·rw[lX hp]at h;rcases NH.1 h with rfl | h
   ·omega
   ·have:=fY hp
    have:=ih _ (by omega) h rfl
    omega
theorem zo{α : Type}(l:List α)(p:α→Bool):(l.find? λx=>!(p x)).isNone=l.all p:=by rw[Yb,Tg,Option.isNone_iff_eq_none,QdJ];simp
theorem B_{s:JG}(h:SC s){Lf:Str}(hp:Lf.length≤1000000)(label:Int){size:Vec}(hs:VB 1073741824 size):gv s Lf label size=some (abE s Lf label size):=by
 unfold gv abE;have hl:=uT Lf;have hc:=h.b.z.c;have hpl:=h.b.z.p;have hn:=h.n;rw[DD hp,K_]
 have st:∀k (hk:k<(Ov Lf).length),dO s label size (Ov Lf) (k:Int)=some (bif ur s label size (Ov Lf)[k]then .inl (LC ((k:Int)+1))else .inr (.inl false)):=by
  intro k hk;unfold dO ur;rw[ah hk,aC hk];simp only[cond_true,K_,La hk]
  have hx:(Ov Lf)[k].length≤1000000:=by have:=HR (Nq hk);omega
  rw[gL h.b,K_,mo ((xS h.b _ label true 0).mono (m:=200000000000000000) (by omega)) (hs.mono (by omega)) (by omega),K_,xW h hx,K_,mr,K_]
  have hV:=h.b;generalize MF (MQ s (Ov Lf)[k] label true 0) size=V;generalize RL V (NA s (Ov Lf)[k] label false)=b1
  cases b1 with
  | false=>rfl
  | true=>
   simp only[PG,cond_false,YH];rw[nX hV,I3 hV];simp only[K_]
   rw[CC ((mR hV label).mono (by omega)) ((Ke hV label).mono (by omega))]
   simp only[K_,mr];rcases QfE ((Ov Lf)[k] == root)with hr | hr
   ·simp only[hr,cond_true,K_,PG,QfM]
    cases RL V (UN (gk s label) (Xl s label))<;>rfl
   ·simp only[hr,cond_false,K_,Wy,Bool.true_or,cond_true]
 have e:=eT (λi=>i) (Ov Lf) (λx=>!(ur s label size x)) (λq=>(.inl false:Bool ⊕ Unit)) (.inr ()) (step:=dO s label size (Ov Lf)) (by omega) ?_ ?_ ?_
 ·rw[e,← zo]
  cases (Ov Lf).find? λx=>!(ur s label size x)<;>rfl
 ·intro k hk hf;rw[st k hk];simp only[QdU]at hf;rw[hf];rfl
 ·intro k hk hf;rw[st k hk];simp only[UJ]at hf;rw[hf];rfl
 ·unfold dO;rw[am];rfl
def noK:Ask:=⟨0,0,⟨0,0⟩,0,0,0,0⟩
def V7(l:List Ask)(prio:Int):Option Ask:=l.find? λx=>x.LD == prio
theorem Fo{l:List Ask}(h:l.length≤100000)(prio:Int):l7 l prio=some ((V7 l prio).elim (noK,false) λx=>(x,true)):=by
 unfold l7
 have e:=eT (λi=>(noK,i)) l (λq=>q.LD == prio) (λq=>.inl (q,true)) (.inr noK) (step:=fx l prio) (by omega) ?_ ?_ ?_
 ·unfold noK at e;rw[e];unfold V7 noK
  cases l.find? λq=>q.LD == prio<;>rfl
 ·intro k hk hp;unfold fx;rw[ah hk,ai hk];simp only[cond_true,K_,hp,cond_false]
 ·intro k hk hp;unfold fx;rw[ah hk,ai hk];simp only[cond_true,K_,hp]
 ·unfold fx;rw[am];rfl
def Ti(prio:Int)(x:Ask):Option Ask:=if x.LD=prio then(if x.ME - 1≤0 then none else some ⟨x.LD,x.Ll,x.LY,x.ME - 1,x.LG,x.Om,0⟩)else some x
def Si(l:List Ask)(prio:Int):List Ask:=l.filterMap (Ti prio)
theorem J1{l:List Ask}(h:l.length≤100000)(hc:∀x∈l,0≤x.ME∧x.ME≤1000000)(prio:Int):Gv (lq l prio) λr=>r.1=Si l prio:=by
 unfold lq
 have e:=bF (σ:=List Ask×Bool) (λt i=>(t.1,t.2,i)) l (λt x=>(t.1++(Ti prio x).toList,if x.LD=prio then true else t.2)) (λk t=>t.1.length≤k) (λt=>t) (step:=iY l prio) (by omega) ?_ ?_ (s:=([],false)) (by simp)
 ·rw[e.1];refine aa ?_;dsimp only
  have key:∀(l:List Ask)(z:List Ask×Bool),(l.foldl (λt x=>(t.1++(Ti prio x).toList,if x.LD=prio then true else t.2)) z).1=z.1++Si l prio:=by
   intro l
   induction l with
   | nil=>simp[Si]
   | cons x l ih=>
    intro z;rw[TN,ih];unfold Si;rw[List.filterMap_cons]
    cases Ti prio x<;>simp
  rw[key];simp
 ·rintro k hk ⟨z,b⟩ hz;dsimp only at hz;have hcx:=hc _ (Nq hk);unfold iY Ti;dsimp only;rw[ah hk,ai hk];simp only[cond_true,K_]
  rw[aj (x:=l[k].ME - 1) (by omega) (by omega)]
  by_cases hp:l[k].LD=prio
  ·rw[show(l[k].LD == prio)=true by simpa using hp,if_pos hp]
   simp only[cond_true];by_cases hn:l[k].ME - 1≤0
   ·rw[decide_eq_true hn,if_pos hn]
    refine⟨by simp[hp],?_⟩
    simp;omega
   ·rw[decide_eq_false hn,if_neg hn];simp only[cond_false,K_]
    rw[ao (by simp;omega) (by omega)]
    refine⟨by simp[hp],?_⟩
    simp;omega
  ·rw[show(l[k].LD == prio)=false by simpa using hp,if_neg hp]
   simp only[cond_false,K_]
   rw[ao (by simp;omega) (by omega)]
   refine⟨by simp[hp],?_⟩
   simp;omega
 ·rintro⟨z,b⟩ _;unfold iY;dsimp only;rw[am];rfl
def Py(prio:Int)(x:Ask):Ask:=if x.LD=prio then⟨x.LD,x.Ll,x.LY,x.ME,x.LG,x.Om,Nh (LC (x.RY+1)) 100⟩else x
def UU(l:List Ask)(prio:Int):List Ask:=l.map (Py prio)
theorem Js{l:List Ask}(h:l.length≤100000)(prio:Int):la l prio=some (UU l prio):=by
 unfold la
 rw[ao (by simp;omega) (by omega),K_,PX]
 have key:=az (σ:=List Ask) (λt i=>(t,i)) l.length (λk t=>t=(l.take k).map (Py prio)++l.drop k) (step:=jk prio) (Q:=λr=>r=UU l prio) (by omega) ?_ ?_ (s:=l) (by simp)
 ·obtain⟨r,e,rfl⟩:=key;rw[e];rfl
 ·rintro k hk t rfl
  have hlen:((l.take k).map (Py prio)++l.drop k).length=l.length:=by simp;omega
  have hget:((l.take k).map (Py prio)++l.drop k)[k]? = some l[k]:=by
   rw[RD (by simp;omega)]
   simp[QfO (Nat.le_of_lt hk),La hk]
  have hstep:(l.take (k+1)).map (Py prio)++l.drop (k+1)=((l.take k).map (Py prio)++l.drop k).set k (Py prio l[k]):=by
   rw[QgA _ _ (by simp;omega)]
   simp only[PI,Ox,QfO (Nat.le_of_lt hk),Nat.sub_self];rw[Wq hk,QfP,Ra hk,Uo,PS];rfl
  unfold jk;dsimp only;rw[hlen,ah hk,aC hk];simp only[cond_true,K_,hget];refine ad (P:=λz=>z=(l.take (k+1)).map (Py prio)++l.drop (k+1)) ?_ (λz hz=>aa (.inl ⟨z,rfl,hz⟩));rw[hstep];unfold Py;by_cases hp:l[k].LD=prio
  ·rw[show(l[k].LD == prio)=true by simpa using hp,if_pos hp]
   exact aa rfl
  ·rw[show(l[k].LD == prio)=false by simpa using hp,if_neg hp]
   refine aa ?_
   have:((l.take k).map (Py prio)++l.drop k).set k l[k]=(l.take k).map (Py prio)++l.drop k:=by
    apply QeI;intro i;rw[List.getElem?_set];split
    ·rename_i hki;subst hki
     rw[if_pos (by omega),hget]
    ·rfl
   exact this.symm
 ·rintro t rfl
  have hlen:((l.take l.length).map (Py prio)++l.drop l.length).length=l.length:=by simp
  unfold jk;dsimp only;rw[hlen,am];refine aa ⟨_,rfl,?_⟩;simp[UU]
end Go.Fx.D
