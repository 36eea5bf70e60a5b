/-
  The framework, fourth part: bounded rounds, deletion from slices, ranges over functions. Conditions: none.
-/
import Derived.Test.YtkagmokhbmbjdaaGreatDoorFxC
import Derived.Shelf.SlSortCmp.NoneTotal
import Derived.Shelf.SlicesE.Kit
import Derived.Shelf.RegionOpenPlain
import Derived.Deep.LoopGhost
import Derived.Deep.RegionLaw
import Derived.Lib.Walk
import Derived.Sort.WalkB12
import Derived.Lib.SlicesDelete
import Derived.Lib.Overlaps
import Derived.Lib.AppendZerosOnto
import Derived.RangeFuncLeaves
import Derived.RangeFuncRecord
import Derived.RangeFuncIn
import Derived.RangeFuncSeq
import Derived.Lib.Bytealg
import Derived.Laws.RangeString
import Derived.Lib.IndexBytes
import Derived.Lib.SlTrimSet
import Derived.Lib.Atoi
import Derived.Lib.ConvBytes
import Derived.Deep.Draws
namespace Go.Fx
open Go Go.Shelf
set_option linter.unusedVariables false
set_option linter.unusedSimpArgs false
section
variable{F:Fam}{P:Program}
def encV:ND F→Value
 | .i k n=>.int k n
 | .b x=>.bool x
 | .s l=>.string ⟨⟨l⟩⟩
 | _=>.nilFunc
def NID.smp:ND F→Bool
 | .i _ _ | .b _ | .s _=>true
 | _=>false
theorem AB{t:Ty}(hf:bX F t=true)(x:ET F t):∀d∈encT F t x,d.smp=true:=by
 cases t with
 | int k=>simp[encT,NID.smp]
 | bool=>simp[encT,NID.smp]
 | str=>simp[encT,NID.smp]
 | slice t=>simp[bX]at hf
 | st n=>
  simp only[encT];simp only[bX]at hf
  have gen:∀(ts:List Ty)(a:TupT F ts),(ts.all λt=>match t with | .slice _=>false | .st _=>false | _=>true)=true→∀d∈encF F ts a,d.smp=true:=by
   intro ts
   induction ts with
   | nil=>intro a _ d hd;simp[encF]at hd
   | cons t ts ih=>
    intro a h d hd;simp only[List.all_cons,Bool.and_eq_true]at h;rcases List.mem_cons.1 hd with rfl | hd
    ·cases t<;>first | rfl | simp at h
    ·exact ih a.2 h.2 d hd
  exact gen _ _ hf
theorem AJ{w:World}{imm:Nat→Prop}{d:ND F}{v:Value}(hs:d.smp=true)(h:RepI w imm d v):v=encV d:=by
 cases h<;>first | rfl | simp[NID.smp]at hs
theorem yF{w:World}{imm:Nat→Prop}{d:ND F}(hs:d.smp=true):RepI w imm d (encV d):=by
 cases d with
 | i k n=>exact .i _ _
 | b x=>exact .b _
 | s l=>exact .s _
 | nl=>simp[NID.smp]at hs
 | sl t l=>simp[NID.smp]at hs
 | v x=>simp[NID.smp]at hs
theorem CS{d:ND F}:(encV d).oneCell'=true:=by cases d<;>rfl
def encL(t:Ty)(x:ET F t):List Value:=(encT F t x).map encV
section
variable{α : Type}[Inhabited α]{enc:α→List Value}{k:Nat}{w:World}{b off m:Nat}{dk:Array α}{os:Array Obj}
theorem tI:w.heap.size≤(Proofs.sortWorldK enc k w b off m dk os).heap.size:=by simp[Proofs.sortWorldK,Sort.grow,Sort.putRowK,Sort.putRow,Sort.mapBlock,Sort.ahead]
theorem yA{b':Nat}(hne:b'≠b)(hlt:b'<w.heap.size):(Proofs.sortWorldK enc k w b off m dk os).heap[b']? = w.heap[b']?:=by
 simp only[Proofs.sortWorldK,Sort.grow,Sort.putRowK,Sort.putRow,Sort.mapBlock,Sort.ahead]
 rw[Array.getElem?_append_left (by simpa using hlt),Array.getElem?_modify,if_neg (λe=>hne e.symm)]
theorem EF{c:Array Value}{e:TypeId}{fr:Nat×Nat}(h:w.heap[b]? = some (.cells c e fr)):(Proofs.sortWorldK enc k w b off m dk os).heap[b]? = some (.cells (Sort.putCells id off (Sort.flatK enc k dk) c) e fr):=by
 have hlt:b<w.heap.size:=(Array.getElem?_eq_some_iff.1 h).1;simp only[Proofs.sortWorldK,Sort.grow,Sort.putRowK,Sort.putRow,Sort.mapBlock,Sort.ahead]
 rw[Array.getElem?_append_left (by simpa using hlt),Array.getElem?_modify,if_pos rfl,h]
 rfl
end
theorem Bo{w w':World}(h:RowKit.Below w.heap.size w w')(hd:w.drawn≤w'.drawn):∃q os',w'=Sort.grow (w.drewN q) os':=by
 obtain⟨h1,h2,h3,h4,h5⟩:=h;refine⟨w'.drawn - w.drawn,w'.heap.extract w.heap.size w'.heap.size,?_⟩;obtain⟨heap,tape,drawn,os,output⟩:=w;obtain⟨heap',tape',drawn',os',output'⟩:=w';simp only at h1 h2 h3 h4 h5 hd;subst h1 h2 h3;simp only[Sort.grow,World.drewN]
 congr 1
 ·apply Array.ext_getElem?;intro j;by_cases hj:j<heap.size
  ·rw[Array.getElem?_append_left hj];exact h5 j hj
  ·rw[Array.getElem?_append_right (by omega),Array.getElem?_extract]
   split
   ·congr 1
    omega
   ·rw[Array.getElem?_eq_none (by omega)]
 ·omega
end
set_option linter.unusedVariables false
structure Lo{α : Type}(a b:Option α):Prop where
 ok:∀r,a=some r→b=some r
theorem ah{α : Type}(a:Option α):Lo a a:=⟨λ_ h=>h⟩
theorem ae{α : Type}{b:Option α}:Lo none b:=⟨λ_ h=>by cases h⟩
theorem ag{α β : Type}{a a':Option α}{f f':α→Option β}(h:Lo a a')(k:∀x,Lo (f x) (f' x)):Lo (a.bind f) (a'.bind f'):=by
 constructor;intro r hr
 cases a with
 | none=>cases hr
 | some x=>rw[h.ok x rfl];exact(k x).ok r hr
theorem ay{α γ β : Type}{a a':Option (α ⊕ γ)}{f f':α ⊕ γ→Option β}(h:Lo a a')(k:∀x,Lo (f (.inl x)) (f' (.inl x)))(k':∀x,Lo (f (.inr x)) (f' (.inr x))):Lo (a.bind f) (a'.bind f'):=
 ag h λx=>match x with
  | .inl x=>k x
  | .inr x=>k' x
theorem ax{α γ δ β : Type}{a a':Option (α ⊕ (γ ⊕ δ))}{f f':α ⊕ (γ ⊕ δ)→Option β}(h:Lo a a')(k:∀x,Lo (f (.inl x)) (f' (.inl x)))(k1:∀x,Lo (f (.inr (.inl x))) (f' (.inr (.inl x))))(k2:∀x,Lo (f (.inr (.inr x))) (f' (.inr (.inr x)))):Lo (a.bind f) (a'.bind f'):=
 ag h λx=>match x with
  | .inl x=>k x
  | .inr (.inl x)=>k1 x
  | .inr (.inr x)=>k2 x
theorem aw{α γ δ ε β : Type}{a a':Option (α ⊕ (γ ⊕ (δ ⊕ ε)))}{f f':α ⊕ (γ ⊕ (δ ⊕ ε))→Option β}(h:Lo a a')(k:∀x,Lo (f (.inl x)) (f' (.inl x)))(k1:∀x,Lo (f (.inr (.inl x))) (f' (.inr (.inl x))))(k2:∀x,Lo (f (.inr (.inr (.inl x)))) (f' (.inr (.inr (.inl x)))))(k3:∀x,Lo (f (.inr (.inr (.inr x)))) (f' (.inr (.inr (.inr x))))):Lo (a.bind f) (a'.bind f'):=
 ag h λx=>match x with
  | .inl x=>k x
  | .inr (.inl x)=>k1 x
  | .inr (.inr (.inl x))=>k2 x
  | .inr (.inr (.inr x))=>k3 x
theorem aj{α : Type}{c:Bool}{a b a' b':Option α}(h:Lo a a')(k:Lo b b'):Lo (cond c a b) (cond c a' b'):=by
 cases c
 ·exact k
 ·exact h
def itr{τ σ : Type}(n:Nat)(s:τ→Option (τ ⊕ σ))(t:τ):Option σ:=iter s n t
theorem ai{τ σ : Type}{n:Nat}{s s':τ→Option (τ ⊕ σ)}(h:∀t,Lo (s t) (s' t))(t:τ):Lo (itr n s t) (loop s' t):=by
 constructor;intro r hr;unfold itr at hr;refine B6 (n:=n) ?_
 induction n generalizing t with
 | zero=>cases hr
 | succ n ih=>
  simp only[iter]at hr ⊢;split at hr
  ·cases hr
  ·rename_i t' ht;rw[(h t).ok _ ht];exact ih t' hr
  ·rename_i q hq;rw[(h t).ok _ hq];exact hr
end Go.Fx
namespace Go.Fx
open Go Go.Shelf
set_option linter.unusedVariables false
set_option linter.unusedSimpArgs false
section
variable{α : Type}
def insG(lt:α→α→Bool)(x:α):List α→List α
 | []=>[x]
 | y::l=>if lt y x then y::insG lt x l else x::y::l
def isort(lt:α→α→Bool):List α→List α
 | []=>[]
 | x::l=>insG lt x (isort lt l)
def okG(c:Nat→Nat→Option Int)(n:Nat):Bool:=
 (List.range n).all λi=>(List.range n).all λj=>match c i j,c j i with
  | some a,some b=>(if i=j then !(decide (a<0))else(decide (a<0) != decide (b<0)))&&(List.range n).all λk=>match c j k,c i k with
   | some a',some b'=>!(decide (a<0)&&decide (a'<0))||decide (b'<0)
   | _,_=>false
  | _,_=>false
def getG(l:List α)(x0:α)(i:Nat):α:=l.getD i x0
def cG(φ : α→α→Option Int)(l:List α)(x0:α)(i j:Nat):Option Int:=φ (getG l x0 i) (getG l x0 j)
def ltG(φ : α→α→Option Int)(x y:α):Bool:=match φ x y with
 | some a=>decide (a<0)
 | none=>false
def sortA(φ : α→α→Option Int):List α→Option (List α)
 | []=>some []
 | x::l=>if okG (cG φ (x::l) x) (l.length+1)&&decide (l.length<1000000000)then some (isort (ltG φ) (x::l))else none
theorem yM{lt:α→α→Bool}{x y:α}:∀{l:List α},y∈insG lt x l↔y=x∨y∈l
 | []=>by simp[insG]
 | z::l=>by
  unfold insG;split
  ·simp only[List.mem_cons,yM (l:=l)];constructor
   ·rintro(h | h | h)<;>simp[h]
   ·rintro(h | h | h)<;>simp[h]
  ·simp
theorem xy{lt:α→α→Bool}{x:α}:∀{l:List α},(insG lt x l).Perm (x::l)
 | []=>by simp[insG]
 | z::l=>by
  unfold insG;split
  ·exact((xy (l:=l)).cons z).trans (.swap x z l)
  ·exact .refl _
theorem mT{lt:α→α→Bool}:∀{l:List α},(isort lt l).Perm l
 | []=>.refl _
 | x::l=>xy.trans (mT.cons x)
theorem AT{lt:α→α→Bool}(tr:∀x y z,lt y x=false→lt z y=false→lt z x=false)(asm:∀x y,lt x y=true→lt y x=false){x:α}:∀{l:List α},l.Pairwise (λa b=>lt b a=false)→(insG lt x l).Pairwise (λa b=>lt b a=false)
 | [],_=>by simp[insG]
 | z::l,h=>by
  unfold insG;have h':=List.pairwise_cons.1 h;split
  ·rename_i hz;refine List.pairwise_cons.2 ⟨?_,AT tr asm h'.2⟩;intro y hy;rcases yM.1 hy with rfl | hy
   ·exact asm _ _ hz
   ·exact h'.1 y hy
  ·rename_i hz;refine List.pairwise_cons.2 ⟨?_,h⟩;intro y hy
   have hz':lt z x=false:=by simpa using hz
   rcases List.mem_cons.1 hy with rfl | hy
   ·exact hz'
   ·exact tr x z y hz' (h'.1 y hy)
theorem zk{lt:α→α→Bool}(tr:∀x y z,lt y x=false→lt z y=false→lt z x=false)(asm:∀x y,lt x y=true→lt y x=false):∀{l:List α},(isort lt l).Pairwise (λa b=>lt b a=false)
 | []=>by simp[isort]
 | x::l=>AT tr asm (zk tr asm)
theorem yK{β : Type}{lt:α→α→Bool}{lt':β→β→Bool}(f:β→α)(h:∀a b,lt (f a) (f b)=lt' a b)(x:β):∀l:List β,(insG lt' x l).map f=insG lt (f x) (l.map f)
 | []=>by simp[insG]
 | y::l=>by
  simp only[insG,List.map_cons,h];split
  ·simp[yK f h x l]
  ·simp
theorem xK{β : Type}{lt:α→α→Bool}{lt':β→β→Bool}(f:β→α)(h:∀a b,lt (f a) (f b)=lt' a b):∀l:List β,(isort lt' l).map f=isort lt (l.map f)
 | []=>rfl
 | x::l=>by simp only[isort,List.map_cons,yK f h,xK f h l]
theorem zo{c:Nat→Nat→Option Int}{n:Nat}(h:okG c n=true):(∀i j,i<n→j<n→∃a,c i j=some a)∧(∀i a,i<n→c i i=some a→¬ a<0)∧(∀i j a b,i<n→j<n→i≠j→c i j=some a→c j i=some b→(a<0↔¬ b<0))∧(∀i j k a b d,i<n→j<n→k<n→c i j=some a→c j k=some b→c i k=some d→a<0→b<0→d<0):=by
 unfold okG at h;simp only[List.all_eq_true,List.mem_range]at h;refine⟨?_,?_,?_,?_⟩
 ·intro i j hi hj;have:=h i hi j hj
  cases hc:c i j with
  | none=>rw[hc]at this;cases this
  | some a=>exact⟨a,rfl⟩
 ·intro i a hi hc;have:=h i hi i hi;rw[hc]at this;simp only[if_true,Bool.and_eq_true,Bool.not_eq_true',decide_eq_false_iff_not]at this;exact this.1
 ·intro i j a b hi hj hne h1 h2;have:=h i hi j hj;rw[h1,h2]at this;simp only[if_neg hne,Bool.and_eq_true,bne_iff_ne,ne_eq]at this;have h3:=this.1
  by_cases ha:a<0<;>by_cases hb:b<0<;>simp[ha,hb]at h3 ⊢
 ·intro i j k a b d hi hj hk h1 h2 h3 ha hb;have:=h i hi j hj;rw[h1]at this
  cases hji:c j i with
  | none=>rw[hji]at this;cases this
  | some e=>rw[hji]at this;simp only[Bool.and_eq_true,List.all_eq_true,List.mem_range]at this;have h4:=this.2 k hk;rw[h2,h3]at h4;simpa[ha,hb]using h4
end
section
variable{F:Fam}{P:Program}
def phi2{t:Ty}(φ : TupT F [t,t]→Option (ET F (.int .i64)))(x y:ET F t):Option Int:=φ (x,y,())
def sortG(t:Ty)(φ : TupT F [t,t]→Option (ET F (.int .i64)))(l:List (ET F t)):Option (List (ET F t)):=sortA (phi2 φ) l
set_option maxHeartbeats 1000000 in
theorem Da{ρ : Ren}(L:Proofs.SlLaysF0.n6 P ρ){n:Nat}(aE:∀w,(isAgg (ρ.t 24)).run P w = .ok true w)(zE:∀w,(Go.sizeOf (ρ.t 24)).run P w = .ok (szT F (.st n)) w)
  (hf:bX F (.st n)=true) (h0:0<szT F (.st n)) (hent:bH P (ρ.f 6)) (hmp:(Ty.st n).isMp=false:=by rfl) :
  FnOk (F:=F) P (ρ.f 6) ⟨[.row (.st n) false,.fn [.st n,.st n] (.int .i64)],[],λa=>sortG (.st n) a.2.1 a.1⟩:=by
 refine⟨hent,?_⟩;intro a r hr imm w vs pls bxs hheld hpl himm;obtain⟨l,φ,u⟩:=a;obtain⟨v,vs',p1,p2,b1,b2,rfl,rfl,rfl,⟨pl,rfl,rfl,hrow,hv⟩,v2,vs2,p3,p4,b3,b4,rfl,rfl,rfl,⟨rfl,rfl,hfn⟩,rfl,rfl,rfl⟩:=hheld;obtain⟨fid,bound,captured,rfl,hbd,hcan,hcall⟩:=hfn
 have hb0:bound = []:=hbd.resolve_right (by simp)
 subst hb0;dsimp only at hr
 have hv:OwnV pl v:=by unfold RowX at hv;rw[if_neg (by rw[hmp];simp)]at hv;exact hv
 have hrow0:=hrow;rw[cE hmp]at hrow
 cases l with
 | nil=>
  have hr':r = []:=(Option.some.inj hr).symm;subst hr'
  have hp:∃p cap,v = .slice p 0 cap:=by
   cases pl with
   | none=>obtain⟨p,rfl⟩:=hv;exact⟨_,_,rfl⟩
   | some q=>obtain⟨b,cap,n⟩:=q;obtain⟨rfl,_⟩:=hrow;cases hv;exact⟨_,_,rfl⟩
  obtain⟨p,cap,rfl⟩:=hp;refine(Proofs.AnyF.slices_SortFunc_none L p cap (.func (.func fid) ⟨[]⟩ ⟨captured⟩) w).mono ?_;rintro e w' ⟨rfl,rfl⟩
  exact⟨[],imm,[],rfl,rfl,rfl,rfl,Nat.le_refl _,Nat.le_refl _,λ_ _ _=>rfl,λ_ h=>h,λ_ h=>.inl h,himm,⟨pl,rfl,rfl,hrow0,rfl⟩,by simpa[ar,plBlks,nbl]using hpl,by intro b hb;exact .inl (by simpa[ar,plBlks,nbl]using hb)⟩
 | cons x0 l0=>
  have hr2:(if okG (cG (phi2 φ) (x0::l0) x0) (l0.length+1)&&decide (l0.length<1000000000)then some (isort (ltG (phi2 φ)) (x0::l0))else none)=some r:=hr
  split at hr2
  rotate_left
  ·cases hr2
  rename_i hc;simp only[Bool.and_eq_true,decide_eq_true_eq]at hc;obtain⟨hok,hlen⟩:=hc;have hr':r=isort (ltG (phi2 φ)) (x0::l0):=(Option.some.inj hr2).symm;clear hr hr2;subst hr'
  cases pl with
  | none=>cases hrow
  | some q=>
  obtain⟨b,cap,n'⟩:=q;obtain⟨rfl,hle,hmx,cur,e,hb,hcl,hcr⟩:=hrow;cases hv;obtain⟨k1,k2,k3,k4⟩:=zo hok;have hl0:(x0::l0:List (ET F (.st n))).length=l0.length+1:=rfl;rw[← hl0]at k1 k2 k3 k4
  have cget:∀i j:Fin (x0::l0:List (ET F (.st n))).length,cG (phi2 φ) (x0::l0) x0 i.1 j.1=phi2 φ ((x0::l0).get i) ((x0::l0).get j):=by
   intro i j;unfold cG getG
   have gd:∀q:Fin (x0::l0:List (ET F (.st n))).length,(x0::l0:List (ET F (.st n))).getD q.1 x0=(x0::l0:List (ET F (.st n))).get q:=by intro q;rw[List.getD_eq_getElem?_getD,Hr q.2];rfl
   rw[gd,gd]
  have hlen':(x0::l0:List (ET F (.st n))).length<4611686018427387904:=by rw[hl0];omega
  generalize hl:(x0::l0:List (ET F (.st n)))=l at *
  have hne:0<l.length:=by rw[← hl];simp
  haveI:Inhabited (Fin l.length):=⟨⟨0,hne⟩⟩
  have hval:∀i j:Fin l.length,∃a,phi2 φ (l.get i) (l.get j)=some a:=λi j=>by obtain⟨a,ha⟩:=k1 i.1 j.1 i.2 j.2;exact⟨a,(cget i j).symm.trans ha⟩
  have cfv:∀(i j:Fin l.length)(a:Int),phi2 φ (l.get i) (l.get j)=some a→(phi2 φ (l.get i) (l.get j)).getD 0=a:=λi j a h=>by rw[h];rfl
  have hlt:∀(i j:Fin l.length)(a:Int),phi2 φ (l.get i) (l.get j)=some a→ltG (phi2 φ) (l.get i) (l.get j)=decide (a<0):=λi j a h=>by unfold ltG;rw[h]
  have hcf:Proofs.ltOf (λi j:Fin l.length=>(phi2 φ (l.get i) (l.get j)).getD 0) = λi j=>ltG (phi2 φ) (l.get i) (l.get j):=by
   funext i j
   obtain⟨a,ha⟩:=hval i j;rw[hlt i j a ha];show decide ((phi2 φ (l.get i) (l.get j)).getD 0<0)=_;rw[ha];rfl
  have irr:∀i:Fin l.length,ltG (phi2 φ) (l.get i) (l.get i)=false:=λi=>by obtain⟨a,ha⟩:=hval i i;rw[hlt i i a ha];exact decide_eq_false (k2 i.1 a i.2 ((cget i i).trans ha))
  have tri:∀i j:Fin l.length,i≠j→(ltG (phi2 φ) (l.get i) (l.get j)=true↔ltG (phi2 φ) (l.get j) (l.get i)=false):=λi j hij=>by obtain⟨a,ha⟩:=hval i j;obtain⟨a',ha'⟩:=hval j i;rw[hlt i j a ha,hlt j i a' ha',decide_eq_true_eq,decide_eq_false_iff_not];exact k3 i.1 j.1 a a' i.2 j.2 (λh=>hij (Fin.ext h)) ((cget i j).trans ha) ((cget j i).trans ha')
  have trn:∀i j k:Fin l.length,ltG (phi2 φ) (l.get i) (l.get j)=true→ltG (phi2 φ) (l.get j) (l.get k)=true→ltG (phi2 φ) (l.get i) (l.get k)=true:=λi j k=>by obtain⟨a,ha⟩:=hval i j;obtain⟨a',ha'⟩:=hval j k;obtain⟨a'',ha''⟩:=hval i k;rw[hlt i j a ha,hlt j k a' ha',hlt i k a'' ha'',decide_eq_true_eq,decide_eq_true_eq,decide_eq_true_eq];exact k4 i.1 j.1 k.1 a a' a'' i.2 j.2 k.2 ((cget i j).trans ha) ((cget j k).trans ha') ((cget i k).trans ha'')
  have asy:∀i j:Fin l.length,ltG (phi2 φ) (l.get i) (l.get j)=true→ltG (phi2 φ) (l.get j) (l.get i)=false:=λi j h=>by
   by_cases hij:i=j
   ·subst hij;rw[irr i]at h;cases h
   ·exact(tri i j hij).1 h
  have hT:∀i j:Fin l.length,ltG (phi2 φ) (l.get i) (l.get j)=false→ltG (phi2 φ) (l.get j) (l.get i)=false→i=j:=λi j h h'=>by
   by_cases hij:i=j
   ·exact hij
   ·have:=(tri i j hij).2 h';rw[h]at this;cases this
  have ntr:∀i j k:Fin l.length,ltG (phi2 φ) (l.get i) (l.get j)=false→ltG (phi2 φ) (l.get j) (l.get k)=false→ltG (phi2 φ) (l.get i) (l.get k)=false:=λi j k h h'=>by
   by_cases hij:i=j
   ·subst hij;exact h'
   ·by_cases hjk:j=k
    ·subst hjk;exact h
    ·have h1:ltG (phi2 φ) (l.get j) (l.get i)=true:=(tri j i (λh=>hij h.symm)).2 h;have h2:ltG (phi2 φ) (l.get k) (l.get j)=true:=(tri k j (λh=>hjk h.symm)).2 h';exact asy k i (trn k j i h2 h1)
  have hO:Sort.SWO (Proofs.ltOf (λi j:Fin l.length=>(phi2 φ (l.get i) (l.get j)).getD 0)):=by rw[hcf];exact⟨irr,trn,ntr⟩
  have hblk:b<w.heap.size:=(Array.getElem?_eq_some_iff.1 hb).1
  have hnimm:¬ imm b:=hpl.imm b (by simp[ar,plBlks,nbl])
  have hk:∀i:Fin l.length,(encL (.st n) (l.get i)).length=szT F (.st n):=λi=>by rw[encL,List.length_map,aG]
  have h1:∀i:Fin l.length,∀v∈encL (.st n) (l.get i),v.oneCell'=true:=λi v hv=>by obtain⟨d,_,rfl⟩:=List.mem_map.1 hv;exact CS
  have flatAt:∀(s:List (Fin l.length)) (j:Nat) (d:ND F),(cells F (.st n) (s.map l.get))[j]? = some d→j<s.length*szT F (.st n)∧(Sort.flatK (λi:Fin l.length=>encL (F:=F) (.st n) (l.get i)) (szT F (.st n)) s.toArray)[j]! = encV d∧d.smp=true:=by
   intro s j d hd
   have hj:j<s.length*szT F (.st n):=by
    have:=(Hs.1 hd).1
    rwa [av,List.length_map]at this
   obtain⟨e',he1,he2⟩:=wK h0 (es:=(s.map l.get).map (encT F (.st n))) (by intro e he;obtain⟨y,_,rfl⟩:=List.mem_map.1 he;exact aG F _ y) hd
   rw[List.getElem?_map]at he1;obtain⟨y,hy1,hy2⟩:=Option.map_eq_some_iff.1 he1;subst hy2;rw[List.getElem?_map]at hy1;obtain⟨i,hi1,hi2⟩:=Option.map_eq_some_iff.1 hy1;subst hi2;refine⟨hj,?_,AB hf (l.get i) d (List.mem_of_getElem? he2)⟩
   rw[Sort.get_flatK _ _ _ _ (by simpa using hj)]
   have e1:(s.toArray)[j / szT F (.st n)]! = i:=by rw[getElem!_def];simp[hi1]
   rw[e1]
   have e2:(encL (F:=F) (.st n) (l.get i))[j % szT F (.st n)]? = some (encV d):=by unfold encL;rw[List.getElem?_map,he2];rfl
   rw[getElem!_def,e2]
  have hfr:(List.finRange l.length).map l.get=l:=by
   apply List.ext_getElem?;intro i;rw[List.getElem?_map];by_cases hi:i<l.length
   ·rw[Hr (by simpa using hi),Hr hi]
    simp
   ·rw[List.getElem?_eq_none (by simpa using hi),List.getElem?_eq_none (by omega)]
    rfl
  have hH:Sort.HoldsK (λi:Fin l.length=>encL (F:=F) (.st n) (l.get i)) (szT F (.st n)) w b 0 (List.finRange l.length).toArray:=by
   intro j hj;rw[Sort.size_flatK]at hj
   have hj':j<(cells F (.st n) l).length:=by rw[av];simpa using hj
   have hjc:j<cur.length:=by rw[hcl];have:l.length*szT F (.st n)≤cap*szT F (.st n):=Nat.mul_le_mul_right _ hle;rw[av]at hj';omega
   have hat:=flatAt (List.finRange l.length) j _ (by rw[hfr];exact Hr hj')
   obtain⟨_,q1,q2⟩:=hat;have q3:=AJ q2 (hcr j _ _ (Hr hj') (Hr hjc));refine⟨?_,?_⟩
   ·simp only[World.cell?,hb,Nat.zero_add];rw[q1,← q3];simp[hjc]
   ·simp[World.frozen?,hb]
  have hcmp:Proofs.CmpLays P fid ⟨captured⟩ (λi:Fin l.length=>encL (F:=F) (.st n) (l.get i)) (szT F (.st n)) (λi j:Fin l.length=>(phi2 φ (l.get i) (l.get j)).getD 0) b 0 (List.finRange l.length).toArray.size w:=by
   intro m os dk hdk i j;obtain⟨c,hc⟩:=hval i j;have ec:(phi2 φ (l.get i) (l.get j)).getD 0=c:=cfv i j c hc;dsimp only;rw[ec]
   have rp:∀(z:ET F (.st n)) (W:World),RepT W imm (encT F (.st n) z,true) (.agg ⟨encL (.st n) z⟩):=by
    intro z W
    refine .agg (by simp[encL]) ?_
    intro j d v h h';simp only[encL,List.getElem?_map,h,Option.map_some,Option.some.injEq]at h';subst h';exact yF (AB hf z d (List.mem_of_getElem? h))
   have hw:=hcall (Proofs.sortWorldK (λi:Fin l.length=>encL (F:=F) (.st n) (l.get i)) (szT F (.st n)) w b 0 m dk os) imm (λb' hb'=>⟨hb',yA (λe=>hnimm (e▸hb')) (himm b' hb')⟩) (λb' hb'=>Nat.lt_of_lt_of_le (himm b' hb') tI) (l.get i,l.get j,()) c
    [.agg ⟨encL (.st n) (l.get i)⟩,.agg ⟨encL (.st n) (l.get j)⟩] hc (by
     refine⟨rfl,?_⟩;intro q d v h h'
     match q with
     | 0=>simp only[encTs,List.getElem?_cons_zero,Option.some.injEq]at h h';subst h h';exact rp _ _
     | 1=>simp only[encTs,List.getElem?_cons_succ,List.getElem?_cons_zero,Option.some.injEq]at h h';subst h h';exact rp _ _
     | q+2=>simp[encTs]at h)
   have ea:(#[.agg (encL (.st n) (l.get i)).toArray,.agg (encL (.st n) (l.get j)).toArray]++⟨captured⟩:Array Value)=⟨[.agg ⟨encL (.st n) (l.get i)⟩,.agg ⟨encL (.st n) (l.get j)⟩]++captured⟩:=by apply Array.ext';simp
   rw[ea];refine hw.mono ?_;rintro e' w'' ⟨v',rfl,hbl,hrt,hdr⟩;refine⟨?_,Bo hbl hdr⟩
   cases hrt with
   | one h=>rw[AJ rfl h];rfl
  have main:=Proofs.AnyQ.slices_SortFunc_total L (szT F (.st n)) aE zE (λi:Fin l.length=>encL (F:=F) (.st n) (l.get i)) hk h1 (λi j:Fin l.length=>(phi2 φ (l.get i) (l.get j)).getD 0) hO fid ⟨captured⟩ b 0 cap (List.finRange l.length).toArray w (λargs w=>xE hcan args w) hcmp hH hblk (by rw[List.size_toArray,List.length_finRange];exact hlen') (by rw[hcf];exact hT)
  rw[show(List.finRange l.length).toArray.size=l.length by simp]at main
  refine main.mono ?_;rintro e' w' ⟨rfl,m,os,rfl⟩
  have hs:((List.finRange l.length).toArray.toList.mergeSort λx y=>!(Proofs.ltOf (λi j:Fin l.length=>(phi2 φ (l.get i) (l.get j)).getD 0)) y x)=isort (λi j:Fin l.length=>ltG (phi2 φ) (l.get i) (l.get j)) (List.finRange l.length):=by
   rw[hcf];show(List.finRange l.length).mergeSort _=_;refine List.Perm.eq_of_pairwise (le:=λi j=>ltG (phi2 φ) (l.get j) (l.get i)=false) (λi j _ _ h h'=>(hT i j h' h)) ?_ ?_ ((List.mergeSort_perm _ _).trans mT.symm)
   ·have:=List.pairwise_mergeSort (le:=λi j:Fin l.length=>!(ltG (phi2 φ) (l.get j) (l.get i))) (by
     intro i j k h h';simp only[Bool.not_eq_true']at h h' ⊢
     exact ntr k j i h' h) (by
     intro i j
     cases h:ltG (phi2 φ) (l.get j) (l.get i)with
     | false=>rfl
     | true=>rw[asy j i h];rfl) (List.finRange l.length)
    refine this.imp ?_;intro i j h;simpa using h
   ·exact zk (λi j k h h'=>ntr k j i h' h) asy
  rw[hs]
  have hm:(isort (λi j:Fin l.length=>ltG (phi2 φ) (l.get i) (l.get j)) (List.finRange l.length)).map l.get=isort (ltG (phi2 φ)) l:=by rw[xK (lt:=ltG (phi2 φ)) l.get (λ_ _=>rfl),hfr]
  have hsl:(isort (λi j:Fin l.length=>ltG (phi2 φ) (l.get i) (l.get j)) (List.finRange l.length)).length=l.length:=by rw[mT.length_eq];simp
  rw[← hm];generalize(isort (λi j:Fin l.length=>ltG (phi2 φ) (l.get i) (l.get j)) (List.finRange l.length))=s at *;refine⟨[],imm,[],rfl,rfl,rfl,rfl,?_,tI,?_,λ_ h=>h,λ_ h=>.inl h,λb' hb'=>Nat.lt_of_lt_of_le (himm b' hb') tI,⟨some (b,cap,l.length,[]),rfl,rfl,Eq.mpr (cE hmp) ?_,rfl⟩,⟨?_,?_,?_⟩,?_⟩
  ·simp[Proofs.sortWorldK,Sort.grow,Sort.putRowK,Sort.putRow,Sort.mapBlock,Sort.ahead]
  ·intro b' hlt hno
   exact yA (λe=>hno (by simp[ar,plBlks,nbl,e])) hlt
  ·refine⟨by rw[List.length_map,hsl],by rw[List.length_map,hsl];exact hle,hmx,(Sort.putCells id 0 (Sort.flatK (λi:Fin l.length=>encL (F:=F) (.st n) (l.get i)) (szT F (.st n)) s.toArray) ⟨cur⟩).toList,e,EF hb,?_,?_⟩
   ·simp[Sort.putCells,hcl]
   ·intro j d x hd hx;obtain⟨q0,q1,q2⟩:=flatAt s j d hd;simp only[Sort.putCells,Array.toList_mapIdx,List.getElem?_mapIdx]at hx
    cases hcj:cur[j]? with
    | none=>simp[hcj]at hx
    | some y=>
     simp only[hcj,Option.map_some,Option.some.injEq,Nat.zero_le,true_and,Nat.zero_add,Nat.sub_zero,Sort.size_flatK,id]at hx
     rw[if_pos (by simpa using q0),q1]at hx
     subst hx;exact yF q2
  ·simp[ar,plBlks,nbl]
  ·intro b' hb'
   exact hpl.imm b' (by simpa[ar,plBlks,nbl]using hb')
  ·intro b' hb'
   exact Nat.lt_of_lt_of_le (hpl.lt b' (by simpa[ar,plBlks,nbl]using hb')) tI
  ·intro b' hb'
   exact .inl (by simpa[ar,plBlks,nbl]using hb')
theorem BW{c c':Nat→Nat→Option Int}{n:Nat}(h:∀i j,i<n→j<n→c i j=c' i j):okG c n=okG c' n:=by
 unfold okG
 have al:∀(f g:Nat→Bool),(∀i,i<n→f i=g i)→(List.range n).all f=(List.range n).all g:=by intro f g hfg;rw[Bool.eq_iff_iff];simp only[List.all_eq_true,List.mem_range];exact⟨λhf i hi=>(hfg i hi)▸hf i hi,λhg i hi=>(hfg i hi)▸hg i hi⟩
 refine al _ _ λi hi=>al _ _ λj hj=>?_;rw[h i j hi hj,h j i hj hi]
 have e:((List.range n).all λk=>match c j k,c i k with | some a',some b'=>true&&false | _,_=>false)=((List.range n).all λk=>match c' j k,c' i k with | some a',some b'=>true&&false | _,_=>false):=al _ _ λk hk=>by rw[h j k hj hk,h i k hi hk]
 cases hc:c' i j with
 | none=>rfl
 | some a=>
  cases hc2:c' j i with
  | none=>rfl
  | some b=>
   dsimp only
   congr 1
   exact al _ _ λk hk=>by rw[h j k hj hk,h i k hi hk]
theorem uk{α : Type}{lt lt':α→α→Bool}:∀{l:List α},(∀x∈l,∀y∈l,lt x y=lt' x y)→isort lt l=isort lt' l
 | [],_=>rfl
 | x::l,h=>by
  have ih:isort lt l=isort lt' l:=uk λa ha b hb=>h a (by simp[ha]) b (by simp[hb])
  have ins:∀m:List α,(∀y∈m,y∈l)→insG lt x m=insG lt' x m:=by
   intro m
   induction m with
   | nil=>intro _;rfl
   | cons y m ihm=>
    intro hm;simp only[insG]
    rw[h y (by simp[hm y (by simp)]) x (by simp),ihm λz hz=>hm z (by simp[hz])]
  simp only[isort];rw[ih];exact ins _ λy hy=>mT.mem_iff.1 hy
theorem Dd{t:Ty}{φ φ':TupT F [t,t]→Option (ET F (.int .i64))}(h:∀a,Lo (φ a) (φ' a))(l:List (ET F t)):Lo (sortG t φ l) (sortG t φ' l):=by
 constructor;intro r hr;unfold sortG at hr ⊢
 cases l with
 | nil=>exact hr
 | cons x l=>
  simp only[sortA]at hr ⊢;by_cases hc:(okG (cG (phi2 φ) (x::l) x) (l.length+1)&&decide (l.length<1000000000))=true
  rotate_left
  ·rw[if_neg hc]at hr;cases hr
  rw[if_pos hc]at hr;rw[Bool.and_eq_true]at hc;have k1:=(zo hc.1).1
  have eqv:∀i j,i<l.length+1→j<l.length+1→cG (phi2 φ) (x::l) x i j=cG (phi2 φ') (x::l) x i j:=by intro i j hi hj;obtain⟨a,ha⟩:=k1 i j hi hj;rw[ha];exact((h (getG (x::l) x i,getG (x::l) x j,())).ok a ha).symm
  rw[← BW eqv,if_pos (by rw[Bool.and_eq_true];exact hc)]
  rw[← hr]
  congr 1
  refine(uk ?_).symm;intro y hy z hz;obtain⟨i,hi,ei⟩:=List.getElem_of_mem hy;obtain⟨j,hj,ej⟩:=List.getElem_of_mem hz
  have e:=eqv i j (by simpa using hi) (by simpa using hj)
  have g1:getG (x::l) x i=y:=by unfold getG;rw[List.getD_eq_getElem?_getD,Hr hi,ei];rfl
  have g2:getG (x::l) x j=z:=by unfold getG;rw[List.getD_eq_getElem?_getD,Hr hj,ej];rfl
  unfold cG at e;rw[g1,g2]at e;unfold ltG;rw[e]
end
end Go.Fx
namespace Go.Fx
open Go Go.Proofs Go.RowKit
set_option linter.unusedVariables false
set_option linter.unusedSimpArgs false
def del{α : Type}(l:List α)(i j:Int):Option (List α):=if 0≤i∧i≤j∧j≤l.length then some (l.take i.toNat++l.drop j.toNat)else none
def AP(P:Program)(f:FuncId)(ts e sz:Nat):Prop:=
 ∀(b n cap i j:Nat)(w:World),n≤cap→cap≤9223372036854775807→i<j→j≤n→∀(i0:TypeInfo),P.info? e=some i0→i0.size=sz→∀(A:Addr),(if cap=j then some (⟨b,0,none⟩:Addr)else some ⟨b,j*sz,none⟩)=some A→∀(news:List Value),
  Hid (news.length=(n - j)*sz)→Hid (∀t u,news[t]? = some u→w.drew.cell? (A.add t)=some u)→Hid (∀u∈news,u.oneCell'=true)→
  Hid (∀t,t<news.length→(w.drew.cell? ⟨b,0+i*sz+t,none⟩).isSome=true∧w.drew.frozen? ⟨b,0+i*sz+t,none⟩=false)→
  ∀(W1 W2:World),Hid (W1=w.drew.setCells b (0+i*sz) news)→
  (∀ty,(Builtin.clear_ #[ts] ty #[.slice (some ⟨b,(i+(n - j))*sz,none⟩) (n - (i+(n - j))) (cap - (i+(n - j)))]).run P W1 = .ok (.tuple #[]) W2)→
  Calls P f #[.slice (some ⟨b,0,none⟩) n cap,.int .i64 i,.int .i64 j] w λe w'=>e = .returned (.slice (some ⟨b,0,none⟩) (i+(n - j)) cap)∧w'=W2
def AQ(P:Program)(f:FuncId):Prop:=
 (∀(b n cap i:Nat)(w:World),n≤cap→i≤n→Calls P f #[.slice (some ⟨b,0,none⟩) n cap,.int .i64 i,.int .i64 i] w λe w'=>e = .returned (.slice (some ⟨b,0,none⟩) n cap)∧w'=w)∧
 ∀(p:Option Addr)(w:World),Calls P f #[.slice p 0 0,.int .i64 0,.int .i64 0] w λe w'=>e = .returned (.slice p 0 0)∧w'=w
section
variable{F:Fam}{P:Program}{T:TypeId→Option (TI F)}
theorem yU{w:World}{b o:Nat}{cur vs:List Value}{t:TypeId}(hb:w.heap[b]? = some (.cells ⟨cur⟩ t (0,0)))(hl:o+vs.length≤cur.length)(h1:∀v∈vs,v.oneCell'=true) :
  w.setCells b o vs=w.setRow b (cur.take o++vs++cur.drop (o+vs.length)).toArray:=by
 have r1:=run_storeCells_at (default:Program) b o t vs 0 ⟨cur⟩ w hb (by simpa using hl) h1
 have r2:=run_storeCells_cells (P:=(default:Program)) b o vs 0 w (by
  intro j hj;simp only[World.cell?,hb,Nat.add_zero];simp
  omega) (by
  intro j hj;simp[World.frozen?,hb]) h1
 rw[r1]at r2;simp only[Nat.add_zero]at r2
 injection r2 with _ h
 exact h.symm
theorem Ha(hT:TblOk P T){f ts e sz:Nat}{t:Ty}{te:TI F}(hte:T e=some te)(htt:te.ty=some t)(hsz:te.size=sz)(h0:0<sz)(hts:P.underlying ts=some (.slice e))(hent:bH P f)(wn:AQ P f)(wb:AP P f ts e sz)(hmp:t.isMp=false:=by rfl) :
  FnOk (F:=F) P f ⟨[.v (.slice t) [0],.v (.int .i64) [],.v (.int .i64) []],[.v (.slice t) [0]],λa=>del a.1 a.2.1 a.2.2.1⟩:=by
 refine⟨hent,?_⟩;intro a r hr imm w vs pls bxs hheld hpl himm;obtain⟨l,i,j,u⟩:=a;have hr:del l i j=some r:=hr;unfold del at hr;split at hr
 rotate_left
 ·cases hr
 rename_i hc;have c1:(0:Int)≤i:=hc.1;have c2:(i:Int)≤j:=hc.2.1;have c3:(j:Int)≤((List.length l:Nat):Int):=hc.2.2;have c4:(0:Int)≤j:=Int.le_trans c1 c2;have hr':r=l.take i.toNat++l.drop j.toNat:=(Option.some.inj hr).symm;clear hr;obtain⟨i',rfl⟩:∃i':Nat,i=i':=⟨Int.toNat i,(Int.toNat_of_nonneg c1).symm⟩;obtain⟨j',rfl⟩:∃j':Nat,j=j':=⟨Int.toNat j,(Int.toNat_of_nonneg c4).symm⟩;simp only[Int.toNat_natCast]at hr';obtain⟨v,vs',p1,p2,b1,b2,rfl,rfl,rfl,⟨h1,rfl⟩,v2,vs2,p3,p4,b3,b4,rfl,rfl,rfl,⟨h2,rfl⟩,v3,vs3,p5,p6,b5,b6,rfl,rfl,rfl,⟨h3,rfl⟩,rfl,rfl,rfl⟩:=hheld;unfold HeldV at h1 h2 h3;simp only[Ty.isSt,Bool.false_eq_true,if_false,encT,HeldC,memN,Nat.beq,if_true]at h1 h2 h3;obtain⟨pl,rest,rfl,hrow,hv,rfl⟩:=h1;rw[cE hmp]at hrow;rw[eM hmp]at hv;obtain⟨h2,rfl⟩:=h2;obtain⟨h3,rfl⟩:=h3;cases h2;cases h3;have ei:(⟨[v,.int .i64 (i':Int),.int .i64 (j':Int)]⟩:Array Value) = #[v,.int .i64 (i':Int),.int .i64 (j':Int)]:=rfl
 have held:∀(w':World)(pl':Pl)(v':Value),a_ w' imm t r pl'→OwnV pl' v'→bu P w' imm (outs ⟨[.v (.slice t) [0],.v (.int .i64) [],.v (.int .i64) []],[.v (.slice t) [0]],λa=>del a.1 a.2.1 a.2.2.1⟩) r [v'] [] [pl']:=by intro w' pl' v' k1 k2;refine⟨v',rfl,rfl,?_,rfl⟩;unfold HeldV;simp only[Ty.isSt,Bool.false_eq_true,if_false,encT,HeldC,memN,Nat.beq,if_true];exact⟨pl',[],rfl,Eq.mpr (cE hmp) k1,Eq.mpr (eM hmp) k2,rfl⟩
 by_cases hij:i'=j'
 ·subst hij
  have hrl:r=l:=by rw[hr',List.take_append_drop]
  have hcall:∃p n cap,v = .slice p n cap∧Calls P f #[.slice p n cap,.int .i64 i',.int .i64 i'] w λe w'=>e = .returned (.slice p n cap)∧w'=w:=by
   cases pl with
   | none=>
    obtain⟨p,rfl⟩:=hv
    have hl0:l.length=0:=by rw[hrow];rfl
    have hi0:i'=0:=by omega
    subst hi0;exact⟨p,0,0,rfl,wn.2 p w⟩
   | some q=>
    obtain⟨b,cap,n⟩:=q;obtain⟨rfl,hle,_⟩:=hrow;cases hv
    exact⟨_,_,_,rfl,wn.1 b _ cap i' w hle (by omega)⟩
  obtain⟨p,n,cap,rfl,hc⟩:=hcall;refine hc.mono ?_;rintro e' w' ⟨rfl,rfl⟩
  refine⟨[.slice p n cap],imm,[pl],rfl,rfl,rfl,rfl,Nat.le_refl _,Nat.le_refl _,λ_ _ _=>rfl,λ_ h=>h,λ_ h=>.inl h,himm,held _ _ _ (by rw[hrl];exact hrow) hv,by simpa[ar,plBlks,nbl]using hpl,by intro b hb;exact .inl (by simpa[ar,plBlks,nbl]using hb)⟩
 ·have hlt:i'<j':=by omega
  cases pl with
  | none=>
   have:l.length=0:=by rw[hrow];rfl
   omega
  | some q=>
  obtain⟨b,cap,n⟩:=q;obtain⟨rfl,hle,hmx,cur,e0,hb,hcl,hcr⟩:=hrow;cases hv
  have hszt:szT F t=sz:=by rw[← hsz];exact hT.ty e te t hte htt
  rw[hszt]at hcl;have hblk:b<w.heap.size:=(Array.getElem?_eq_some_iff.1 hb).1;obtain⟨i0,hi0,hs,_,z,hz,hzs,hzl,hzr⟩:=hT.info e te hte
  have hs':i0.size=sz:=by rw[hs,hsz]
  have hdb:w.drew.heap[b]? = some (.cells ⟨cur⟩ e0 (0,0)):=hb
  have hjl:j'≤l.length:=by omega
  have hcells:(cells F t l).length=l.length*sz:=by rw[av,hszt]
  have one:∀k x,k<l.length*sz→cur[k]? = some x→x.oneCell'=true:=by
   intro k x hk hx
   exact(hcr k _ x (Hr (by rw[hcells];exact hk)) hx).oneCell
  have hcapsz:l.length*sz≤cap*sz:=Nat.mul_le_mul_right _ hle;have hjsz:j'*sz≤l.length*sz:=Nat.mul_le_mul_right _ hjl
  have hisz:i'*sz≤j'*sz:=Nat.mul_le_mul_right _ (by omega)
  have hsub:(l.length - j')*sz=l.length*sz - j'*sz:=Nat.sub_mul _ _ _;have hsum:(i'+(l.length - j'))*sz=i'*sz+(l.length - j')*sz:=Nat.add_mul _ _ _
  have htl:(l.length - (i'+(l.length - j')))*sz=j'*sz - i'*sz:=by rw[show l.length - (i'+(l.length - j'))=j' - i' by omega,Nat.sub_mul]
  obtain⟨news,hnews⟩:∃news,news=(cur.drop (j'*sz)).take ((l.length - j')*sz):=⟨_,rfl⟩
  have nl:news.length=(l.length - j')*sz:=by rw[hnews,List.length_take,List.length_drop,hcl];omega
  have nget:∀k x,news[k]? = some x→cur[j'*sz+k]? = some x∧k<(l.length - j')*sz:=by intro k x hk;have hlt':=(Hs.1 hk).1;rw[nl]at hlt';rw[hnews,List.getElem?_take,if_pos hlt',List.getElem?_drop]at hk;exact⟨hk,hlt'⟩
  have n1:∀x∈news,x.oneCell'=true:=by
   intro x hx;obtain⟨k,hk⟩:=List.getElem?_of_mem hx;obtain⟨q1,q2⟩:=nget k x hk
   exact one _ x (by omega) q1
  obtain⟨A,hA,hsrc⟩:∃A:Addr,(if cap=j' then some (⟨b,0,none⟩:Addr)else some ⟨b,j'*sz,none⟩)=some A∧(∀k x,news[k]? = some x→w.drew.cell? (A.add k)=some x):=by
   by_cases h:cap=j'
   ·refine⟨⟨b,0,none⟩,by simp[h],λk x hk=>?_⟩
    have:=(nget k x hk).2
    rw[show l.length - j'=0 by omega]at this
    omega
   ·refine⟨⟨b,j'*sz,none⟩,by simp[h],λk x hk=>?_⟩
    rw[Addr.add_lit];simp only[World.cell?,hdb];simpa using(nget k x hk).1
  have w1e:w.drew.setCells b (0+i'*sz) news=w.drew.setRow b (cur.take (0+i'*sz)++news++cur.drop (0+i'*sz+news.length)).toArray:=yU hdb (by rw[nl,hcl];omega) n1
  have hb1:(w.drew.setRow b (cur.take (0+i'*sz)++news++cur.drop (0+i'*sz+news.length)).toArray).heap[b]? = some (.cells ⟨cur.take (0+i'*sz)++news++cur.drop (0+i'*sz+news.length)⟩ e0 (0,0)):=setRow_heap w.drew b _ _ e0 _ hdb;obtain⟨c1l,hc1⟩:∃c1l,c1l=cur.take (0+i'*sz)++news++cur.drop (0+i'*sz+news.length):=⟨_,rfl⟩;rw[← hc1]at w1e hb1
  have c1len:c1l.length=cap*sz:=by rw[hc1];simp only[Ht,List.length_take,List.length_drop,nl,hcl];omega
  obtain⟨zs,hzsd⟩:∃zs,zs=(Builtin.zeroCells z.cells (l.length - (i'+(l.length - j')))).toList:=⟨_,rfl⟩
  have zl:zs.length=j'*sz - i'*sz:=by rw[hzsd,Array.length_toList,size_zeroCells,hzs,hsz,htl]
  have z1:∀x∈zs,x.oneCell'=true:=by
   intro x hx
   have hzc:∀y∈z.cells.toList,y.oneCell'=true:=by
    intro y hy;obtain⟨k,hk⟩:=List.getElem?_of_mem hy
    have hkl:k<te.zero.length:=by have:=(Hs.1 hk).1;rw[hzl,← hzs];simpa using this
    exact(hzr w imm k _ y (Hr hkl) (by simpa using hk)).oneCell
   rw[hzsd]at hx;obtain⟨k,hk⟩:=List.getElem?_of_mem hx;have hk2:=(Hs.1 hk);obtain⟨hk3,hk4⟩:=hk2;simp only[Builtin.zeroCells]at hk4;simp at hk4;rw[← hk4]
   have hpos:0<z.cells.size:=by rw[hzs,hsz];exact h0
   have hlt3:k % z.cells.size<z.cells.size:=Nat.mod_lt _ hpos;rw[getElem!_pos z.cells _ hlt3]
   exact hzc _ (by simp)
  obtain⟨R,hR⟩:∃R,R=c1l.take ((i'+(l.length - j'))*sz)++zs++c1l.drop ((i'+(l.length - j'))*sz+zs.length):=⟨_,rfl⟩
  have hW2:∀(W1:World),W1.heap[b]? = some (.cells ⟨c1l⟩ e0 (0,0))→∀ty,(Builtin.clear_ #[ts] ty #[.slice (some ⟨b,(i'+(l.length - j'))*sz,none⟩) (l.length - (i'+(l.length - j'))) (cap - (i'+(l.length - j')))]).run P W1 =
    .ok (.tuple #[]) (W1.setRow b R.toArray):=by
   intro W1 hb1' ty
   have hst:=run_storeCells_at P b ((i'+(l.length - j'))*sz) e0 zs 0 ⟨c1l⟩ W1 hb1' (by rw[zl,hsum];show _≤c1l.length;rw[c1len];omega) z1
   simp only[Nat.add_zero]at hst;rw[← hR]at hst;clear hR
   obtain⟨m,hm⟩:∃m,l.length - (i'+(l.length - j'))=m+1:=⟨l.length - (i'+(l.length - j')) - 1,by omega⟩
   rw[hzsd,hm]at hst;rw[hm];simp[Builtin.clear_,run_underlying hts,zeroValue,typeInfo,hi0,hz,hst]
  have key:=wb b l.length cap i' j' w hle (by simp only[maxLen]at hmx;omega) hlt hjl i0 hi0 hs' A hA news nl hsrc n1 (λk hk=>by
   rw[nl]at hk;refine⟨?_,?_⟩
   ·simp only[World.cell?,hdb];simp;rw[hcl];omega
   ·simp[World.frozen?,hdb]) _ _ rfl (hW2 _ (by rw[w1e];exact hb1))
  refine key.mono ?_;rintro e' w' ⟨rfl,rfl⟩;rw[w1e]
  have rlen:r.length=i'+(l.length - j'):=by rw[hr',Ht,List.length_take,List.length_drop];omega
  have fin2:((w.drew.setRow b c1l.toArray).setRow b R.toArray).heap[b]? = some (.cells ⟨R⟩ e0 (0,0)):=setRow_heap _ b _ _ e0 _ hb1
  refine⟨[.slice (some ⟨b,0,none⟩) (i'+(l.length - j')) cap],imm,[some (b,cap,r.length,[])],rfl,rfl,rfl,rfl,Nat.le_succ _,?_,?_,λ_ h=>h,λ_ h=>.inl h,?_,held _ _ _ ⟨rfl,by rw[rlen];omega,hmx,_,e0,fin2,?_,?_⟩ ?_,⟨?_,?_,?_⟩,?_⟩
  ·have z1:(w.drew.setRow b c1l.toArray).heap.size=w.heap.size:=by simp[World.setRow]
   have z2:((w.drew.setRow b c1l.toArray).setRow b R.toArray).heap.size=(w.drew.setRow b c1l.toArray).heap.size:=by simp[World.setRow]
   rw[z2,z1];exact Nat.le_refl _
  ·intro b' hlt' hno
   have hne:b'≠b:=λh=>hno (by simp[ar,plBlks,nbl,h])
   rw[setRow_other _ b b' _ hne,setRow_other _ b b' _ hne];rfl
  ·intro b' hb'
   have z1:(w.drew.setRow b c1l.toArray).heap.size=w.heap.size:=by simp[World.setRow]
   have z2:((w.drew.setRow b c1l.toArray).setRow b R.toArray).heap.size=(w.drew.setRow b c1l.toArray).heap.size:=by simp[World.setRow]
   rw[z2,z1];exact himm b' hb'
  ·rw[hR,hszt];simp only[Ht,List.length_take,List.length_drop,zl,c1len];rw[hsum,hsub];omega
  ·intro k d x hd hx
   have hd:(cells F t (l.take i'++l.drop j'))[k]? = some d:=by rw[← hr'];exact hd
   rw[hR]at hx
   have rlen':(List.take i' l++List.drop j' l).length=i'+(l.length - j'):=by rw[← hr'];exact rlen
   have hkr:k<(i'+(l.length - j'))*sz:=by
    have:=(Hs.1 hd).1
    rwa [av,hszt,rlen']at this
   rw[hsum,hsub]at hkr
   rw[List.append_assoc,List.getElem?_append_left (by rw[List.length_take,c1len,hsum,hsub];omega),List.getElem?_take,if_pos (by rw[hsum,hsub];omega),hc1]at hx
   have mono:RepI w imm d x→RepI ((w.drew.setRow b c1l.toArray).setRow b R.toArray) imm d x:=λh=>h.mono (λ_ h=>h) (λb' hb'=>by
    have hne:b'≠b:=λe=>hpl.imm b (by simp[ar,plBlks,nbl]) (e▸hb')
    rw[setRow_other _ b b' _ hne,setRow_other _ b b' _ hne];rfl)
   apply mono
   have ct:cells F t (l.take i')=(cells F t l).take (i'*sz):=by have:=dL (F:=F) (l:=l) (a:=0) (n:=i');rw[hszt]at this;simpa[Fx.sub]using this
   have cd:cells F t (l.drop j')=(cells F t l).drop (j'*sz):=by
    have:=dL (F:=F) (l:=l) (a:=j') (n:=l.length);unfold Fx.sub at this
    rw[List.take_of_length_le (by simp),hszt]at this
    rw[this,List.take_of_length_le];rw[List.length_drop,hcells];omega
   rw[ck,ct,cd]at hd;by_cases hki:k<i'*sz
   ·rw[List.getElem?_append_left (by rw[List.length_take,hcells];omega),List.getElem?_take,if_pos hki]at hd
    rw[List.append_assoc,List.getElem?_append_left (by rw[List.length_take,hcl];omega),List.getElem?_take,if_pos (by omega)]at hx
    exact hcr k d x hd hx
   ·rw[List.getElem?_append_right (by rw[List.length_take,hcells];omega),List.length_take,hcells,Nat.min_eq_left (by omega),List.getElem?_drop]at hd
    rw[List.append_assoc,List.getElem?_append_right (by rw[List.length_take,hcl];omega),List.length_take,hcl,Nat.min_eq_left (by omega),List.getElem?_append_left (by rw[nl,hsub];omega)]at hx
    have q:=(nget _ x hx).1;rw[Nat.zero_add]at q;exact hcr _ d x hd q
  ·rw[rlen];rfl
  ·simp[plBlks,nbl]
  ·intro b' hb'
   exact hpl.imm b' (by simpa[ar,plBlks,nbl]using hb')
  ·intro b' hb'
   have:b'=b:=by simpa[ar,plBlks,nbl]using hb'
   subst this
   have z1:(w.drew.setRow b' c1l.toArray).heap.size=w.heap.size:=by simp[World.setRow]
   have z2:((w.drew.setRow b' c1l.toArray).setRow b' R.toArray).heap.size=(w.drew.setRow b' c1l.toArray).heap.size:=by simp[World.setRow]
   rw[z2,z1];exact hblk
  ·intro b' hb'
   exact .inl (by simpa[ar,plBlks,nbl]using hb')
end
end Go.Fx
namespace Go.Fx
open Go Go.Proofs Go.RowKit
set_option linter.unusedVariables false
set_option linter.unusedSimpArgs false
section
variable{P:Program}
theorem vr(w:World){o:Oper}{a:Act}{K:Act→World→Prop}{Q:Exit→Act→World→Prop}(d s:Operand)(t t':TypeId)
  (ho:o.op = .call { callee:=.builtin .copy,args:=#[d,s],argTypes:=#[t,t'] }) (v u:Value) (hd:a.eval d=v) (hs:a.eval s=u) {v':Value} {w':World}
  (hr:(Builtin.copy_ #[t,t'] o.type #[v,u]).run P w = .ok v' w') (h:K (a.put o.dst v') w'):o.wp P a w K Q:=by
 unfold Oper.wp execOp;simp only[ho,resolve,invoke,builtin,Sem.run_bind,Sem.run_pure,Result.andThen_ok,List.map_toArray,List.map_cons,List.map_nil,hd,hs,hr];exact h
theorem bL(w:World){ops:Array Oper}{rest:List Oper}{o:Oper}{a:Act}{Q:Exit→Act→World→Prop}(hgd:o.guard=none)(d s:Operand)(t t':TypeId)
  (ho:o.op = .call { callee:=.builtin .copy,args:=#[d,s],argTypes:=#[t,t'] }) (v u:Value) (hd:a.eval d=v) (hs:a.eval s=u) {v':Value} {w':World}
  (hr:(Builtin.copy_ #[t,t'] o.type #[v,u]).run P w = .ok v' w') (h:wpList P ops Q rest (a.put o.dst v') w'):wpList P ops Q (o::rest) a w:=
 wpList_plain hgd λ_ hK=>vr w d s t t' ho v u hd hs hr (hK _ _ h)
theorem cj{ops:Array Oper}{o:Oper}{a:Act}{w:World}{K:Act→World→Prop}{Q:Exit→Act→World→Prop}{E:Prop}
  (hg:o.guard=none) (d x:Operand) (dT sT:TypeId) (hop:o.op=Op.call { callee:=Callee.builtin Builtin.copy,args:=#[d,x],argTypes:=#[dT,sT] })
  (v u:Value) (hd:a.eval d=v) (hx:a.eval x=u) {v':Value} {w':World} (hr:(Builtin.copy_ #[dT,sT] o.type #[v,u]).run P w = .ok v' w') (hK:K (a.put o.dst v') w') :
  if Region.wanted o (yielded ops a.tmps)=true then Oper.wp P o a w K Q else E:=by
 rw[if_pos (by simp[Region.wanted,hg])]
 exact vr w d x dT sT hop v u hd hx hr hK
end
theorem oV{P:Program}{w:World}{t t1 ty e:TypeId}{j:TypeInfo}(hu:P.underlying t=some (.slice e))(hj:P.info? e=some j){b q dLen dCap:Nat}{p':Addr}{sLen sCap:Nat}{cur news:List Value}{e':TypeId}
  (hb:w.heap[b]? = some (.cells ⟨cur⟩ e' (0,0))) (hl:news.length=(min sLen dLen)*j.size) (hp:∀(k:Nat)(x:Value),news[k]? = some x→w.cell? (p'.add k)=some x)
  (h1:∀x∈news,x.oneCell'=true) (hfit:q+news.length≤cur.length) :
  (Builtin.copy_ #[t,t1] ty #[.slice (some ⟨b,q,none⟩) dLen dCap,.slice (some p') sLen sCap]).run P w =
    .ok (goInt ((min sLen dLen:Nat):Int)) (w.setRow b (cur.take q++news++cur.drop (q+news.length)).toArray):=by
 have hst:=run_storeCells_at P b q e' news 0 ⟨cur⟩ w hb (by simpa using hfit) h1
 simp only[Nat.add_zero]at hst;have hf:=run_firstCells_some (P:=P) w j.size (min sLen dLen) p' sLen sCap news hl hp;have hm:Nat.min sLen dLen=min sLen dLen:=rfl
 have hc:(((min sLen dLen:Nat)):Int)=min (sLen:Int) (dLen:Int):=by omega
 simp[Builtin.copy_,run_underlying hu,Builtin.lenOf,sizeOf,typeInfo,hj,hf,hm,hst,hc]
def ins{α : Type}(l:List α)(i:Int)(v:List α):Option (List α):=if 0≤i∧i≤l.length∧v.length=1∧l.length≤1000000 then some (l.take i.toNat++v++l.drop i.toNat)else none
def nS(P:Program)(f:FuncId)(ts sz:Nat)(ov:FuncId):Prop:=
 ∀(b n c i vb vc:Nat)(w W1 W2:World),i<n→n+1≤c→c≤9223372036854775807→
  (∀lb cb,(callFunc ov #[.slice (some ⟨vb,0,none⟩) 1 vc,.slice (some ⟨b,(i+1)*sz,none⟩) lb cb]).run P w = .ok (.value (.bool false)) w)→
  (∀ty dc sc,(Builtin.copy_ #[ts,ts] ty #[.slice (some ⟨b,(i+1)*sz,none⟩) (n - i) dc,.slice (some ⟨b,i*sz,none⟩) (n+1 - i) sc]).run P w.drew = .ok (goInt ((n - i:Nat):Int)) W1)→
  (∀ty dc,(Builtin.copy_ #[ts,ts] ty #[.slice (some ⟨b,i*sz,none⟩) (n+1 - i) dc,.slice (some ⟨vb,0,none⟩) 1 vc]).run P W1 = .ok (goInt ((1:Nat):Int)) W2)→
  Calls P f #[.slice (some ⟨b,0,none⟩) n c,.int .i64 i,.slice (some ⟨vb,0,none⟩) 1 vc] w λe w'=>e = .returned (.slice (some ⟨b,0,none⟩) (n+1) c)∧w'=W2
def pU(P:Program)(f:FuncId)(ts tn sz:Nat):Prop:=
 ∀(b n i vb vc nb G:Nat)(w W0 W1 W2:World),i<n→n≤1000000→n+1≤G→G≤9223372036854775807→
  (∀ty,(Builtin.append_ #[ts,tn] ty #[.slice (some ⟨b,0,none⟩) i n,.int .i64 ((n:Int)+1 - (i:Int))]).run P w = .ok (.slice (some ⟨nb,0,none⟩) (n+1) G) W0)→
  (∀ty dc,(Builtin.copy_ #[ts,ts] ty #[.slice (some ⟨nb,i*sz,none⟩) (n+1 - i) dc,.slice (some ⟨vb,0,none⟩) 1 vc]).run P W0 = .ok (goInt ((1:Nat):Int)) W1)→
  (∀ty dc sc,(Builtin.copy_ #[ts,ts] ty #[.slice (some ⟨nb,(i+1)*sz,none⟩) (n - i) dc,.slice (some ⟨b,i*sz,none⟩) (n - i) sc]).run P W1.drew = .ok (goInt ((n - i:Nat):Int)) W2)→
  Calls P f #[.slice (some ⟨b,0,none⟩) n n,.int .i64 i,.slice (some ⟨vb,0,none⟩) 1 vc] w λe w'=>e = .returned (.slice (some ⟨nb,0,none⟩) (n+1) G)∧w'=W2
def yJ{α : Type}(b:Nat)(s:List α)(i:Int)(v:List α):Option (List α):=
 (inS i (s.length:Int) s.length).bind λp=>bif(v.length:Int) == 0 then some s else bif i == (s.length:Int)then(app b s v).bind λl=>some l else none
section
variable{F:Fam}{P:Program}{T:TypeId→Option (TI F)}
theorem Bi{t:Ty}{l:List (ET F t)}{i:Nat}:cells F t (l.take i)=(cells F t l).take (i*szT F t):=by have:=dL (F:=F) (l:=l) (a:=0) (n:=i);simpa[Fx.sub]using this
theorem Ba{t:Ty}{l:List (ET F t)}{i:Nat}:cells F t (l.drop i)=(cells F t l).drop (i*szT F t):=by
 have:=dL (F:=F) (l:=l) (a:=i) (n:=l.length);unfold Fx.sub at this
 rw[List.take_of_length_le (by simp)]at this
 rw[this,List.take_of_length_le];rw[List.length_drop,av,Nat.sub_le_iff_le_add];omega
theorem xu{w:World}{imm:Nat→Prop}{t:Ty}{l:List (ET F t)}{b cap:Nat}{n:Nat×NS}(h:a_ w imm t l (some (b,cap,n))) :
  n=(l.length,[])∧l.length≤cap∧cap≤maxLen∧∃cur e,w.heap[b]? = some (.cells ⟨cur⟩ e (0,0))∧cur.length=cap*szT F t∧
   ∀(k:Nat)(d:ND F)(x:Value),(cells F t l)[k]? = some d→cur[k]? = some x→RepI w imm d x:=h
set_option maxHeartbeats 4000000 in
theorem vA(hT:TblOk P T){f ts e sz tn ov:Nat}{t:Ty}{te:TI F}{tb:TypeId}(hte:T e=some te)(htt:te.ty=some t)(hsz:te.size=sz)(h0:0<sz)(hbt:te.bytes≤1000)(hts:P.underlying ts=some (.slice e))(htn:P.underlying tn=some (.int .i64))(hent:bH P f)
  (hov:∀(w:World)(a b:Value),(Extern.SlicesOverlaps.overlaps #[ts,ts] #[tb] #[a,b]).run P w = .ok (.bool false) w→(callFunc ov #[a,b]).run P w = .ok (.value (.bool false)) w)
  (h:FnOk (F:=F) P f ⟨[.v (.slice t) [0],.v (.int .i64) [],.v (.slice t) [0]],[.v (.slice t) [0]],λa=>yJ te.bytes a.1 a.2.1 a.2.2.1⟩)
  (ws:nS P f ts sz ov) (wg:pU P f ts tn sz) (hmp:t.isMp=false:=by rfl) :
  FnOk (F:=F) P f ⟨[.v (.slice t) [0],.v (.int .i64) [],.v (.slice t) [0]],[.v (.slice t) [0]],λa=>ins a.1 a.2.1 a.2.2.1⟩:=by
 refine⟨hent,?_⟩;intro a r hr imm w vs pls bxs hheld hpl himm;obtain⟨l,i,y,u⟩:=a;have hr:ins l i y=some r:=hr;unfold ins at hr;split at hr
 rotate_left
 ·cases hr
 rename_i hc;have c1:(0:Int)≤i:=hc.1;have c2:(i:Int)≤((List.length l:Nat):Int):=hc.2.1;have c3:List.length y=1:=hc.2.2.1;have c4:List.length l≤1000000:=hc.2.2.2;have hr':r=l.take i.toNat++y++l.drop i.toNat:=(Option.some.inj hr).symm;clear hr hc;by_cases hend:(i:Int)=((List.length l:Nat):Int)
 ·
  refine h.2 (l,i,y,u) r ?_ imm w vs pls bxs hheld hpl himm;show yJ te.bytes l i y=some r;unfold yJ inS
  have hi:i.toNat=List.length l:=by rw[hend];exact Int.toNat_natCast _
  rw[if_pos ⟨c1,c2,by omega⟩,Hq,show(((List.length y:Nat):Int) == 0)=false by rw[c3];rfl,cond_false,show((i:Int) == ((List.length l:Nat):Int))=true by rw[beq_iff_eq];exact hend,cond_true]
  have happ:app te.bytes l y=some (l++y):=by
   unfold app;have e:(l++y).length=l.length+y.length:=Ht;rw[if_pos]
   have:(l++y).length*te.bytes≤1000001*1000:=Nat.mul_le_mul (by omega) hbt
   unfold maxLen;omega
  rw[happ,Hq,hr',hi,List.take_length,List.drop_length,List.append_nil];rfl
 obtain⟨i',rfl⟩:∃i':Nat,i=i':=⟨Int.toNat i,(Int.toNat_of_nonneg c1).symm⟩;rw[Int.toNat_natCast]at hr'
 have hlt:i'<List.length l:=by
  have h1:i'≤List.length l:=Int.ofNat_le.1 c2
  have h2:i'≠List.length l:=λe=>hend (by rw[e])
  omega
 obtain⟨v,vs',p1,p2,b1,b2,rfl,rfl,rfl,⟨h1,rfl⟩,v2,vs2,p3,p4,b3,b4,rfl,rfl,rfl,⟨h2,rfl⟩,v3,vs3,p5,p6,b5,b6,rfl,rfl,rfl,⟨h3,rfl⟩,rfl,rfl,rfl⟩:=hheld;unfold HeldV at h1 h2 h3;simp only[Ty.isSt,Bool.false_eq_true,if_false,encT,HeldC,memN,Nat.beq,if_true]at h1 h2 h3;obtain⟨pl,rest,rfl,hrow,hv,rfl⟩:=h1;rw[cE hmp]at hrow;rw[eM hmp]at hv;obtain⟨h2,rfl⟩:=h2;obtain⟨pl3,rest3,rfl,hrow3,hv3,rfl⟩:=h3;rw[cE hmp]at hrow3;rw[eM hmp]at hv3;cases h2
 have held:∀(w':World)(pl':Pl)(v':Value),a_ w' imm t r pl'→OwnV pl' v'→bu P w' imm (outs ⟨[.v (.slice t) [0],.v (.int .i64) [],.v (.slice t) [0]],[.v (.slice t) [0]],λa=>ins a.1 a.2.1 a.2.2.1⟩) r [v'] [] [pl']:=by intro w' pl' v' k1 k2;refine⟨v',rfl,rfl,?_,rfl⟩;unfold HeldV;simp only[Ty.isSt,Bool.false_eq_true,if_false,encT,HeldC,memN,Nat.beq,if_true];exact⟨pl',[],rfl,Eq.mpr (cE hmp) k1,Eq.mpr (eM hmp) k2,rfl⟩
 cases pl with
 | none=>have:l = []:=hrow;subst this;simp at hlt
 | some q=>
 cases pl3 with
 | none=>have:y = []:=hrow3;subst this;simp at c3
 | some q3=>
 obtain⟨b,cap,n⟩:=q;obtain⟨vb,vc,n3⟩:=q3;obtain⟨rfl,hle,hmx,cur,e0,hb,hcl,hcr⟩:=xu hrow;obtain⟨rfl,hle3,hmx3,cur3,e3,hb3,hcl3,hcr3⟩:=xu hrow3;cases hv;cases hv3;dsimp only at *;rw[c3]at hle3 ⊢
 have hszt:szT F t=sz:=by rw[← hsz];exact hT.ty e te t hte htt
 rw[hszt]at hcl hcl3;have hblk:b<w.heap.size:=(Array.getElem?_eq_some_iff.1 hb).1;have hblk3:vb<w.heap.size:=(Array.getElem?_eq_some_iff.1 hb3).1;obtain⟨j0,hj0,hjs,hjb,z,hz,hzs,hzl,hzr⟩:=hT.info e te hte
 have hjsz:j0.size=sz:=by rw[hjs,hsz]
 have hne:vb≠b:=by have:=hpl.nodup;simp[ar,plBlks,nbl]at this;exactλh=>this h.symm
 have hcells:(cells F t l).length=l.length*sz:=by rw[av,hszt]
 have hcells3:(cells F t y).length=sz:=by rw[av,hszt,c3,Nat.one_mul]
 have one:∀k x,k<l.length*sz→cur[k]? = some x→x.oneCell'=true:=λk x hk hx=>(hcr k _ x (Hr (by rw[hcells];exact hk)) hx).oneCell
 have one3:∀k x,k<sz→cur3[k]? = some x→x.oneCell'=true:=λk x hk hx=>(hcr3 k _ x (Hr (by rw[hcells3];exact hk)) hx).oneCell
 have hcapsz:l.length*sz≤cap*sz:=Nat.mul_le_mul_right _ hle;have hvcsz:1*sz≤vc*sz:=Nat.mul_le_mul_right _ hle3
 have hisz:(i'+1)*sz≤l.length*sz:=Nat.mul_le_mul_right _ (by omega)
 have hi1:(i'+1)*sz=i'*sz+sz:=by rw[Nat.add_mul,Nat.one_mul]
 have hl1:(l.length+1)*sz=l.length*sz+sz:=by rw[Nat.add_mul,Nat.one_mul]
 have hni:(l.length - i')*sz=l.length*sz - i'*sz:=Nat.sub_mul _ _ _;obtain⟨tl,htl⟩:∃tl,tl=(cur.drop (i'*sz)).take ((l.length - i')*sz):=⟨_,rfl⟩
 have tll:tl.length=(l.length - i')*sz:=by rw[htl,List.length_take,List.length_drop,hcl];omega
 have tlget:∀k x,tl[k]? = some x→cur[i'*sz+k]? = some x∧k<(l.length - i')*sz:=by intro k x hk;have hlt':=(Hs.1 hk).1;rw[tll]at hlt';rw[htl,List.getElem?_take,if_pos hlt',List.getElem?_drop]at hk;exact⟨hk,hlt'⟩
 have tl1:∀x∈tl,x.oneCell'=true:=by
  intro x hx;obtain⟨k,hk⟩:=List.getElem?_of_mem hx;obtain⟨q1,q2⟩:=tlget k x hk
  exact one _ x (by omega) q1
 obtain⟨nw,hnw⟩:∃nw,nw=cur3.take sz:=⟨_,rfl⟩
 have nwl:nw.length=sz:=by rw[hnw,List.length_take,hcl3];omega
 have nwget:∀k x,nw[k]? = some x→cur3[k]? = some x∧k<sz:=by intro k x hk;have hlt':=(Hs.1 hk).1;rw[nwl]at hlt';rw[hnw,List.getElem?_take,if_pos hlt']at hk;exact⟨hk,hlt'⟩
 have nw1:∀x∈nw,x.oneCell'=true:=by intro x hx;obtain⟨k,hk⟩:=List.getElem?_of_mem hx;obtain⟨q1,q2⟩:=nwget k x hk;exact one3 _ x q2 q1
 have row:∀(w':World)(b' cap':Nat)(R:List Value)(e':TypeId),l.length+1≤cap'→cap'≤maxLen→w'.heap[b']? = some (.cells ⟨R⟩ e' (0,0))→R.length=cap'*sz→(∀d x,RepI w imm d x→RepI (F:=F) w' imm d x)→
   (∀k,k<i'*sz→R[k]? = cur[k]?)→(∀k,k<sz→R[i'*sz+k]? = nw[k]?)→(∀k,k<(l.length - i')*sz→R[(i'+1)*sz+k]? = tl[k]?)→a_ w' imm t r (some (b',cap',l.length+1,[])):=by
  intro w' b' cap' R e' g1 g2 g3 g4 g5 r1 r2 r3
  have rl:r.length=l.length+1:=by rw[hr',Ht,Ht,List.length_take,List.length_drop,c3];omega
  refine⟨by rw[rl],by rw[rl];exact g1,g2,R,e',g3,by rw[hszt];exact g4,?_⟩
  intro k d x hd hx;apply g5;rw[hr',ck,ck,Bi,Ba,hszt]at hd
  have lA:((cells F t l).take (i'*sz)).length=i'*sz:=by rw[List.length_take,hcells];omega
  by_cases k1:k<i'*sz
  ·rw[r1 k k1]at hx
   rw[List.append_assoc,List.getElem?_append_left (by rw[lA];exact k1),List.getElem?_take,if_pos k1]at hd
   exact hcr k d x hd hx
  ·by_cases k2:k<(i'+1)*sz
   ·obtain⟨q,rfl⟩:∃q,k=i'*sz+q:=⟨k - i'*sz,by omega⟩
    rw[r2 q (by omega)]at hx
    rw[List.append_assoc,List.getElem?_append_right (by rw[lA];omega),lA,Nat.add_sub_cancel_left,List.getElem?_append_left (by rw[hcells3];omega)]at hd
    exact hcr3 q d x hd (nwget q x hx).1
   ·obtain⟨q,rfl⟩:∃q,k=(i'+1)*sz+q:=⟨k - (i'+1)*sz,by omega⟩
    rw[List.getElem?_append_right (by rw[Ht,lA,hcells3];omega),Ht,lA,hcells3,show(i'+1)*sz+q - (i'*sz+sz)=q by omega,List.getElem?_drop]at hd
    have hq:q<(l.length - i')*sz:=by have:=(Hs.1 hd).1;rw[hcells]at this;omega
    rw[r3 q hq]at hx;exact hcr _ d x hd (tlget q x hx).1
 have hdb:w.drew.heap[b]? = some (.cells ⟨cur⟩ e0 (0,0)):=hb;have hdb3:w.drew.heap[vb]? = some (.cells ⟨cur3⟩ e3 (0,0)):=hb3
 have hmax:cap≤9223372036854775807:=by simp only[maxLen]at hmx;omega
 have src3:∀(W:World),W.heap[vb]? = some (.cells ⟨cur3⟩ e3 (0,0))→∀p',some (⟨vb,0,none⟩:Addr)=some p'→∀(k:Nat)(x:Value),nw[k]? = some x→W.cell? (p'.add k)=some x:=by rintro W hW p' hp k x hk;cases hp;rw[Addr.add_lit];simp only[World.cell?,hW];simpa using(nwget k x hk).1
 by_cases hroom:l.length+1≤cap
 ·
  have hl1c:(l.length+1)*sz≤cap*sz:=Nat.mul_le_mul_right _ hroom
  have m1:min (l.length+1 - i') (l.length - i')=l.length - i':=by omega
  have m2:min 1 (l.length+1 - i')=1:=by omega
  have q1:=λty dc sc=>oV (P:=P) (w:=w.drew) (t:=ts) (t1:=ts) (ty:=ty) (q:=(i'+1)*sz) (dLen:=l.length - i') (dCap:=dc) (p':=⟨b,i'*sz,none⟩) (sLen:=l.length+1 - i') (sCap:=sc) (news:=tl) hts hj0 hdb (by rw[tll,m1,hjsz]) (λk x hk=>by
   rw[Addr.add_lit];simp only[World.cell?,hdb]
   simpa using(tlget k x hk).1) tl1 (by rw[tll,hcl];omega)
  rw[m1,tll]at q1;obtain⟨R1,hR1⟩:∃R1,R1=cur.take ((i'+1)*sz)++tl++cur.drop ((i'+1)*sz+(l.length - i')*sz):=⟨_,rfl⟩;rw[← hR1]at q1
  have R1l:R1.length=cap*sz:=by rw[hR1,Ht,Ht,List.length_take,List.length_drop,tll,hcl];omega
  have hb1:(w.drew.setRow b R1.toArray).heap[b]? = some (.cells ⟨R1⟩ e0 (0,0)):=setRow_heap w.drew b _ _ e0 _ hdb
  have hb31:(w.drew.setRow b R1.toArray).heap[vb]? = some (.cells ⟨cur3⟩ e3 (0,0)):=by rw[setRow_other _ b vb _ hne];exact hdb3
  have q2:=λty dc=>oV (P:=P) (w:=w.drew.setRow b R1.toArray) (t:=ts) (t1:=ts) (ty:=ty) (q:=i'*sz) (dLen:=l.length+1 - i') (dCap:=dc) (p':=⟨vb,0,none⟩) (sLen:=1) (sCap:=vc) (news:=nw) hts hj0 hb1 (by rw[nwl,m2,hjsz,Nat.one_mul]) (src3 _ hb31 _ rfl) nw1 (by rw[nwl,R1l];omega)
  rw[m2,nwl]at q2;obtain⟨R2,hR2⟩:∃R2,R2=R1.take (i'*sz)++nw++R1.drop (i'*sz+sz):=⟨_,rfl⟩;rw[← hR2]at q2
  have R2l:R2.length=cap*sz:=by rw[hR2,Ht,Ht,List.length_take,List.length_drop,nwl,R1l];omega
  have hb2:((w.drew.setRow b R1.toArray).setRow b R2.toArray).heap[b]? = some (.cells ⟨R2⟩ e0 (0,0)):=setRow_heap _ b _ _ e0 _ hb1
  have hfz:∀k,w.frozen? ⟨vb,k,none⟩=false:=λk=>by simp[World.frozen?,hb3]
  have ho:=λlb cb=>hov w _ _ (Lib.run_overlaps_apart w ts tb e hts sz (λw=>by simp[Go.sizeOf,typeInfo,hj0,hjsz]) ⟨vb,0,none⟩ ⟨b,(i'+1)*sz,none⟩ 1 vc lb cb hne e3 e0 cur3.length cur.length (by simp[World.shape?,hb3]) (by simp[World.shape?,hb]) (by rw[hcl];omega) (hfz 0) (hfz cur3.length))
  refine(ws b l.length cap i' vb vc w _ _ hlt hroom hmax ho q1 q2).mono ?_;rintro e' w' ⟨rfl,rfl⟩
  have s1:(w.drew.setRow b R1.toArray).heap.size=w.heap.size:=by simp[World.setRow]
  have s2:((w.drew.setRow b R1.toArray).setRow b R2.toArray).heap.size=w.heap.size:=by rw[← s1];simp[World.setRow]
  have oth:∀b',b'≠b→((w.drew.setRow b R1.toArray).setRow b R2.toArray).heap[b']? = w.heap[b']?:=λb' hb'=>by rw[setRow_other _ b b' _ hb',setRow_other _ b b' _ hb'];rfl
  refine⟨[.slice (some ⟨b,0,none⟩) (l.length+1) cap],imm,[some (b,cap,l.length+1,[])],rfl,rfl,rfl,rfl,Nat.le_succ _,by rw[s2];exact Nat.le_refl _,?_,λ_ h=>h,λ_ h=>.inl h,by rw[s2];exact himm,held _ _ _ (row _ b cap R2 e0 hroom hmx hb2 R2l ?_ ?_ ?_ ?_) rfl,⟨?_,?_,?_⟩,?_⟩
  ·intro b' hlt' hno
   exact oth b' λh=>hno (by simp[ar,plBlks,nbl,h])
  ·intro d x hd;refine hd.mono (λ_ h=>h) λb' hb'=>oth b' ?_;rintro rfl
   exact hpl.imm b' (by simp[ar,plBlks,nbl]) hb'
  ·intro k hk
   rw[hR2,List.append_assoc,List.getElem?_append_left (by rw[List.length_take,R1l];omega),List.getElem?_take,if_pos hk,hR1,List.append_assoc,List.getElem?_append_left (by rw[List.length_take,hcl];omega),List.getElem?_take,if_pos (by omega)]
  ·intro k hk
   have lT:(R1.take (i'*sz)).length=i'*sz:=by rw[List.length_take,R1l];omega
   rw[hR2,List.append_assoc,List.getElem?_append_right (by rw[lT];omega),lT,Nat.add_sub_cancel_left,List.getElem?_append_left (by rw[nwl];exact hk)]
  ·intro k hk
   have lT:(R1.take (i'*sz)).length=i'*sz:=by rw[List.length_take,R1l];omega
   have lU:(cur.take ((i'+1)*sz)).length=(i'+1)*sz:=by rw[List.length_take,hcl];omega
   rw[hR2,List.getElem?_append_right (by rw[Ht,lT,nwl];omega),Ht,lT,nwl,List.getElem?_drop,show i'*sz+sz+((i'+1)*sz+k - (i'*sz+sz))=(i'+1)*sz+k by omega,hR1,List.append_assoc,List.getElem?_append_right (by rw[lU];omega),lU,Nat.add_sub_cancel_left,List.getElem?_append_left (by rw[tll];exact hk)]
  ·simp[plBlks,nbl]
  ·intro b' hb'
   have:b'=b:=by simpa[plBlks,nbl]using hb'
   subst this
   exact hpl.imm b' (by simp[ar,plBlks,nbl])
  ·intro b' hb'
   have:b'=b:=by simpa[plBlks,nbl]using hb'
   subst this;rw[s2];exact hblk
  ·intro b' hb'
   have:b'=b:=by simpa[plBlks,nbl]using hb'
   subst this
   exact .inl (by simp[ar,plBlks,nbl])
 ·
  have hcap:cap=l.length:=by omega
  subst hcap
  have hkk:(l.length:Int)+1 - (i':Int)=((l.length+1 - i':Nat):Int):=by omega
  have hik:i'+(l.length+1 - i')=l.length+1:=by omega
  have hold:(Builtin.firstCells j0.size i' (.slice (some ⟨b,0,none⟩) i' l.length)).run P w.drew = .ok (cur.take (i'*sz)).toArray w.drew:=by
   refine run_firstCells_some w.drew j0.size i' ⟨b,0,none⟩ i' l.length (cur.take (i'*sz)) (by rw[List.length_take,hcl,hjsz];omega) λj v hj=>?_
   rw[Addr.add_lit];simp only[World.cell?,hdb];rw[List.getElem?_take]at hj;split at hj
   ·simpa using hj
   ·cases hj
  have hbig:(l.length+1)*j0.bytes≤140737488355328:=by
   have:(l.length+1)*j0.bytes≤1000001*1000:=Nat.mul_le_mul (by omega) (by rw[hjb];exact hbt)
   omega
  have hkb:(l.length+1 - i')*j0.bytes≤281474976710656:=by
   have:(l.length+1 - i')*j0.bytes≤1000001*1000:=Nat.mul_le_mul (by omega) (by rw[hjb];exact hbt)
   omega
  have q0:=λty=>Lib.run_append_grow_zeros w ts tn ty e j0 z .i64 .i64 hts htn hj0 hz (some ⟨b,0,none⟩) i' l.length (cur.take (i'*sz)) hold (l.length+1 - i') (by omega) (by rw[hjsz];exact h0) (by omega) (by omega) hkb (by rw[hik];exact growslice_fits (by omega) hbig)
  rw[hik,← hkk]at q0;obtain⟨G,hG⟩:∃G,G=grownCap w (l.length+1) l.length e:=⟨_,rfl⟩;rw[← hG]at q0
  have hGn:l.length+1≤G:=by rw[hG];exact grownCap_ge w _ _ _
  have hGm:G≤maxLen:=by rw[hG];exact grownCap_le_maxLen w _ _ _ (by unfold maxLen;omega)
  have hG63:G≤9223372036854775807:=by simp only[maxLen]at hGm;omega
  have zcl:z.cells.size=sz:=by rw[hzs,hsz]
  obtain⟨R0,hR0⟩:∃R0:List Value,R0=cur.take (i'*sz)++(Builtin.zeroCells z.cells (l.length+1 - i')).toList++(Builtin.zeroCells z.cells (G - (l.length+1))).toList:=⟨_,rfl⟩
  have hR0a:((cur.take (i'*sz)).toArray++Builtin.zeroCells z.cells (l.length+1 - i')++Builtin.zeroCells z.cells (G - (l.length+1)))=(⟨R0⟩:Array Value):=by rw[hR0];apply Array.ext';simp
  rw[hR0a]at q0
  have hsplit:i'*sz+((l.length+1 - i')*sz+(G - (l.length+1))*sz)=G*sz:=by
   rw[← Nat.add_mul,← Nat.add_mul]
   congr 1
   omega
  have R0l:R0.length=G*sz:=by
   have zA:∀k,(Builtin.zeroCells z.cells k).toList.length=k*sz:=λk=>by rw[Array.length_toList,size_zeroCells,zcl]
   have zT:(cur.take (i'*sz)).length=i'*sz:=by rw[List.length_take,hcl];omega
   rw[hR0,Ht,Ht,zT,zA,zA];omega
  have hGsz:(l.length+1)*sz≤G*sz:=Nat.mul_le_mul_right _ hGn;obtain⟨nb,hnb⟩:∃nb,nb=w.heap.size:=⟨_,rfl⟩;rw[← hnb]at q0
  have hw0:∀b',b'<w.heap.size→(w.drew.alloc (.cells ⟨R0⟩ e)).heap[b']? = w.heap[b']?:=λb' hb'=>by show(w.heap.push _)[b']? = _;rw[Array.getElem?_push_lt hb',Array.getElem?_eq_getElem hb']
  have hn0:(w.drew.alloc (.cells ⟨R0⟩ e)).heap[nb]? = some (.cells ⟨R0⟩ e (0,0)):=by show(w.heap.push _)[nb]? = _;rw[hnb,Array.getElem?_push_size]
  have hnbb:b≠nb:=by omega
  have hnvb:vb≠nb:=by omega
  have m2:min 1 (l.length+1 - i')=1:=by omega
  have m3:min (l.length - i') (l.length - i')=l.length - i':=by omega
  have q1:=λty dc=>oV (P:=P) (w:=w.drew.alloc (.cells ⟨R0⟩ e)) (t:=ts) (t1:=ts) (ty:=ty) (q:=i'*sz) (dLen:=l.length+1 - i') (dCap:=dc) (p':=⟨vb,0,none⟩) (sLen:=1) (sCap:=vc) (news:=nw) hts hj0 hn0 (by rw[nwl,m2,hjsz,Nat.one_mul]) (src3 _ ((hw0 vb hblk3).trans hb3) _ rfl) nw1 (by rw[nwl,R0l];omega)
  rw[m2,nwl]at q1;obtain⟨R1,hR1⟩:∃R1,R1=R0.take (i'*sz)++nw++R0.drop (i'*sz+sz):=⟨_,rfl⟩;rw[← hR1]at q1
  have R1l:R1.length=G*sz:=by rw[hR1,Ht,Ht,List.length_take,List.length_drop,nwl,R0l];omega
  obtain⟨W1,hW1⟩:∃W1,W1=(w.drew.alloc (.cells ⟨R0⟩ e)).setRow nb R1.toArray:=⟨_,rfl⟩;rw[← hW1]at q1
  have hn1:W1.heap[nb]? = some (.cells ⟨R1⟩ e (0,0)):=by rw[hW1];exact setRow_heap _ nb _ _ e _ hn0
  have ho1:∀b',b'<w.heap.size→W1.heap[b']? = w.heap[b']?:=λb' hb'=>by rw[hW1,setRow_other _ nb b' _ (by omega)];exact hw0 b' hb'
  have hn1d:W1.drew.heap[nb]? = some (.cells ⟨R1⟩ e (0,0)):=hn1;have hb1d:W1.drew.heap[b]? = some (.cells ⟨cur⟩ e0 (0,0)):=(ho1 b hblk).trans hb
  have q2:=λty dc sc=>oV (P:=P) (w:=W1.drew) (t:=ts) (t1:=ts) (ty:=ty) (q:=(i'+1)*sz) (dLen:=l.length - i') (dCap:=dc) (p':=⟨b,i'*sz,none⟩) (sLen:=l.length - i') (sCap:=sc) (news:=tl) hts hj0 hn1d (by rw[tll,m3,hjsz]) (λk x hk=>by
   rw[Addr.add_lit];simp only[World.cell?,hb1d]
   simpa using(tlget k x hk).1) tl1 (by rw[tll,R1l];omega)
  rw[m3,tll]at q2;obtain⟨R2,hR2⟩:∃R2,R2=R1.take ((i'+1)*sz)++tl++R1.drop ((i'+1)*sz+(l.length - i')*sz):=⟨_,rfl⟩;rw[← hR2]at q2
  have R2l:R2.length=G*sz:=by rw[hR2,Ht,Ht,List.length_take,List.length_drop,tll,R1l];omega
  refine(wg b l.length i' vb vc nb G w _ _ _ hlt c4 hGn hG63 q0 q1 q2).mono ?_;rintro e' w' ⟨rfl,rfl⟩;have hn2:(W1.drew.setRow nb R2.toArray).heap[nb]? = some (.cells ⟨R2⟩ e (0,0)):=setRow_heap _ nb _ _ e _ hn1d
  have s0:W1.heap.size=w.heap.size+1:=by have a1:(w.drew.alloc (.cells ⟨R0⟩ e)).heap.size=w.heap.size+1:=Array.size_push ..;rw[hW1,← a1];simp[World.setRow]
  have s2:(W1.drew.setRow nb R2.toArray).heap.size=w.heap.size+1:=by rw[← s0];simp[World.setRow]
  have oth:∀b',b'<w.heap.size→(W1.drew.setRow nb R2.toArray).heap[b']? = w.heap[b']?:=λb' hb'=>by
   rw[setRow_other _ nb b' _ (by omega)];exact ho1 b' hb'
  have d1:W1.drawn=w.drawn+1:=by rw[hW1];rfl
  refine⟨[.slice (some ⟨nb,0,none⟩) (l.length+1) G],imm,[some (nb,G,l.length+1,[])],rfl,by rw[hW1];rfl,by rw[hW1];rfl,by rw[hW1];rfl,?_,by rw[s2];omega,λb' hb' _=>oth b' hb',λ_ h=>h,λ_ h=>.inl h,λb' hb'=>by rw[s2];have:=himm b' hb';omega,held _ _ _ (row _ nb G R2 e hGn hGm hn2 R2l ?_ ?_ ?_ ?_) rfl,⟨?_,?_,?_⟩,?_⟩
  ·show w.drawn≤W1.drawn+1;omega
  ·intro d x hd;exact hd.mono (λ_ h=>h) λb' hb'=>oth b' (himm b' hb')
  ·intro k hk
   rw[hR2,List.append_assoc,List.getElem?_append_left (by rw[List.length_take,R1l];omega),List.getElem?_take,if_pos (by omega),hR1,List.append_assoc,List.getElem?_append_left (by rw[List.length_take,R0l];omega),List.getElem?_take,if_pos hk,hR0,List.append_assoc,List.getElem?_append_left (by rw[List.length_take,hcl];omega),List.getElem?_take,if_pos hk]
  ·intro k hk
   have lT:(R0.take (i'*sz)).length=i'*sz:=by rw[List.length_take,R0l];omega
   rw[hR2,List.append_assoc,List.getElem?_append_left (by rw[List.length_take,R1l];omega),List.getElem?_take,if_pos (by omega),hR1,List.append_assoc,List.getElem?_append_right (by rw[lT];omega),lT,Nat.add_sub_cancel_left,List.getElem?_append_left (by rw[nwl];exact hk)]
  ·intro k hk
   have lU:(R1.take ((i'+1)*sz)).length=(i'+1)*sz:=by rw[List.length_take,R1l];omega
   rw[hR2,List.append_assoc,List.getElem?_append_right (by rw[lU];omega),lU,Nat.add_sub_cancel_left,List.getElem?_append_left (by rw[tll];exact hk)]
  ·simp[plBlks,nbl]
  ·intro b' hb'
   have:b'=nb:=by simpa[plBlks,nbl]using hb'
   subst this;intro hi;have:=himm _ hi;omega
  ·intro b' hb'
   have:b'=nb:=by simpa[plBlks,nbl]using hb'
   subst this;rw[s2];omega
  ·intro b' hb'
   have:b'=nb:=by simpa[plBlks,nbl]using hb'
   subst this
   exact .inr (by omega)
end
set_option linter.unusedVariables false
set_option linter.unusedSimpArgs false
structure EmC where
 ops0:Array Oper
 ops1:Array Oper
 ops8:Array Oper
 t:Nat
structure EmB where
 t:Nat
 f:Nat
 x:Nat
section
variable{F:Fam}(T:TypeId→Option (TI F))(Γ : Ctx F)(nv:Nat)
end
section
variable{P:Program}{ops:Array Oper}
end
section
variable{F:Fam}{P:Program}{T:TypeId→Option (TI F)}{Γ : Ctx F}{nv n:Nat}{R:Type}{own:Ow}{W0:World}{a:Act}{w:World}{g:G}
section
variable{ops:List Oper}
end
end
section
variable{F:Fam}{P:Program}{T:TypeId→Option (TI F)}{Γ : Ctx F}{nv:Nat}
end
set_option linter.unusedVariables false
set_option linter.unusedSimpArgs false
section
variable{P:Program}{lr m:Nat}
end
section
variable{F:Fam}{P:Program}{T:TypeId→Option (TI F)}{Γ : Ctx F}{nv n:Nat}{own:Ow}{W0:World}{lr m:Nat}
end
set_option linter.unusedVariables false
set_option linter.unusedSimpArgs false
structure RfC where
 ops0:Array Oper
 ops1:Array Oper
 ops8:Array Oper
 t:Nat
 pi:Nat
 px:Nat
 assign:Code
 body:Code
section
variable{F:Fam}
variable(T:TypeId→Option (TI F))(Γ : Ctx F)(nv n:Nat)
end
section
variable{F:Fam}{P:Program}{own own':Ow}{W0 W1:World}{n n':Nat}{s s':St F}{g:G}{a a':Act}{w w':World}
def Ow.aside(own:Ow)(g:G)(X:Nat→Prop):Ow:=⟨λb=>own.o b∧¬ X b,own.i,g.ids⟩
theorem Good.aside(h:Good P own W0 n s g a w)(hl:∀b,¬ g.len b)(X:Nat→Prop)(hX:∀b,X b→(∀id B,s.m id=some B→B.owned=true→¬ g.blk id b)∧¬ g.imm b)(hXs:∀b,X b→b<w.heap.size):Good P (own.aside g X) w n s g a w:=by
 refine⟨h.dfr,h.tsz,h.env,⟨h.mem.ok,h.mem.dis,λid B b hB ho hb=>⟨⟨(h.mem.own id B b hB ho hb).1,λhx=>(hX b hx).1 id B hB ho hb⟩,(h.mem.own id B b hB ho hb).2⟩,h.mem.imm,λb hb=>?_,λb hb=>(hl b hb).elim⟩,h.dom,h.ini,⟨rfl,rfl,rfl,Nat.le_refl _,λb hb=>⟨h.frm.fresh b (Nat.le_trans h.frm.size hb),λhx=>by have:=hXs b hx;omega⟩,λ_ _ _=>rfl,Nat.le_refl _⟩,λid p hp=>hp⟩
 rcases h.mem.io b hb with hi | ho
 ·exact .inl hi
 ·exact .inr ⟨ho,λhx=>(hX b hx).2 hb⟩
theorem Good.back{gB:G}{X:Nat→Prop}(h:Good P (own.aside gB X) W1 n s g a w)(hl:∀b,¬ g.len b)(hf:Frm own W0 w)(hn:∀id p,own.nm id=some p→gB.ids id=some p):Good P own W0 n s g a w:=
 ⟨h.dfr,h.tsz,h.env,⟨h.mem.ok,h.mem.dis,λid B b hB ho hb=>⟨(h.mem.own id B b hB ho hb).1.1,(h.mem.own id B b hB ho hb).2⟩,h.mem.imm,λb hb=>(h.mem.io b hb).imp id λhh=>hh.1,λb hb=>(hl b hb).elim⟩,h.dom,h.ini,hf,λid p hp=>h.nam id p (hn id p hp)⟩
theorem Frm.aside{gB:G}{X:Nat→Prop}(h:Frm own W0 w)(h2:Frm (own.aside gB X) w w'):Frm own W0 w':=
 ⟨h2.os.trans h.os,h2.tape.trans h.tape,h2.output.trans h.output,Nat.le_trans h.size h2.size,h.fresh,λb hb ho=>(h2.block b (Nat.lt_of_lt_of_le hb h.size) (λhh=>ho hh.1)).trans (h.block b hb ho),Nat.le_trans h.drawn h2.drawn⟩
end
set_option linter.unusedVariables false
set_option linter.unusedSimpArgs false
section
variable{F:Fam}{P:Program}
structure RfI(P:Program)(own:Ow)(Wc:World)(n nv:Nat)(gB:G)(X:Nat→Prop)(a3:Act)(sB:TS F)(dra kill:List Nat)(ks0:Ks)(t:TLS F ks0)(w:World):Prop where
 good:∃g,Good P (own.aside gB X) w n (merge nv dra kill sB ks0 t).st g a3 w∧∀b,¬ g.len b
 frm:Frm own Wc w
 m:∀q∈(unpS sB.E ks0 t sB.c).2.1,sB.c≤q.1∨q.1∈kill
 e:∀y,y∉keysOf ks0→look (unpS sB.E ks0 t sB.c).1 y=none
 c:sB.c≤(unpS sB.E ks0 t sB.c).2.2
variable{T:TypeId→Option (TI F)}{Γ : Ctx F}{nv n:Nat}{own:Ow}{Wc WB:World}{gB:G}{X:Nat→Prop}{a3:Act}{sB:TS F}{dra kill:List Nat}{ks0:Ks}{w:World}
end
set_option linter.unusedVariables false
set_option linter.unusedSimpArgs false
section
variable{F:Fam}{P:Program}{T:TypeId→Option (TI F)}{Γ : Ctx F}{nv n:Nat}{own:Ow}{Wc WB:World}{gB:G}{X:Nat→Prop}{a3:Act}{sB:TS F}{dra kill:List Nat}{ks0:Ks}{w:World}
end
set_option linter.unusedVariables false
set_option linter.unusedSimpArgs false
section
variable{F:Fam}{P:Program}{T:TypeId→Option (TI F)}{Γ : Ctx F}{nv:Nat}
end
set_option linter.unusedVariables false
set_option linter.unusedSimpArgs false
section
variable{F:Fam}{P:Program}
theorem to{f:FuncId}{sp:Spec F}(hent:bH P f)
  (h:∀(a:HL F sp.ks)(r:TL F (outs sp)),sp.D a=some r→∀(imm:Nat→Prop)(w:World)(vs:List Value)(pls bxs:List Pl),cK P w imm sp.ks a vs pls bxs→(∀b,imm b→b<w.heap.size)→
   pls = []∧bxs = []∧Calls P f ⟨vs⟩ w λe w'=>∃rvs,e = .returned (tupV rvs)∧RowKit.Below w.heap.size w w'∧w.drawn≤w'.drawn∧bu P w' imm (outs sp) r rvs [] []):FnOk P f sp:=by
 refine⟨hent,?_⟩;intro a r hr imm w vs pls bxs hheld hpl himm;obtain⟨rfl,rfl,hc⟩:=h a r hr imm w vs pls bxs hheld himm;refine hc.mono ?_;rintro e w' ⟨rvs,rfl,hb,hdr,ho⟩
 refine⟨rvs,imm,[],rfl,hb.os,hb.tape,hb.output,hdr,hb.size,λb hlt _=>hb.block b hlt,λ_ h=>h,λ_ h=>.inl h,λb hb'=>Nat.lt_of_lt_of_le (himm b hb') hb.size,ho,⟨by simp[plBlks],by simp[plBlks],by simp[plBlks]⟩,by simp[plBlks]⟩
theorem nQ{w:World}{imm:Nat→Prop}{x:List UInt8}{v:Value}{pls:List Pl}(h:HeldV (F:=F) w imm .str [] x v pls):v = .string ⟨⟨x⟩⟩∧pls = []:=by unfold HeldV at h;simp only[Ty.isSt,Bool.false_eq_true,if_false,encT,HeldC,memN]at h;obtain⟨h,rfl⟩:=h;cases h;exact⟨rfl,rfl⟩
theorem CH{w:World}{imm:Nat→Prop}{k:IntKind}{x:Int}{v:Value}{pls:List Pl}(h:HeldV (F:=F) w imm (.int k) [] x v pls):v = .int k x∧pls = []:=by unfold HeldV at h;simp only[Ty.isSt,Bool.false_eq_true,if_false,encT,HeldC,memN]at h;obtain⟨h,rfl⟩:=h;cases h;exact⟨rfl,rfl⟩
theorem uf{w:World}{imm:Nat→Prop}{k:IntKind}{x:Int}:bu (F:=F) P w imm [.v (.int k) []] x [.int k x] [] []:=by refine⟨_,rfl,rfl,?_,rfl⟩;unfold HeldV;simp only[Ty.isSt,Bool.false_eq_true,if_false,encT,HeldC,memN];exact⟨.i _ _,trivial⟩
theorem si{w:World}{imm:Nat→Prop}{x:Bool}:bu (F:=F) P w imm [.v .bool []] x [.bool x] [] []:=by refine⟨_,rfl,rfl,?_,rfl⟩;unfold HeldV;simp only[Ty.isSt,Bool.false_eq_true,if_false,encT,HeldC,memN];exact⟨.b _,trivial⟩
def cnt1(s sub:List UInt8):Option Int:=match sub with
 | [c]=>some ((Lib.countByte s c:Nat):Int)
 | _=>none
theorem FJ{f:FuncId}(hent:bH P f)(hw:∀(s:ByteArray)(c:UInt8)(w:World),Calls P f #[.string s,.string ⟨#[c]⟩] w λe w'=>e = .returned (.int .i64 (Lib.countByte s.data.toList c))∧w'=w) :
  FnOk (F:=F) P f ⟨[.v .str [],.v .str []],[.v (.int .i64) []],λa=>cnt1 a.1 a.2.1⟩:=by
 refine to hent ?_;intro a r hr imm w vs pls bxs hheld himm;obtain⟨s,sub,u⟩:=a;obtain⟨v,vs',p1,p2,b1,b2,rfl,rfl,rfl,⟨h1,rfl⟩,v2,vs2,p3,p4,b3,b4,rfl,rfl,rfl,⟨h2,rfl⟩,rfl,rfl,rfl⟩:=hheld;obtain⟨rfl,rfl⟩:=nQ h1;obtain⟨rfl,rfl⟩:=nQ h2;have hr:cnt1 s sub=some r:=hr
 match sub,hr with
 | [c],hr=>
  cases hr;refine⟨rfl,rfl,(hw ⟨⟨s⟩⟩ c w).mono ?_⟩
  rintro e w' ⟨rfl,rfl⟩;exact⟨[_],rfl,.refl _ _,Nat.le_refl _,uf⟩
 | [],hr=>cases hr
 | _::_::_,hr=>cases hr
def ixb(s:List UInt8)(c:Int):Option Int:=some (Lib.indexByte s c.toNat.toUInt8)
theorem G9{f:FuncId}(hent:bH P f)(hw:∀(s:ByteArray)(c:Int)(w:World),Calls P f #[.string s,.int .u8 c] w λe w'=>e = .returned (.int .i64 (Lib.indexByte s.data.toList c.toNat.toUInt8))∧w'=w) :
  FnOk (F:=F) P f ⟨[.v .str [],.v (.int .u8) []],[.v (.int .i64) []],λa=>ixb a.1 a.2.1⟩:=by
 refine to hent ?_;intro a r hr imm w vs pls bxs hheld himm;obtain⟨s,c,u⟩:=a;obtain⟨v,vs',p1,p2,b1,b2,rfl,rfl,rfl,⟨h1,rfl⟩,v2,vs2,p3,p4,b3,b4,rfl,rfl,rfl,⟨h2,rfl⟩,rfl,rfl,rfl⟩:=hheld;obtain⟨rfl,rfl⟩:=nQ h1;obtain⟨rfl,rfl⟩:=CH h2;have hr:ixb s c=some r:=hr;cases hr;refine⟨rfl,rfl,(hw ⟨⟨s⟩⟩ c w).mono ?_⟩;rintro e w' ⟨rfl,rfl⟩;exact⟨[_],rfl,.refl _ _,Nat.le_refl _,uf⟩
def nmB(b:UInt8):Bool:=(Nat.ble 97 b.toNat&&Nat.ble b.toNat 122)||(Nat.ble 48 b.toNat&&Nat.ble b.toNat 57)||Nat.beq b.toNat 45
def nameD(most:Nat)(s:List UInt8):Option Bool:=cond (s.all λb=>Nat.blt b.toNat 128) (some (s.all nmB&&!s.isEmpty&&Nat.ble s.length most)) none
def nmR(most:Nat)(s:ByteArray):Bool:=s.data.toList.all nmB&&!s.data.toList.isEmpty&&Nat.ble s.data.toList.length most
theorem Fo{f:FuncId}{most:Nat}(hent:bH P f) (hw:∀(s:ByteArray)(w:World),(∀(j:Nat) b,s.data.toList[j]? = some b→b.toNat<128)→
   Calls P f #[.string s] w λe w'=>e = .returned (.bool (nmR most s))∧∃k,w'=w.iter s k) :
  FnOk (F:=F) P f ⟨[.v .str []],[.v .bool []],λa=>nameD most a.1⟩:=by
 refine to hent ?_;intro a r hr imm w vs pls bxs hheld himm;obtain⟨s,u⟩:=a;obtain⟨v,vs',p1,p2,b1,b2,rfl,rfl,rfl,⟨h1,rfl⟩,rfl,rfl,rfl⟩:=hheld;obtain⟨rfl,rfl⟩:=nQ h1;have hr:nameD most s=some r:=hr;unfold nameD at hr
 cases ha:s.all λb=>Nat.blt b.toNat 128 with
 | false=>rw[ha]at hr;cases hr
 | true=>
  rw[ha]at hr;cases hr;refine⟨rfl,rfl,(hw ⟨⟨s⟩⟩ w ?_).mono ?_⟩
  ·intro j b hj
   have hb:=List.mem_of_getElem? (l:=s) (by simpa using hj)
   have:=List.all_eq_true.1 ha b hb;have:b.toNat+1≤128:=Nat.le_of_ble_eq_true this;omega
  ·rintro e w' ⟨rfl,k,rfl⟩;exact⟨[_],rfl,(RowKit.Below.refl _ w).alloc (Nat.le_refl _) _,Nat.le_refl _,si⟩
theorem AA{b:UInt8}:nmB b=true↔(97≤b.toNat∧b.toNat≤122)∨(48≤b.toNat∧b.toNat≤57)∨b.toNat=45:=by simp[nmB,or_assoc]
theorem G2{s:ByteArray}(h:∀(j:Nat) b,s.data.toList[j]? = some b→j<s.size→nmB b=true):s.data.toList.all nmB=true:=by rw[List.all_eq_true];intro b hb;obtain⟨j,hj⟩:=List.getElem?_of_mem hb;exact h j b hj (Hs.1 hj).1
theorem w_{s:ByteArray}{i:Nat}(hi:i<s.size)(h:∀(j:Nat) b,s.data.toList[j]? = some b→j<i→nmB b=true){c:Nat}(hc:c=(s[i]'hi).toNat)(hb:(97≤c∧c≤122)∨(48≤c∧c≤57)∨c=45) :
  ∀(j:Nat) b,s.data.toList[j]? = some b→j<i+1→nmB b=true:=by
 intro j b hj hlt;by_cases e:j=i
 ·subst e;rw[Lib.data_getElem? s j hi]at hj;cases hj;rw[AA,← hc];exact hb
 ·exact h j b hj (by omega)
theorem E6{s:ByteArray}{i:Nat}(hi:i<s.size){c:Nat}(hc:c=(s[i]'hi).toNat)(hb:¬ ((97≤c∧c≤122)∨(48≤c∧c≤57)∨c=45)):s.data.toList.all nmB=false:=by rw[Bool.eq_false_iff];intro h;rw[List.all_eq_true]at h;have:=h _ (List.mem_of_getElem? (Lib.data_getElem? s i hi));rw[AA,← hc]at this;exact hb this
theorem Hn(s:ByteArray)(n:Nat):decide ((s.size:Int)≤(n:Int))=Nat.ble s.data.toList.length n:=by rw[Bool.eq_iff_iff];have:s.data.toList.length=s.size:=rfl;rw[this,Nat.ble_eq,decide_eq_true_eq];omega
def EachB(P:Program)(fe fc f1:FuncId)(tf:TypeId):Prop:=
 ∀(p:Option Addr)(n cap:Nat)(fid:Nat)(bound captured:List Value) (w:World) (R:World→Prop) (b:Bool),
  Calls P fc #[.slice p n cap,.func (.func f1) #[] #[.pointer (some ⟨w.heap.size,0,none⟩)]] (w.alloc (.cells #[.func (.func fid) ⟨bound⟩ ⟨captured⟩] tf (0,0))) (λe w'=>e = .returned (.bool b)∧R w')→
  Calls P fe #[.slice p n cap,.func (.func fid) ⟨bound⟩ ⟨captured⟩] w λe w'=>e = .returned (.bool (!b))∧R w'
def EachC(P:Program)(f1:FuncId)(tf te sz:Nat):Prop:=
 ∀(vs:List Value)(fid:Nat)(bound captured:List Value)(bx:Nat) (w:World) (R:World→Prop) (b:Bool),vs.length=sz→(∀v∈vs,v.oneCell'=true)→bH P fid→
  bx<w.heap.size→w.heap[bx]? = some (.cells #[.func (.func fid) ⟨bound⟩ ⟨captured⟩] tf (0,0))→
  Calls P fid ⟨bound++[.agg ⟨vs⟩]++captured⟩ (w.alloc (.cells ⟨vs⟩ te (0,0))) (λe w'=>e = .returned (.bool b)∧R w')→
  Calls P f1 #[.agg ⟨vs⟩,.pointer (some ⟨bx,0,none⟩)] w λe w'=>e = .returned (.bool (!b))∧R w'
def eachD{α β : Type}(c:α→(β→Option Bool)→Option Bool)(l:α)(φ : β→Option Bool):Option Bool:=(c l λx=>(φ x).bind λr=>some (!r)).bind λr=>some (!r)
theorem tu{fe fc f1:FuncId}{n:Nat}{tf te sz:Nat}{c:List (F.S n)→(TupT F [.st n]→Option Bool)→Option Bool}(hc:FnOk (F:=F) P fc ⟨[.v (.slice (.st n)) [],.fn [.st n] .bool],[.v .bool []],λa=>c a.1 a.2.1⟩)(hent:bH P fe)(hent1:bH P f1)
  (hsz:szT F (.st n)=sz) (wB:EachB P fe fc f1 tf) (wC:EachC P f1 tf te sz) :
  FnOk (F:=F) P fe ⟨[.v (.slice (.st n)) [],.fn [.st n] .bool],[.v .bool []],λa=>eachD c a.1 a.2.1⟩:=by
 refine⟨hent,?_⟩;intro a r hr imm w vs pls bxs hheld hpl himm;obtain⟨l,φ,u⟩:=a;obtain⟨v,vs',p1,p2,b1,b2,rfl,rfl,rfl,⟨h1,rfl⟩,v2,vs2,p3,p4,b3,b4,rfl,rfl,rfl,⟨h2,h3,fid,bound,captured,rfl,hbd,hfe,hfn⟩,rfl,rfl,rfl⟩:=hheld;subst h2 h3;have hn:=h1.nil_pls;subst hn;have hr:eachD c l φ = some r:=hr;unfold eachD at hr
 cases hcv:c l λx=>(φ x).bind λr=>some (!r)with
 | none=>rw[hcv]at hr;cases hr
 | some rb=>
 rw[hcv]at hr;have hr:r=(!rb:Bool):=(Option.some.inj hr).symm;subst hr
 have hsl:∃p n cap,v = .slice p n cap:=by
  have h1':=h1;unfold HeldV at h1';simp only[Ty.isSt,Bool.false_eq_true,if_false,encT,HeldC,memN]at h1';obtain⟨h1',_⟩:=h1'
  cases h1' with
  | sl0=>exact⟨_,_,_,rfl⟩
  | sl=>exact⟨_,_,_,rfl⟩
 obtain⟨p,m,cap,rfl⟩:=hsl;obtain⟨w1,hw1⟩:∃w1,w1=w.alloc (.cells #[.func (.func fid) ⟨bound⟩ ⟨captured⟩] tf (0,0)):=⟨_,rfl⟩
 have hold:∀b,b<w.heap.size→w1.heap[b]? = w.heap[b]?:=λb hb=>by rw[hw1];exact heap_alloc_old w _ hb
 have hnew:w1.heap[w.heap.size]? = some (.cells #[.func (.func fid) ⟨bound⟩ ⟨captured⟩] tf (0,0)):=by rw[hw1];exact heap_alloc_new w _
 have hs1:w1.heap.size=w.heap.size+1:=by rw[hw1,World.size_alloc]
 obtain⟨im1,him1⟩:∃im1:Nat→Prop,im1 = λb=>imm b∨b=w.heap.size:=⟨_,rfl⟩
 have hfv:FvOk P F w1 im1 [.st n] .bool (λx=>(φ x).bind λr=>some (!r)) (.func (.func f1) ⟨[]⟩ ⟨[.pointer (some ⟨w.heap.size,0,none⟩)]⟩):=by
  refine⟨f1,[],_,rfl,.inl rfl,hent1,?_⟩;intro w' imm' hw hlt a x vs hφ ht;obtain⟨q,hq,hqx⟩:=Option.bind_eq_some_iff.1 hφ;cases hqx
  obtain⟨v0,hv0⟩:∃v0,vs = [v0]:=by
   match vs,ht.1 with
   | [v0],_=>exact⟨v0,rfl⟩
   | [],h=>simp[encTs]at h
   | _::_::_,h=>simp[encTs]at h
  subst hv0
  have hb:im1 w.heap.size:=by rw[him1];exact .inr rfl
  obtain⟨i1,i2⟩:=hw _ hb;have hrt:RepT w' imm' (encT F (.st n) a.1,true) v0:=ht.2 0 _ v0 rfl rfl
  have hag:∃ws,v0 = .agg ⟨ws⟩∧ws.length=(encT F (.st n) a.1).length∧∀(k:Nat)(c:ND F)(x:Value),(encT F (.st n) a.1)[k]? = some c→ws[k]? = some x→RepI w' imm' c x:=by
   generalize encT F (.st n) a.1=ds at hrt
   cases hrt with
   | agg hl hh=>exact⟨_,rfl,hl,hh⟩
  obtain⟨ws,rfl,hl,hh⟩:=hag
  have one:∀y∈ws,y.oneCell'=true:=by
   intro y hy;obtain⟨k,hk⟩:=List.getElem?_of_mem hy
   have hk2:k<(encT F (.st n) a.1).length:=by rw[← hl];exact(Hs.1 hk).1
   exact(hh k _ y (Hr hk2) hk).oneCell
  obtain⟨w2,hw2⟩:∃w2,w2=w'.alloc (.cells ⟨ws⟩ te (0,0)):=⟨_,rfl⟩
  have hold2:∀b,b<w'.heap.size→w2.heap[b]? = w'.heap[b]?:=λb hb=>by rw[hw2];exact heap_alloc_old w' _ hb
  have hs2:w2.heap.size=w'.heap.size+1:=by rw[hw2,World.size_alloc]
  have himw:∀b,imm b→imm' b∧w2.heap[b]? = w.heap[b]?:=by
   intro b hb
   have hb1:im1 b:=by rw[him1];exact .inl hb
   obtain⟨j1,j2⟩:=hw b hb1
   exact⟨j1,by rw[hold2 b (hlt b j1),j2,hold b (himm b hb)]⟩
  have key:=hfn w2 imm' himw (λb hb=>by have:=hlt b hb;omega) a q [.agg ⟨ws⟩] hq ⟨by simp[encTs],λk d x a1 a2=>by
   cases k with
   | zero=>
    cases a1;cases a2
    exact(RepT.agg hl hh).mono (λ_ h=>h) (λb hb=>hold2 b (hlt b hb))
   | succ k=>simp[encTs]at a1⟩
  have key2:Calls P fid ⟨bound++[.agg ⟨ws⟩]++captured⟩ w2 (λe w''=>e = .returned (.bool q)∧(RowKit.Below w2.heap.size w2 w''∧w2.drawn≤w''.drawn)):=by
   refine key.mono ?_;rintro e w'' ⟨v,rfl,k1,k2,k3⟩
   cases k2 with
   | one h=>cases h;exact⟨rfl,k1,k3⟩
  have hwc:=wC ws fid bound captured w.heap.size w' _ q (by rw[hl,aG,hsz]) one hfe (by have:=hlt _ i1;exact this) (by rw[i2];exact hnew) (by rw[← hw2];exact key2)
  refine hwc.mono ?_;rintro e w'' ⟨rfl,k1,k3⟩
  have e1:w2.os=w'.os∧w2.tape=w'.tape∧w2.output=w'.output∧w2.drawn=w'.drawn:=by rw[hw2];exact⟨rfl,rfl,rfl,rfl⟩
  refine⟨_,rfl,⟨by rw[k1.os,e1.1],by rw[k1.tape,e1.2.1],by rw[k1.output,e1.2.2.1],by have:=k1.size;omega,λb hb=>by rw[k1.block b (by omega),hold2 b hb]⟩,.one (.b _),by rw[← e1.2.2.2];exact k3⟩
 have hh1:HeldV (F:=F) w1 im1 (.slice (.st n)) [] l (.slice p m cap) []:=h1.lift (λb hb=>⟨by rw[him1];exact .inl hb,hold b (himm b hb)⟩)
 have himl:∀b,im1 b→b<w1.heap.size:=by
  intro b hb;rw[him1]at hb;rcases hb with hb | rfl
  ·have:=himm b hb;omega
  ·omega
 have hcc:=hc.2 (l,(λx=>(φ x).bind λr=>some (!r)),()) rb hcv im1 w1 [.slice p m cap,.func (.func f1) ⟨[]⟩ ⟨[.pointer (some ⟨w.heap.size,0,none⟩)]⟩] [] []
  ⟨_,_,[],[],[],[],rfl,rfl,rfl,⟨hh1,rfl⟩,_,_,[],[],[],[],rfl,rfl,rfl,⟨rfl,rfl,hfv⟩,rfl,rfl,rfl⟩ ⟨by simp[plBlks],by simp[plBlks],by simp[plBlks]⟩ himl
 have hcc2:Calls P fc #[.slice p m cap,.func (.func f1) #[] #[.pointer (some ⟨w.heap.size,0,none⟩)]] w1 (λe w'=>e = .returned (.bool rb)∧(w'.os=w1.os∧w'.tape=w1.tape∧w'.output=w1.output∧w1.drawn≤w'.drawn∧w1.heap.size≤w'.heap.size∧∀b,b<w1.heap.size→w'.heap[b]? = w1.heap[b]?)):=by
  refine hcc.mono ?_;rintro e w' ⟨rvs,imm',pls',rfl,k1,k2,k3,k4,k5,k6,k7,k8,k9,k10,_⟩;obtain⟨v,rfl,_,hv,_⟩:=k10;unfold HeldV at hv;simp only[Ty.isSt,Bool.false_eq_true,if_false,encT,HeldC,memN]at hv;obtain⟨hv,_⟩:=hv;cases hv
  exact⟨rfl,k1,k2,k3,k4,k5,λb hb=>k6 b hb (by simp[plBlks])⟩
 rw[hw1]at hcc2;refine(wB p m cap fid bound captured w _ rb hcc2).mono ?_;rw[← hw1];rintro e w' ⟨rfl,k1,k2,k3,k4,k5,k6⟩
 have e1:w1.os=w.os∧w1.tape=w.tape∧w1.output=w.output∧w1.drawn=w.drawn:=by rw[hw1];exact⟨rfl,rfl,rfl,rfl⟩
 refine⟨[_],imm,[],rfl,by rw[k1,e1.1],by rw[k2,e1.2.1],by rw[k3,e1.2.2.1],by rw[← e1.2.2.2];exact k4,by omega,λb hb _=>by rw[k6 b (by omega),hold b hb],λ_ h=>h,λ_ h=>.inl h,λb hb=>by have:=himm b hb;omega,si,⟨by simp[plBlks],by simp[plBlks],by simp[plBlks]⟩,by simp[plBlks]⟩
end
end Go.Fx
namespace Go.Fx
open Go Go.RowKit
set_option linter.unusedVariables false
set_option linter.unusedSimpArgs false
section
variable{F:Fam}{P:Program}
def digB(b:UInt8):Bool:=Nat.ble 48 b.toNat&&Nat.ble b.toNat 57
def isNum(s:List UInt8):Bool:=match s with
 | []=>false
 | b::r=>Nat.ble r.length 6&&(r.isEmpty||!(Nat.beq b.toNat 48))&&digB b&&r.all digB
def numD(s:List UInt8):Option (Int×Bool):=cond (isNum s) ((Lib.atoi s).bind λn=>some (n,true)) none
def NumW(P:Program)(f:FuncId):Prop:=∀(b:UInt8)(r:List UInt8)(n:Int)(w:World),r.length≤6→(r = []∨b.toNat≠48)→(b::r).all digB=true→Lib.atoi (b::r)=some n→
 Calls P f #[.string ⟨⟨b::r⟩⟩] w λe w'=>e = .returned (.tuple #[.int .i64 n,.bool true])∧Below w.heap.size w w'∧w.drawn≤w'.drawn
def cut10:ByteArray:=⟨#[48,49,50,51,52,53,54,55,56,57]⟩
theorem An:∀(j:Nat) b,cut10.data.toList[j]? = some b→b.toNat<128:=by
 intro j b h;have h:[48,49,50,51,52,53,54,55,56,(57:UInt8)][j]? = some b:=h;have:=List.mem_of_getElem? h;simp only[List.mem_cons,List.not_mem_nil,or_false]at this
 rcases this with rfl | rfl | rfl | rfl | rfl | rfl | rfl | rfl | rfl | rfl<;>decide
theorem Cj{b:UInt8}(h:digB b=true):cut10.data.toList.contains b=true:=by
 have:(48≤b.toNat∧b.toNat≤57):=by simpa[digB]using h
 have hb:b=UInt8.ofNat b.toNat:=by simp
 rw[hb]
 rcases(by omega:b.toNat=48∨b.toNat=49∨b.toNat=50∨b.toNat=51∨b.toNat=52∨b.toNat=53∨b.toNat=54∨b.toNat=55∨b.toNat=56∨b.toNat=57)with e | e | e | e | e | e | e | e | e | e<;>rw[e]<;>rfl
theorem yw{p:UInt8→Bool}:∀{l:List UInt8},(∀b∈l,p b=true)→l.dropWhile p = []
 | [],_=>rfl
 | b::l,h=>by rw[List.dropWhile_cons_of_pos (h b List.mem_cons_self)];exact yw λx hx=>h x (List.mem_cons_of_mem _ hx)
theorem z9{l:List UInt8}(h:l.all digB=true):Lib.trimS l cut10.data.toList = []:=by have h':∀b∈l,cut10.data.toList.contains b=true:=λb hb=>Cj (List.all_eq_true.1 h b hb);unfold Lib.trimS Lib.trimRightS Lib.trimLeftS;rw[yw (λb hb=>h' b (List.mem_reverse.1 hb))];rfl
theorem yv{B:Nat}{a w:World}(h:Below B a w)(n:Nat):Below B a (w.drewN n):=h.trans ⟨rfl,rfl,rfl,Nat.le_refl _,λ_ _=>rfl⟩
theorem zf(w:World)(e:TypeId)(s:ByteArray):Below w.heap.size w (Lib.bytesWorld w e s)∧w.drawn≤(Lib.bytesWorld w e s).drawn:=by
 unfold Lib.bytesWorld World.freeze
 rw[if_neg (by decide)]
 refine⟨⟨rfl,rfl,rfl,?_,?_⟩,Nat.le_succ _⟩
 ·show w.heap.size≤((w.heap.push _).modify w.heap.size _).size;rw[Array.size_modify,Array.size_push];omega
 ·intro k hk;show((w.heap.push _).modify w.heap.size _)[k]? = _
  rw[Array.getElem?_modify,if_neg (by omega)]
  simp[Array.getElem?_push,Nat.ne_of_lt hk]
theorem GZ{f:FuncId}(hent:bH P f)(hw:NumW P f):FnOk (F:=F) P f ⟨[.v .str []],[.v (.int .i64) [],.v .bool []],λa=>numD a.1⟩:=by
 refine to hent ?_;intro a r hr imm w vs pls bxs hheld himm;obtain⟨s,u⟩:=a;obtain⟨v,vs',p1,p2,b1,b2,rfl,rfl,rfl,⟨h1,rfl⟩,rfl,rfl,rfl⟩:=hheld;obtain⟨rfl,rfl⟩:=nQ h1;have hr:numD s=some r:=hr;unfold numD at hr
 cases hs:isNum s with
 | false=>rw[hs]at hr;cases hr
 | true=>
  rw[hs]at hr;obtain⟨n,hn,hrr⟩:=Option.bind_eq_some_iff.1 hr;cases hrr
  match s,hs,hn with
  | b::l,hs,hn=>
   simp only[isNum,Bool.and_eq_true,Bool.or_eq_true,Nat.ble_eq,List.isEmpty_iff,Bool.not_eq_true']at hs;obtain⟨⟨⟨h6,h0⟩,hb⟩,hl⟩:=hs
   have h0':l = []∨b.toNat≠48:=h0.imp_right λh e=>by rw[e]at h;cases h
   refine⟨rfl,rfl,(hw b l n w h6 h0' (by rw[List.all_cons,hb,hl];rfl) hn).mono ?_⟩
   rintro e w' ⟨rfl,k1,k2⟩;refine⟨[_,_],rfl,k1,k2,_,[_],[],[],rfl,rfl,?_,_,rfl,rfl,?_⟩
   ·refine⟨?_,rfl⟩;unfold HeldV;simp only[Ty.isSt,Bool.false_eq_true,if_false,encT,HeldC,memN];exact⟨.i _ _,trivial⟩
   ·refine⟨?_,rfl⟩;unfold HeldV;simp only[Ty.isSt,Bool.false_eq_true,if_false,encT,HeldC,memN];exact⟨.b _,trivial⟩
  | [],hs,_=>cases hs
end
end Go.Fx
