/-
  The framework, fourth part: bounded rounds, deletion from slices, ranges over functions. Conditions: none.
-/
import Derived.Test.YtkagmokhbmbjdaaGreatDoorFxC
import Derived.Shelf.SlSortCmp.NoneTotal
import Derived.Shelf.SlicesE.Kit
import Derived.Shelf.RegionOpenPlain
import Derived.Deep.LoopGhost
import Derived.Deep.RegionLaw
import Derived.Lib.Walk
import Derived.Sort.WalkB12
import Derived.Lib.SlicesDelete
import Derived.Lib.Overlaps
import Derived.Lib.AppendZerosOnto
import Derived.RangeFuncLeaves
import Derived.RangeFuncRecord
import Derived.RangeFuncIn
import Derived.RangeFuncSeq
import Derived.Lib.Bytealg
import Derived.Laws.RangeString
import Derived.Lib.IndexBytes
import Derived.Lib.SlTrimSet
import Derived.Lib.Atoi
import Derived.Lib.ConvBytes
import Derived.Deep.Draws
namespace Go.Fx
open Go Go.Shelf
set_option linter.unusedVariables false
set_option linter.unusedSimpArgs false
section
variable{F:Fam}{P:Program}
def encV:ND F→Value
 | .i k n=>.int k n
 | .b x=>.bool x
 | .s l=>.string ⟨⟨l⟩⟩
 | _=>.nilFunc
def NID.smp:ND F→Bool
 | .i _ _ | .b _ | .s _=>true
 | _=>false
theorem ER{t:Ty}(hf:cB F t=true)(x:ET F t):∀d∈encT F t x,d.smp=true:=by
 cases t with
 | int k=>simp[encT,NID.smp]
 | bool=>simp[encT,NID.smp]
 | str=>simp[encT,NID.smp]
 | slice t=>simp[cB]at hf
 | st n=>
  simp only[encT];simp only[cB]at hf
  have gen:∀(ts:List Ty)(a:TupT F ts),(ts.all λt=>match t with | .slice _=>false | .st _=>false | _=>true)=true→∀d∈encF F ts a,d.smp=true:=by
   intro ts
   induction ts with
   | nil=>intro a _ d hd;simp[encF]at hd
   | cons t ts ih=>
    intro a h d hd;simp only[List.all_cons,Bool.and_eq_true]at h;rcases List.mem_cons.1 hd with rfl | hd
    ·cases t<;>first | rfl | simp at h
    ·exact ih a.2 h.2 d hd
  exact gen _ _ hf
theorem E6{w:World}{imm:Nat→Prop}{d:ND F}{v:Value}(hs:d.smp=true)(h:RepI w imm d v):v=encV d:=by
 cases h<;>first | rfl | simp[NID.smp]at hs
theorem Di{w:World}{imm:Nat→Prop}{d:ND F}(hs:d.smp=true):RepI w imm d (encV d):=by
 cases d with
 | i k n=>exact .i _ _
 | b x=>exact .b _
 | s l=>exact .s _
 | nl=>simp[NID.smp]at hs
 | sl t l=>simp[NID.smp]at hs
 | v x=>simp[NID.smp]at hs
theorem HY{d:ND F}:(encV d).oneCell'=true:=by cases d<;>rfl
def encL(t:Ty)(x:ET F t):List Value:=(encT F t x).map encV
section
variable{α : Type}[Inhabited α]{enc:α→List Value}{k:Nat}{w:World}{b off m:Nat}{dk:Array α}{os:Array Obj}
theorem ya:w.heap.size≤(Proofs.sortWorldK enc k w b off m dk os).heap.size:=by simp[Proofs.sortWorldK,Sort.grow,Sort.putRowK,Sort.putRow,Sort.mapBlock,Sort.ahead]
theorem D3{b':Nat}(hne:b'≠b)(hlt:b'<w.heap.size):(Proofs.sortWorldK enc k w b off m dk os).heap[b']? = w.heap[b']?:=by
 simp only[Proofs.sortWorldK,Sort.grow,Sort.putRowK,Sort.putRow,Sort.mapBlock,Sort.ahead]
 rw[Array.getElem?_append_left (by simpa using hlt),Array.getElem?_modify,if_neg (λe=>hne e.symm)]
theorem Jl{c:Array Value}{e:TypeId}{fr:Nat×Nat}(h:w.heap[b]? = some (.cells c e fr)):(Proofs.sortWorldK enc k w b off m dk os).heap[b]? = some (.cells (Sort.putCells id off (Sort.flatK enc k dk) c) e fr):=by
 have hlt:b<w.heap.size:=(Array.getElem?_eq_some_iff.1 h).1;simp only[Proofs.sortWorldK,Sort.grow,Sort.putRowK,Sort.putRow,Sort.mapBlock,Sort.ahead]
 rw[Array.getElem?_append_left (by simpa using hlt),Array.getElem?_modify,if_pos rfl,h]
 rfl
end
theorem FG{w w':World}(h:RowKit.Below w.heap.size w w')(hd:w.drawn≤w'.drawn):∃q os',w'=Sort.grow (w.drewN q) os':=by
 obtain⟨h1,h2,h3,h4,h5⟩:=h;refine⟨w'.drawn - w.drawn,w'.heap.extract w.heap.size w'.heap.size,?_⟩;obtain⟨heap,tape,drawn,os,output⟩:=w;obtain⟨heap',tape',drawn',os',output'⟩:=w';simp only at h1 h2 h3 h4 h5 hd;subst h1 h2 h3;simp only[Sort.grow,World.drewN]
 congr 1
 ·apply Array.ext_getElem?;intro j;by_cases hj:j<heap.size
  ·rw[Array.getElem?_append_left hj];exact h5 j hj
  ·rw[Array.getElem?_append_right (by omega),Array.getElem?_extract]
   split
   ·congr 1
    omega
   ·rw[Array.getElem?_eq_none (by omega)]
 ·omega
end
set_option linter.unusedVariables false
structure Lo{α : Type}(a b:Option α):Prop where
 ok:∀r,a=some r→b=some r
theorem ah{α : Type}(a:Option α):Lo a a:=⟨λ_ h=>h⟩
theorem af{α : Type}{b:Option α}:Lo none b:=⟨λ_ h=>by cases h⟩
theorem ag{α β : Type}{a a':Option α}{f f':α→Option β}(h:Lo a a')(k:∀x,Lo (f x) (f' x)):Lo (a.bind f) (a'.bind f'):=by
 constructor;intro r hr
 cases a with
 | none=>cases hr
 | some x=>rw[h.ok x rfl];exact(k x).ok r hr
theorem aA{α γ β : Type}{a a':Option (α ⊕ γ)}{f f':α ⊕ γ→Option β}(h:Lo a a')(k:∀x,Lo (f (.inl x)) (f' (.inl x)))(k':∀x,Lo (f (.inr x)) (f' (.inr x))):Lo (a.bind f) (a'.bind f'):=
 ag h λx=>match x with
  | .inl x=>k x
  | .inr x=>k' x
theorem aC{α γ δ β : Type}{a a':Option (α ⊕ (γ ⊕ δ))}{f f':α ⊕ (γ ⊕ δ)→Option β}(h:Lo a a')(k:∀x,Lo (f (.inl x)) (f' (.inl x)))(k1:∀x,Lo (f (.inr (.inl x))) (f' (.inr (.inl x))))(k2:∀x,Lo (f (.inr (.inr x))) (f' (.inr (.inr x)))):Lo (a.bind f) (a'.bind f'):=
 ag h λx=>match x with
  | .inl x=>k x
  | .inr (.inl x)=>k1 x
  | .inr (.inr x)=>k2 x
theorem az{α γ δ ε β : Type}{a a':Option (α ⊕ (γ ⊕ (δ ⊕ ε)))}{f f':α ⊕ (γ ⊕ (δ ⊕ ε))→Option β}(h:Lo a a')(k:∀x,Lo (f (.inl x)) (f' (.inl x)))(k1:∀x,Lo (f (.inr (.inl x))) (f' (.inr (.inl x))))(k2:∀x,Lo (f (.inr (.inr (.inl x)))) (f' (.inr (.inr (.inl x)))))(k3:∀x,Lo (f (.inr (.inr (.inr x)))) (f' (.inr (.inr (.inr x))))):Lo (a.bind f) (a'.bind f'):=
 ag h λx=>match x with
  | .inl x=>k x
  | .inr (.inl x)=>k1 x
  | .inr (.inr (.inl x))=>k2 x
  | .inr (.inr (.inr x))=>k3 x
theorem ai{α : Type}{c:Bool}{a b a' b':Option α}(h:Lo a a')(k:Lo b b'):Lo (cond c a b) (cond c a' b'):=by
 cases c
 ·exact k
 ·exact h
def itr{τ σ : Type}(n:Nat)(s:τ→Option (τ ⊕ σ))(t:τ):Option σ:=iter s n t
theorem aj{τ σ : Type}{n:Nat}{s s':τ→Option (τ ⊕ σ)}(h:∀t,Lo (s t) (s' t))(t:τ):Lo (itr n s t) (loop s' t):=by
 constructor;intro r hr;unfold itr at hr;refine Gs (n:=n) ?_
 induction n generalizing t with
 | zero=>cases hr
 | succ n ih=>
  simp only[iter]at hr ⊢;split at hr
  ·cases hr
  ·rename_i t' ht;rw[(h t).ok _ ht];exact ih t' hr
  ·rename_i q hq;rw[(h t).ok _ hq];exact hr
end Go.Fx
namespace Go.Fx
open Go Go.Shelf
set_option linter.unusedVariables false
set_option linter.unusedSimpArgs false
section
variable{α : Type}
def insG(lt:α→α→Bool)(x:α):List α→List α
 | []=>[x]
 | y::l=>if lt y x then y::insG lt x l else x::y::l
def isort(lt:α→α→Bool):List α→List α
 | []=>[]
 | x::l=>insG lt x (isort lt l)
def okG(c:Nat→Nat→Option Int)(n:Nat):Bool:=
 (List.range n).all λi=>(List.range n).all λj=>match c i j,c j i with
  | some a,some b=>(if i=j then !(decide (a<0))else(decide (a<0) != decide (b<0)))&&(List.range n).all λk=>match c j k,c i k with
   | some a',some b'=>!(decide (a<0)&&decide (a'<0))||decide (b'<0)
   | _,_=>false
  | _,_=>false
def getG(l:List α)(x0:α)(i:Nat):α:=l.getD i x0
def cG(φ : α→α→Option Int)(l:List α)(x0:α)(i j:Nat):Option Int:=φ (getG l x0 i) (getG l x0 j)
def ltG(φ : α→α→Option Int)(x y:α):Bool:=match φ x y with
 | some a=>decide (a<0)
 | none=>false
def sortA(φ : α→α→Option Int):List α→Option (List α)
 | []=>some []
 | x::l=>if okG (cG φ (x::l) x) (l.length+1)&&decide (l.length<1000000000)then some (isort (ltG φ) (x::l))else none
theorem CP{lt:α→α→Bool}{x y:α}:∀{l:List α},y∈insG lt x l↔y=x∨y∈l
 | []=>by simp[insG]
 | z::l=>by
  unfold insG;split
  ·simp only[List.mem_cons,CP (l:=l)];constructor
   ·rintro(h | h | h)<;>simp[h]
   ·rintro(h | h | h)<;>simp[h]
  ·simp
theorem Cj{lt:α→α→Bool}{x:α}:∀{l:List α},(insG lt x l).Perm (x::l)
 | []=>by simp[insG]
 | z::l=>by
  unfold insG;split
  ·exact((Cj (l:=l)).cons z).trans (.swap x z l)
  ·exact .refl _
theorem qO{lt:α→α→Bool}:∀{l:List α},(isort lt l).Perm l
 | []=>.refl _
 | x::l=>Cj.trans (qO.cons x)
theorem E7{lt:α→α→Bool}(tr:∀x y z,lt y x=false→lt z y=false→lt z x=false)(asm:∀x y,lt x y=true→lt y x=false){x:α}:∀{l:List α},l.Pairwise (λa b=>lt b a=false)→(insG lt x l).Pairwise (λa b=>lt b a=false)
 | [],_=>by simp[insG]
 | z::l,h=>by
  unfold insG;have h':=List.pairwise_cons.1 h;split
  ·rename_i hz;refine List.pairwise_cons.2 ⟨?_,E7 tr asm h'.2⟩;intro y hy;rcases CP.1 hy with rfl | hy
   ·exact asm _ _ hz
   ·exact h'.1 y hy
  ·rename_i hz;refine List.pairwise_cons.2 ⟨?_,h⟩;intro y hy
   have hz':lt z x=false:=by simpa using hz
   rcases List.mem_cons.1 hy with rfl | hy
   ·exact hz'
   ·exact tr x z y hz' (h'.1 y hy)
theorem D8{lt:α→α→Bool}(tr:∀x y z,lt y x=false→lt z y=false→lt z x=false)(asm:∀x y,lt x y=true→lt y x=false):∀{l:List α},(isort lt l).Pairwise (λa b=>lt b a=false)
 | []=>by simp[isort]
 | x::l=>E7 tr asm (D8 tr asm)
theorem Dx{β : Type}{lt:α→α→Bool}{lt':β→β→Bool}(f:β→α)(h:∀a b,lt (f a) (f b)=lt' a b)(x:β):∀l:List β,(insG lt' x l).map f=insG lt (f x) (l.map f)
 | []=>by simp[insG]
 | y::l=>by
  simp only[insG,List.map_cons,h];split
  ·simp[Dx f h x l]
  ·simp
theorem B7{β : Type}{lt:α→α→Bool}{lt':β→β→Bool}(f:β→α)(h:∀a b,lt (f a) (f b)=lt' a b):∀l:List β,(isort lt' l).map f=isort lt (l.map f)
 | []=>rfl
 | x::l=>by simp only[isort,List.map_cons,Dx f h,B7 f h l]
theorem Eb{c:Nat→Nat→Option Int}{n:Nat}(h:okG c n=true):(∀i j,i<n→j<n→∃a,c i j=some a)∧(∀i a,i<n→c i i=some a→¬ a<0)∧(∀i j a b,i<n→j<n→i≠j→c i j=some a→c j i=some b→(a<0↔¬ b<0))∧(∀i j k a b d,i<n→j<n→k<n→c i j=some a→c j k=some b→c i k=some d→a<0→b<0→d<0):=by
 unfold okG at h;simp only[List.all_eq_true,List.mem_range]at h;refine⟨?_,?_,?_,?_⟩
 ·intro i j hi hj;have:=h i hi j hj
  cases hc:c i j with
  | none=>rw[hc]at this;cases this
  | some a=>exact⟨a,rfl⟩
 ·intro i a hi hc;have:=h i hi i hi;rw[hc]at this;simp only[if_true,Bool.and_eq_true,Bool.not_eq_true',decide_eq_false_iff_not]at this;exact this.1
 ·intro i j a b hi hj hne h1 h2;have:=h i hi j hj;rw[h1,h2]at this;simp only[if_neg hne,Bool.and_eq_true,bne_iff_ne,ne_eq]at this;have h3:=this.1
  by_cases ha:a<0<;>by_cases hb:b<0<;>simp[ha,hb]at h3 ⊢
 ·intro i j k a b d hi hj hk h1 h2 h3 ha hb;have:=h i hi j hj;rw[h1]at this
  cases hji:c j i with
  | none=>rw[hji]at this;cases this
  | some e=>rw[hji]at this;simp only[Bool.and_eq_true,List.all_eq_true,List.mem_range]at this;have h4:=this.2 k hk;rw[h2,h3]at h4;simpa[ha,hb]using h4
end
section
variable{F:Fam}{P:Program}
def phi2{t:Ty}(φ : TupT F [t,t]→Option (ET F (.int .i64)))(x y:ET F t):Option Int:=φ (x,y,())
def sortG(t:Ty)(φ : TupT F [t,t]→Option (ET F (.int .i64)))(l:List (ET F t)):Option (List (ET F t)):=sortA (phi2 φ) l
set_option maxHeartbeats 1000000 in
theorem Hx{ρ : Ren}(L:Proofs.SlLaysF0.n6 P ρ){n:Nat}(aE:∀w,(isAgg (ρ.t 24)).run P w = .ok true w)(zE:∀w,(Go.sizeOf (ρ.t 24)).run P w = .ok (szT F (.st n)) w)
  (hf:cB F (.st n)=true) (h0:0<szT F (.st n)) (hent:bc P (ρ.f 6)) (hmp:(Ty.st n).isMp=false:=by rfl) :
  FnOk (F:=F) P (ρ.f 6) ⟨[.row (.st n) false,.fn [.st n,.st n] (.int .i64)],[],λa=>sortG (.st n) a.2.1 a.1⟩:=by
 refine⟨hent,?_⟩;intro a r hr imm w vs pls bxs hheld hpl himm;obtain⟨l,φ,u⟩:=a;obtain⟨v,vs',p1,p2,b1,b2,rfl,rfl,rfl,⟨pl,rfl,rfl,hrow,hv⟩,v2,vs2,p3,p4,b3,b4,rfl,rfl,rfl,⟨rfl,rfl,hfn⟩,rfl,rfl,rfl⟩:=hheld;obtain⟨fid,bound,captured,rfl,hbd,hcan,hcall⟩:=hfn
 have hb0:bound = []:=hbd.resolve_right (by simp)
 subst hb0;dsimp only at hr
 have hv:OwnV pl v:=by unfold RowX at hv;rw[if_neg (by rw[hmp];simp)]at hv;exact hv
 have hrow0:=hrow;rw[dD hmp]at hrow
 cases l with
 | nil=>
  have hr':r = []:=(Option.some.inj hr).symm;subst hr'
  have hp:∃p cap,v = .slice p 0 cap:=by
   cases pl with
   | none=>obtain⟨p,rfl⟩:=hv;exact⟨_,_,rfl⟩
   | some q=>obtain⟨b,cap,n⟩:=q;obtain⟨rfl,_⟩:=hrow;cases hv;exact⟨_,_,rfl⟩
  obtain⟨p,cap,rfl⟩:=hp;refine(Proofs.AnyF.slices_SortFunc_none L p cap (.func (.func fid) ⟨[]⟩ ⟨captured⟩) w).mono ?_;rintro e w' ⟨rfl,rfl⟩
  exact⟨[],imm,[],rfl,rfl,rfl,rfl,Nat.le_refl _,Nat.le_refl _,λ_ _ _=>rfl,λ_ h=>h,λ_ h=>.inl h,himm,⟨pl,rfl,rfl,hrow0,rfl⟩,by simpa[aw,plBlks,nbl]using hpl,by intro b hb;exact .inl (by simpa[aw,plBlks,nbl]using hb)⟩
 | cons x0 l0=>
  have hr2:(if okG (cG (phi2 φ) (x0::l0) x0) (l0.length+1)&&decide (l0.length<1000000000)then some (isort (ltG (phi2 φ)) (x0::l0))else none)=some r:=hr
  split at hr2
  rotate_left
  ·cases hr2
  rename_i hc;simp only[Bool.and_eq_true,decide_eq_true_eq]at hc;obtain⟨hok,hlen⟩:=hc;have hr':r=isort (ltG (phi2 φ)) (x0::l0):=(Option.some.inj hr2).symm;clear hr hr2;subst hr'
  cases pl with
  | none=>cases hrow
  | some q=>
  obtain⟨b,cap,n'⟩:=q;obtain⟨rfl,hle,hmx,cur,e,hb,hcl,hcr⟩:=hrow;cases hv;obtain⟨k1,k2,k3,k4⟩:=Eb hok;have hl0:(x0::l0:List (ET F (.st n))).length=l0.length+1:=rfl;rw[← hl0]at k1 k2 k3 k4
  have cget:∀i j:Fin (x0::l0:List (ET F (.st n))).length,cG (phi2 φ) (x0::l0) x0 i.1 j.1=phi2 φ ((x0::l0).get i) ((x0::l0).get j):=by
   intro i j;unfold cG getG
   have gd:∀q:Fin (x0::l0:List (ET F (.st n))).length,(x0::l0:List (ET F (.st n))).getD q.1 x0=(x0::l0:List (ET F (.st n))).get q:=by intro q;rw[List.getD_eq_getElem?_getD,LP q.2];rfl
   rw[gd,gd]
  have hlen':(x0::l0:List (ET F (.st n))).length<4611686018427387904:=by rw[hl0];omega
  generalize hl:(x0::l0:List (ET F (.st n)))=l at *
  have hne:0<l.length:=by rw[← hl];simp
  haveI:Inhabited (Fin l.length):=⟨⟨0,hne⟩⟩
  have hval:∀i j:Fin l.length,∃a,phi2 φ (l.get i) (l.get j)=some a:=λi j=>by obtain⟨a,ha⟩:=k1 i.1 j.1 i.2 j.2;exact⟨a,(cget i j).symm.trans ha⟩
  have cfv:∀(i j:Fin l.length)(a:Int),phi2 φ (l.get i) (l.get j)=some a→(phi2 φ (l.get i) (l.get j)).getD 0=a:=λi j a h=>by rw[h];rfl
  have hlt:∀(i j:Fin l.length)(a:Int),phi2 φ (l.get i) (l.get j)=some a→ltG (phi2 φ) (l.get i) (l.get j)=decide (a<0):=λi j a h=>by unfold ltG;rw[h]
  have hcf:Proofs.ltOf (λi j:Fin l.length=>(phi2 φ (l.get i) (l.get j)).getD 0) = λi j=>ltG (phi2 φ) (l.get i) (l.get j):=by
   funext i j
   obtain⟨a,ha⟩:=hval i j;rw[hlt i j a ha];show decide ((phi2 φ (l.get i) (l.get j)).getD 0<0)=_;rw[ha];rfl
  have irr:∀i:Fin l.length,ltG (phi2 φ) (l.get i) (l.get i)=false:=λi=>by obtain⟨a,ha⟩:=hval i i;rw[hlt i i a ha];exact decide_eq_false (k2 i.1 a i.2 ((cget i i).trans ha))
  have tri:∀i j:Fin l.length,i≠j→(ltG (phi2 φ) (l.get i) (l.get j)=true↔ltG (phi2 φ) (l.get j) (l.get i)=false):=λi j hij=>by obtain⟨a,ha⟩:=hval i j;obtain⟨a',ha'⟩:=hval j i;rw[hlt i j a ha,hlt j i a' ha',decide_eq_true_eq,decide_eq_false_iff_not];exact k3 i.1 j.1 a a' i.2 j.2 (λh=>hij (Fin.ext h)) ((cget i j).trans ha) ((cget j i).trans ha')
  have trn:∀i j k:Fin l.length,ltG (phi2 φ) (l.get i) (l.get j)=true→ltG (phi2 φ) (l.get j) (l.get k)=true→ltG (phi2 φ) (l.get i) (l.get k)=true:=λi j k=>by obtain⟨a,ha⟩:=hval i j;obtain⟨a',ha'⟩:=hval j k;obtain⟨a'',ha''⟩:=hval i k;rw[hlt i j a ha,hlt j k a' ha',hlt i k a'' ha'',decide_eq_true_eq,decide_eq_true_eq,decide_eq_true_eq];exact k4 i.1 j.1 k.1 a a' a'' i.2 j.2 k.2 ((cget i j).trans ha) ((cget j k).trans ha') ((cget i k).trans ha'')
  have asy:∀i j:Fin l.length,ltG (phi2 φ) (l.get i) (l.get j)=true→ltG (phi2 φ) (l.get j) (l.get i)=false:=λi j h=>by
   by_cases hij:i=j
   ·subst hij;rw[irr i]at h;cases h
   ·exact(tri i j hij).1 h
  have hT:∀i j:Fin l.length,ltG (phi2 φ) (l.get i) (l.get j)=false→ltG (phi2 φ) (l.get j) (l.get i)=false→i=j:=λi j h h'=>by
   by_cases hij:i=j
   ·exact hij
   ·have:=(tri i j hij).2 h';rw[h]at this;cases this
  have ntr:∀i j k:Fin l.length,ltG (phi2 φ) (l.get i) (l.get j)=false→ltG (phi2 φ) (l.get j) (l.get k)=false→ltG (phi2 φ) (l.get i) (l.get k)=false:=λi j k h h'=>by
   by_cases hij:i=j
   ·subst hij;exact h'
   ·by_cases hjk:j=k
    ·subst hjk;exact h
    ·have h1:ltG (phi2 φ) (l.get j) (l.get i)=true:=(tri j i (λh=>hij h.symm)).2 h;have h2:ltG (phi2 φ) (l.get k) (l.get j)=true:=(tri k j (λh=>hjk h.symm)).2 h';exact asy k i (trn k j i h2 h1)
  have hO:Sort.SWO (Proofs.ltOf (λi j:Fin l.length=>(phi2 φ (l.get i) (l.get j)).getD 0)):=by rw[hcf];exact⟨irr,trn,ntr⟩
  have hblk:b<w.heap.size:=(Array.getElem?_eq_some_iff.1 hb).1
  have hnimm:¬ imm b:=hpl.imm b (by simp[aw,plBlks,nbl])
  have hk:∀i:Fin l.length,(encL (.st n) (l.get i)).length=szT F (.st n):=λi=>by rw[encL,List.length_map,aN]
  have h1:∀i:Fin l.length,∀v∈encL (.st n) (l.get i),v.oneCell'=true:=λi v hv=>by obtain⟨d,_,rfl⟩:=List.mem_map.1 hv;exact HY
  have flatAt:∀(s:List (Fin l.length)) (j:Nat) (d:ND F),(cells F (.st n) (s.map l.get))[j]? = some d→j<s.length*szT F (.st n)∧(Sort.flatK (λi:Fin l.length=>encL (F:=F) (.st n) (l.get i)) (szT F (.st n)) s.toArray)[j]! = encV d∧d.smp=true:=by
   intro s j d hd
   have hj:j<s.length*szT F (.st n):=by
    have:=(LQ.1 hd).1
    rwa [ay,List.length_map]at this
   obtain⟨e',he1,he2⟩:=BQ h0 (es:=(s.map l.get).map (encT F (.st n))) (by intro e he;obtain⟨y,_,rfl⟩:=List.mem_map.1 he;exact aN F _ y) hd
   rw[List.getElem?_map]at he1;obtain⟨y,hy1,hy2⟩:=Option.map_eq_some_iff.1 he1;subst hy2;rw[List.getElem?_map]at hy1;obtain⟨i,hi1,hi2⟩:=Option.map_eq_some_iff.1 hy1;subst hi2;refine⟨hj,?_,ER hf (l.get i) d (List.mem_of_getElem? he2)⟩
   rw[Sort.get_flatK _ _ _ _ (by simpa using hj)]
   have e1:(s.toArray)[j / szT F (.st n)]! = i:=by rw[getElem!_def];simp[hi1]
   rw[e1]
   have e2:(encL (F:=F) (.st n) (l.get i))[j % szT F (.st n)]? = some (encV d):=by unfold encL;rw[List.getElem?_map,he2];rfl
   rw[getElem!_def,e2]
  have hfr:(List.finRange l.length).map l.get=l:=by
   apply List.ext_getElem?;intro i;rw[List.getElem?_map];by_cases hi:i<l.length
   ·rw[LP (by simpa using hi),LP hi]
    simp
   ·rw[List.getElem?_eq_none (by simpa using hi),List.getElem?_eq_none (by omega)]
    rfl
  have hH:Sort.HoldsK (λi:Fin l.length=>encL (F:=F) (.st n) (l.get i)) (szT F (.st n)) w b 0 (List.finRange l.length).toArray:=by
   intro j hj;rw[Sort.size_flatK]at hj
   have hj':j<(cells F (.st n) l).length:=by rw[ay];simpa using hj
   have hjc:j<cur.length:=by rw[hcl];have:l.length*szT F (.st n)≤cap*szT F (.st n):=Nat.mul_le_mul_right _ hle;rw[ay]at hj';omega
   have hat:=flatAt (List.finRange l.length) j _ (by rw[hfr];exact LP hj')
   obtain⟨_,q1,q2⟩:=hat;have q3:=E6 q2 (hcr j _ _ (LP hj') (LP hjc));refine⟨?_,?_⟩
   ·simp only[World.cell?,hb,Nat.zero_add];rw[q1,← q3];simp[hjc]
   ·simp[World.frozen?,hb]
  have hcmp:Proofs.CmpLays P fid ⟨captured⟩ (λi:Fin l.length=>encL (F:=F) (.st n) (l.get i)) (szT F (.st n)) (λi j:Fin l.length=>(phi2 φ (l.get i) (l.get j)).getD 0) b 0 (List.finRange l.length).toArray.size w:=by
   intro m os dk hdk i j;obtain⟨c,hc⟩:=hval i j;have ec:(phi2 φ (l.get i) (l.get j)).getD 0=c:=cfv i j c hc;dsimp only;rw[ec]
   have rp:∀(z:ET F (.st n)) (W:World),RepT W imm (encT F (.st n) z,true) (.agg ⟨encL (.st n) z⟩):=by
    intro z W
    refine .agg (by simp[encL]) ?_
    intro j d v h h';simp only[encL,List.getElem?_map,h,Option.map_some,Option.some.injEq]at h';subst h';exact Di (ER hf z d (List.mem_of_getElem? h))
   have hw:=hcall (Proofs.sortWorldK (λi:Fin l.length=>encL (F:=F) (.st n) (l.get i)) (szT F (.st n)) w b 0 m dk os) imm (λb' hb'=>⟨hb',D3 (λe=>hnimm (e▸hb')) (himm b' hb')⟩) (λb' hb'=>Nat.lt_of_lt_of_le (himm b' hb') ya) (l.get i,l.get j,()) c
    [.agg ⟨encL (.st n) (l.get i)⟩,.agg ⟨encL (.st n) (l.get j)⟩] hc (by
     refine⟨rfl,?_⟩;intro q d v h h'
     match q with
     | 0=>simp only[encTs,List.getElem?_cons_zero,Option.some.injEq]at h h';subst h h';exact rp _ _
     | 1=>simp only[encTs,List.getElem?_cons_succ,List.getElem?_cons_zero,Option.some.injEq]at h h';subst h h';exact rp _ _
     | q+2=>simp[encTs]at h)
   have ea:(#[.agg (encL (.st n) (l.get i)).toArray,.agg (encL (.st n) (l.get j)).toArray]++⟨captured⟩:Array Value)=⟨[.agg ⟨encL (.st n) (l.get i)⟩,.agg ⟨encL (.st n) (l.get j)⟩]++captured⟩:=by apply Array.ext';simp
   rw[ea];refine hw.mono ?_;rintro e' w'' ⟨v',rfl,hbl,hrt,hdr⟩;refine⟨?_,FG hbl hdr⟩
   cases hrt with
   | one h=>rw[E6 rfl h];rfl
  have main:=Proofs.AnyQ.slices_SortFunc_total L (szT F (.st n)) aE zE (λi:Fin l.length=>encL (F:=F) (.st n) (l.get i)) hk h1 (λi j:Fin l.length=>(phi2 φ (l.get i) (l.get j)).getD 0) hO fid ⟨captured⟩ b 0 cap (List.finRange l.length).toArray w (λargs w=>xx hcan args w) hcmp hH hblk (by rw[List.size_toArray,List.length_finRange];exact hlen') (by rw[hcf];exact hT)
  rw[show(List.finRange l.length).toArray.size=l.length by simp]at main
  refine main.mono ?_;rintro e' w' ⟨rfl,m,os,rfl⟩
  have hs:((List.finRange l.length).toArray.toList.mergeSort λx y=>!(Proofs.ltOf (λi j:Fin l.length=>(phi2 φ (l.get i) (l.get j)).getD 0)) y x)=isort (λi j:Fin l.length=>ltG (phi2 φ) (l.get i) (l.get j)) (List.finRange l.length):=by
   rw[hcf];show(List.finRange l.length).mergeSort _=_;refine List.Perm.eq_of_pairwise (le:=λi j=>ltG (phi2 φ) (l.get j) (l.get i)=false) (λi j _ _ h h'=>(hT i j h' h)) ?_ ?_ ((List.mergeSort_perm _ _).trans qO.symm)
   ·have:=List.pairwise_mergeSort (le:=λi j:Fin l.length=>!(ltG (phi2 φ) (l.get j) (l.get i))) (by
     intro i j k h h';simp only[Bool.not_eq_true']at h h' ⊢
     exact ntr k j i h' h) (by
     intro i j
     cases h:ltG (phi2 φ) (l.get j) (l.get i)with
     | false=>rfl
     | true=>rw[asy j i h];rfl) (List.finRange l.length)
    refine this.imp ?_;intro i j h;simpa using h
   ·exact D8 (λi j k h h'=>ntr k j i h' h) asy
  rw[hs]
  have hm:(isort (λi j:Fin l.length=>ltG (phi2 φ) (l.get i) (l.get j)) (List.finRange l.length)).map l.get=isort (ltG (phi2 φ)) l:=by rw[B7 (lt:=ltG (phi2 φ)) l.get (λ_ _=>rfl),hfr]
  have hsl:(isort (λi j:Fin l.length=>ltG (phi2 φ) (l.get i) (l.get j)) (List.finRange l.length)).length=l.length:=by rw[qO.length_eq];simp
  rw[← hm];generalize(isort (λi j:Fin l.length=>ltG (phi2 φ) (l.get i) (l.get j)) (List.finRange l.length))=s at *;refine⟨[],imm,[],rfl,rfl,rfl,rfl,?_,ya,?_,λ_ h=>h,λ_ h=>.inl h,λb' hb'=>Nat.lt_of_lt_of_le (himm b' hb') ya,⟨some (b,cap,l.length,[]),rfl,rfl,Eq.mpr (dD hmp) ?_,rfl⟩,⟨?_,?_,?_⟩,?_⟩
  ·simp[Proofs.sortWorldK,Sort.grow,Sort.putRowK,Sort.putRow,Sort.mapBlock,Sort.ahead]
  ·intro b' hlt hno
   exact D3 (λe=>hno (by simp[aw,plBlks,nbl,e])) hlt
  ·refine⟨by rw[List.length_map,hsl],by rw[List.length_map,hsl];exact hle,hmx,(Sort.putCells id 0 (Sort.flatK (λi:Fin l.length=>encL (F:=F) (.st n) (l.get i)) (szT F (.st n)) s.toArray) ⟨cur⟩).toList,e,Jl hb,?_,?_⟩
   ·simp[Sort.putCells,hcl]
   ·intro j d x hd hx;obtain⟨q0,q1,q2⟩:=flatAt s j d hd;simp only[Sort.putCells,Array.toList_mapIdx,List.getElem?_mapIdx]at hx
    cases hcj:cur[j]? with
    | none=>simp[hcj]at hx
    | some y=>
     simp only[hcj,Option.map_some,Option.some.injEq,Nat.zero_le,true_and,Nat.zero_add,Nat.sub_zero,Sort.size_flatK,id]at hx
     rw[if_pos (by simpa using q0),q1]at hx
     subst hx;exact Di q2
  ·simp[aw,plBlks,nbl]
  ·intro b' hb'
   exact hpl.imm b' (by simpa[aw,plBlks,nbl]using hb')
  ·intro b' hb'
   exact Nat.lt_of_lt_of_le (hpl.lt b' (by simpa[aw,plBlks,nbl]using hb')) ya
  ·intro b' hb'
   exact .inl (by simpa[aw,plBlks,nbl]using hb')
theorem Gl{c c':Nat→Nat→Option Int}{n:Nat}(h:∀i j,i<n→j<n→c i j=c' i j):okG c n=okG c' n:=by
 unfold okG
 have al:∀(f g:Nat→Bool),(∀i,i<n→f i=g i)→(List.range n).all f=(List.range n).all g:=by intro f g hfg;rw[Bool.eq_iff_iff];simp only[List.all_eq_true,List.mem_range];exact⟨λhf i hi=>(hfg i hi)▸hf i hi,λhg i hi=>(hfg i hi)▸hg i hi⟩
 refine al _ _ λi hi=>al _ _ λj hj=>?_;rw[h i j hi hj,h j i hj hi]
 have e:((List.range n).all λk=>match c j k,c i k with | some a',some b'=>true&&false | _,_=>false)=((List.range n).all λk=>match c' j k,c' i k with | some a',some b'=>true&&false | _,_=>false):=al _ _ λk hk=>by rw[h j k hj hk,h i k hi hk]
 cases hc:c' i j with
 | none=>rfl
 | some a=>
  cases hc2:c' j i with
  | none=>rfl
  | some b=>
   dsimp only
   congr 1
   exact al _ _ λk hk=>by rw[h j k hj hk,h i k hi hk]
theorem yP{α : Type}{lt lt':α→α→Bool}:∀{l:List α},(∀x∈l,∀y∈l,lt x y=lt' x y)→isort lt l=isort lt' l
 | [],_=>rfl
 | x::l,h=>by
  have ih:isort lt l=isort lt' l:=yP λa ha b hb=>h a (by simp[ha]) b (by simp[hb])
  have ins:∀m:List α,(∀y∈m,y∈l)→insG lt x m=insG lt' x m:=by
   intro m
   induction m with
   | nil=>intro _;rfl
   | cons y m ihm=>
    intro hm;simp only[insG]
    rw[h y (by simp[hm y (by simp)]) x (by simp),ihm λz hz=>hm z (by simp[hz])]
  simp only[isort];rw[ih];exact ins _ λy hy=>qO.mem_iff.1 hy
theorem H3{t:Ty}{φ φ':TupT F [t,t]→Option (ET F (.int .i64))}(h:∀a,Lo (φ a) (φ' a))(l:List (ET F t)):Lo (sortG t φ l) (sortG t φ' l):=by
 constructor;intro r hr;unfold sortG at hr ⊢
 cases l with
 | nil=>exact hr
 | cons x l=>
  simp only[sortA]at hr ⊢;by_cases hc:(okG (cG (phi2 φ) (x::l) x) (l.length+1)&&decide (l.length<1000000000))=true
  rotate_left
  ·rw[if_neg hc]at hr;cases hr
  rw[if_pos hc]at hr;rw[Bool.and_eq_true]at hc;have k1:=(Eb hc.1).1
  have eqv:∀i j,i<l.length+1→j<l.length+1→cG (phi2 φ) (x::l) x i j=cG (phi2 φ') (x::l) x i j:=by intro i j hi hj;obtain⟨a,ha⟩:=k1 i j hi hj;rw[ha];exact((h (getG (x::l) x i,getG (x::l) x j,())).ok a ha).symm
  rw[← Gl eqv,if_pos (by rw[Bool.and_eq_true];exact hc)]
  rw[← hr]
  congr 1
  refine(yP ?_).symm;intro y hy z hz;obtain⟨i,hi,ei⟩:=List.getElem_of_mem hy;obtain⟨j,hj,ej⟩:=List.getElem_of_mem hz
  have e:=eqv i j (by simpa using hi) (by simpa using hj)
  have g1:getG (x::l) x i=y:=by unfold getG;rw[List.getD_eq_getElem?_getD,LP hi,ei];rfl
  have g2:getG (x::l) x j=z:=by unfold getG;rw[List.getD_eq_getElem?_getD,LP hj,ej];rfl
  unfold cG at e;rw[g1,g2]at e;unfold ltG;rw[e]
end
end Go.Fx
namespace Go.Fx
open Go Go.Proofs Go.RowKit
set_option linter.unusedVariables false
set_option linter.unusedSimpArgs false
def del{α : Type}(l:List α)(i j:Int):Option (List α):=if 0≤i∧i≤j∧j≤l.length then some (l.take i.toNat++l.drop j.toNat)else none
def BD(P:Program)(f:FuncId)(ts e sz:Nat):Prop:=
 ∀(b n cap i j:Nat)(w:World),n≤cap→cap≤9223372036854775807→i<j→j≤n→∀(i0:TypeInfo),P.info? e=some i0→i0.size=sz→∀(A:Addr),(if cap=j then some (⟨b,0,none⟩:Addr)else some ⟨b,j*sz,none⟩)=some A→∀(news:List Value),
  Hid (news.length=(n - j)*sz)→Hid (∀t u,news[t]? = some u→w.drew.cell? (A.add t)=some u)→Hid (∀u∈news,u.oneCell'=true)→
  Hid (∀t,t<news.length→(w.drew.cell? ⟨b,0+i*sz+t,none⟩).isSome=true∧w.drew.frozen? ⟨b,0+i*sz+t,none⟩=false)→
  ∀(W1 W2:World),Hid (W1=w.drew.setCells b (0+i*sz) news)→
  (∀ty,(Builtin.clear_ #[ts] ty #[.slice (some ⟨b,(i+(n - j))*sz,none⟩) (n - (i+(n - j))) (cap - (i+(n - j)))]).run P W1 = .ok (.tuple #[]) W2)→
  Calls P f #[.slice (some ⟨b,0,none⟩) n cap,.int .i64 i,.int .i64 j] w λe w'=>e = .returned (.slice (some ⟨b,0,none⟩) (i+(n - j)) cap)∧w'=W2
def BR(P:Program)(f:FuncId):Prop:=
 (∀(b n cap i:Nat)(w:World),n≤cap→i≤n→Calls P f #[.slice (some ⟨b,0,none⟩) n cap,.int .i64 i,.int .i64 i] w λe w'=>e = .returned (.slice (some ⟨b,0,none⟩) n cap)∧w'=w)∧
 ∀(p:Option Addr)(w:World),Calls P f #[.slice p 0 0,.int .i64 0,.int .i64 0] w λe w'=>e = .returned (.slice p 0 0)∧w'=w
section
variable{F:Fam}{P:Program}{T:TypeId→Option (TI F)}
theorem D4{w:World}{b o:Nat}{cur vs:List Value}{t:TypeId}(hb:w.heap[b]? = some (.cells ⟨cur⟩ t (0,0)))(hl:o+vs.length≤cur.length)(h1:∀v∈vs,v.oneCell'=true) :
  w.setCells b o vs=w.setRow b (cur.take o++vs++cur.drop (o+vs.length)).toArray:=by
 have r1:=run_storeCells_at (default:Program) b o t vs 0 ⟨cur⟩ w hb (by simpa using hl) h1
 have r2:=run_storeCells_cells (P:=(default:Program)) b o vs 0 w (by
  intro j hj;simp only[World.cell?,hb,Nat.add_zero];simp
  omega) (by
  intro j hj;simp[World.frozen?,hb]) h1
 rw[r1]at r2;simp only[Nat.add_zero]at r2
 injection r2 with _ h
 exact h.symm
theorem F_(hT:TblOk P T){f ts e sz:Nat}{t:Ty}{te:TI F}(hte:T e=some te)(htt:te.ty=some t)(hsz:te.size=sz)(h0:0<sz)(hts:P.underlying ts=some (.slice e))(hent:bc P f)(wn:BR P f)(wb:BD P f ts e sz)(hmp:t.isMp=false:=by rfl) :
  FnOk (F:=F) P f ⟨[.v (.slice t) [0],.v (.int .i64) [],.v (.int .i64) []],[.v (.slice t) [0]],λa=>del a.1 a.2.1 a.2.2.1⟩:=by
 refine⟨hent,?_⟩;intro a r hr imm w vs pls bxs hheld hpl himm;obtain⟨l,i,j,u⟩:=a;have hr:del l i j=some r:=hr;unfold del at hr;split at hr
 rotate_left
 ·cases hr
 rename_i hc;have c1:(0:Int)≤i:=hc.1;have c2:(i:Int)≤j:=hc.2.1;have c3:(j:Int)≤((List.length l:Nat):Int):=hc.2.2;have c4:(0:Int)≤j:=Int.le_trans c1 c2;have hr':r=l.take i.toNat++l.drop j.toNat:=(Option.some.inj hr).symm;clear hr;obtain⟨i',rfl⟩:∃i':Nat,i=i':=⟨Int.toNat i,(Int.toNat_of_nonneg c1).symm⟩;obtain⟨j',rfl⟩:∃j':Nat,j=j':=⟨Int.toNat j,(Int.toNat_of_nonneg c4).symm⟩;simp only[Int.toNat_natCast]at hr';obtain⟨v,vs',p1,p2,b1,b2,rfl,rfl,rfl,⟨h1,rfl⟩,v2,vs2,p3,p4,b3,b4,rfl,rfl,rfl,⟨h2,rfl⟩,v3,vs3,p5,p6,b5,b6,rfl,rfl,rfl,⟨h3,rfl⟩,rfl,rfl,rfl⟩:=hheld;unfold HeldV at h1 h2 h3;simp only[Ty.isSt,Bool.false_eq_true,if_false,encT,HeldC,memN,Nat.beq,if_true]at h1 h2 h3;obtain⟨pl,rest,rfl,hrow,hv,rfl⟩:=h1;rw[dD hmp]at hrow;rw[gE hmp]at hv;obtain⟨h2,rfl⟩:=h2;obtain⟨h3,rfl⟩:=h3;cases h2;cases h3;have ei:(⟨[v,.int .i64 (i':Int),.int .i64 (j':Int)]⟩:Array Value) = #[v,.int .i64 (i':Int),.int .i64 (j':Int)]:=rfl
 have held:∀(w':World)(pl':Pl)(v':Value),bv w' imm t r pl'→OwnV pl' v'→bC P w' imm (outs ⟨[.v (.slice t) [0],.v (.int .i64) [],.v (.int .i64) []],[.v (.slice t) [0]],λa=>del a.1 a.2.1 a.2.2.1⟩) r [v'] [] [pl']:=by intro w' pl' v' k1 k2;refine⟨v',rfl,rfl,?_,rfl⟩;unfold HeldV;simp only[Ty.isSt,Bool.false_eq_true,if_false,encT,HeldC,memN,Nat.beq,if_true];exact⟨pl',[],rfl,Eq.mpr (dD hmp) k1,Eq.mpr (gE hmp) k2,rfl⟩
 by_cases hij:i'=j'
 ·subst hij
  have hrl:r=l:=by rw[hr',List.take_append_drop]
  have hcall:∃p n cap,v = .slice p n cap∧Calls P f #[.slice p n cap,.int .i64 i',.int .i64 i'] w λe w'=>e = .returned (.slice p n cap)∧w'=w:=by
   cases pl with
   | none=>
    obtain⟨p,rfl⟩:=hv
    have hl0:l.length=0:=by rw[hrow];rfl
    have hi0:i'=0:=by omega
    subst hi0;exact⟨p,0,0,rfl,wn.2 p w⟩
   | some q=>
    obtain⟨b,cap,n⟩:=q;obtain⟨rfl,hle,_⟩:=hrow;cases hv
    exact⟨_,_,_,rfl,wn.1 b _ cap i' w hle (by omega)⟩
  obtain⟨p,n,cap,rfl,hc⟩:=hcall;refine hc.mono ?_;rintro e' w' ⟨rfl,rfl⟩
  refine⟨[.slice p n cap],imm,[pl],rfl,rfl,rfl,rfl,Nat.le_refl _,Nat.le_refl _,λ_ _ _=>rfl,λ_ h=>h,λ_ h=>.inl h,himm,held _ _ _ (by rw[hrl];exact hrow) hv,by simpa[aw,plBlks,nbl]using hpl,by intro b hb;exact .inl (by simpa[aw,plBlks,nbl]using hb)⟩
 ·have hlt:i'<j':=by omega
  cases pl with
  | none=>
   have:l.length=0:=by rw[hrow];rfl
   omega
  | some q=>
  obtain⟨b,cap,n⟩:=q;obtain⟨rfl,hle,hmx,cur,e0,hb,hcl,hcr⟩:=hrow;cases hv
  have hszt:szT F t=sz:=by rw[← hsz];exact hT.ty e te t hte htt
  rw[hszt]at hcl;have hblk:b<w.heap.size:=(Array.getElem?_eq_some_iff.1 hb).1;obtain⟨i0,hi0,hs,_,z,hz,hzs,hzl,hzr⟩:=hT.info e te hte
  have hs':i0.size=sz:=by rw[hs,hsz]
  have hdb:w.drew.heap[b]? = some (.cells ⟨cur⟩ e0 (0,0)):=hb
  have hjl:j'≤l.length:=by omega
  have hcells:(cells F t l).length=l.length*sz:=by rw[ay,hszt]
  have one:∀k x,k<l.length*sz→cur[k]? = some x→x.oneCell'=true:=by
   intro k x hk hx
   exact(hcr k _ x (LP (by rw[hcells];exact hk)) hx).oneCell
  have hcapsz:l.length*sz≤cap*sz:=Nat.mul_le_mul_right _ hle;have hjsz:j'*sz≤l.length*sz:=Nat.mul_le_mul_right _ hjl
  have hisz:i'*sz≤j'*sz:=Nat.mul_le_mul_right _ (by omega)
  have hsub:(l.length - j')*sz=l.length*sz - j'*sz:=Nat.sub_mul _ _ _;have hsum:(i'+(l.length - j'))*sz=i'*sz+(l.length - j')*sz:=Nat.add_mul _ _ _
  have htl:(l.length - (i'+(l.length - j')))*sz=j'*sz - i'*sz:=by rw[show l.length - (i'+(l.length - j'))=j' - i' by omega,Nat.sub_mul]
  obtain⟨news,hnews⟩:∃news,news=(cur.drop (j'*sz)).take ((l.length - j')*sz):=⟨_,rfl⟩
  have nl:news.length=(l.length - j')*sz:=by rw[hnews,List.length_take,List.length_drop,hcl];omega
  have nget:∀k x,news[k]? = some x→cur[j'*sz+k]? = some x∧k<(l.length - j')*sz:=by intro k x hk;have hlt':=(LQ.1 hk).1;rw[nl]at hlt';rw[hnews,List.getElem?_take,if_pos hlt',List.getElem?_drop]at hk;exact⟨hk,hlt'⟩
  have n1:∀x∈news,x.oneCell'=true:=by
   intro x hx;obtain⟨k,hk⟩:=List.getElem?_of_mem hx;obtain⟨q1,q2⟩:=nget k x hk
   exact one _ x (by omega) q1
  obtain⟨A,hA,hsrc⟩:∃A:Addr,(if cap=j' then some (⟨b,0,none⟩:Addr)else some ⟨b,j'*sz,none⟩)=some A∧(∀k x,news[k]? = some x→w.drew.cell? (A.add k)=some x):=by
   by_cases h:cap=j'
   ·refine⟨⟨b,0,none⟩,by simp[h],λk x hk=>?_⟩
    have:=(nget k x hk).2
    rw[show l.length - j'=0 by omega]at this
    omega
   ·refine⟨⟨b,j'*sz,none⟩,by simp[h],λk x hk=>?_⟩
    rw[Addr.add_lit];simp only[World.cell?,hdb];simpa using(nget k x hk).1
  have w1e:w.drew.setCells b (0+i'*sz) news=w.drew.setRow b (cur.take (0+i'*sz)++news++cur.drop (0+i'*sz+news.length)).toArray:=D4 hdb (by rw[nl,hcl];omega) n1
  have hb1:(w.drew.setRow b (cur.take (0+i'*sz)++news++cur.drop (0+i'*sz+news.length)).toArray).heap[b]? = some (.cells ⟨cur.take (0+i'*sz)++news++cur.drop (0+i'*sz+news.length)⟩ e0 (0,0)):=setRow_heap w.drew b _ _ e0 _ hdb;obtain⟨c1l,hc1⟩:∃c1l,c1l=cur.take (0+i'*sz)++news++cur.drop (0+i'*sz+news.length):=⟨_,rfl⟩;rw[← hc1]at w1e hb1
  have c1len:c1l.length=cap*sz:=by rw[hc1];simp only[LR,List.length_take,List.length_drop,nl,hcl];omega
  obtain⟨zs,hzsd⟩:∃zs,zs=(Builtin.zeroCells z.cells (l.length - (i'+(l.length - j')))).toList:=⟨_,rfl⟩
  have zl:zs.length=j'*sz - i'*sz:=by rw[hzsd,Array.length_toList,size_zeroCells,hzs,hsz,htl]
  have z1:∀x∈zs,x.oneCell'=true:=by
   intro x hx
   have hzc:∀y∈z.cells.toList,y.oneCell'=true:=by
    intro y hy;obtain⟨k,hk⟩:=List.getElem?_of_mem hy
    have hkl:k<te.zero.length:=by have:=(LQ.1 hk).1;rw[hzl,← hzs];simpa using this
    exact(hzr w imm k _ y (LP hkl) (by simpa using hk)).oneCell
   rw[hzsd]at hx;obtain⟨k,hk⟩:=List.getElem?_of_mem hx;have hk2:=(LQ.1 hk);obtain⟨hk3,hk4⟩:=hk2;simp only[Builtin.zeroCells]at hk4;simp at hk4;rw[← hk4]
   have hpos:0<z.cells.size:=by rw[hzs,hsz];exact h0
   have hlt3:k % z.cells.size<z.cells.size:=Nat.mod_lt _ hpos;rw[getElem!_pos z.cells _ hlt3]
   exact hzc _ (by simp)
  obtain⟨R,hR⟩:∃R,R=c1l.take ((i'+(l.length - j'))*sz)++zs++c1l.drop ((i'+(l.length - j'))*sz+zs.length):=⟨_,rfl⟩
  have hW2:∀(W1:World),W1.heap[b]? = some (.cells ⟨c1l⟩ e0 (0,0))→∀ty,(Builtin.clear_ #[ts] ty #[.slice (some ⟨b,(i'+(l.length - j'))*sz,none⟩) (l.length - (i'+(l.length - j'))) (cap - (i'+(l.length - j')))]).run P W1 =
    .ok (.tuple #[]) (W1.setRow b R.toArray):=by
   intro W1 hb1' ty
   have hst:=run_storeCells_at P b ((i'+(l.length - j'))*sz) e0 zs 0 ⟨c1l⟩ W1 hb1' (by rw[zl,hsum];show _≤c1l.length;rw[c1len];omega) z1
   simp only[Nat.add_zero]at hst;rw[← hR]at hst;clear hR
   obtain⟨m,hm⟩:∃m,l.length - (i'+(l.length - j'))=m+1:=⟨l.length - (i'+(l.length - j')) - 1,by omega⟩
   rw[hzsd,hm]at hst;rw[hm];simp[Builtin.clear_,run_underlying hts,zeroValue,typeInfo,hi0,hz,hst]
  have key:=wb b l.length cap i' j' w hle (by simp only[maxLen]at hmx;omega) hlt hjl i0 hi0 hs' A hA news nl hsrc n1 (λk hk=>by
   rw[nl]at hk;refine⟨?_,?_⟩
   ·simp only[World.cell?,hdb];simp;rw[hcl];omega
   ·simp[World.frozen?,hdb]) _ _ rfl (hW2 _ (by rw[w1e];exact hb1))
  refine key.mono ?_;rintro e' w' ⟨rfl,rfl⟩;rw[w1e]
  have rlen:r.length=i'+(l.length - j'):=by rw[hr',LR,List.length_take,List.length_drop];omega
  have fin2:((w.drew.setRow b c1l.toArray).setRow b R.toArray).heap[b]? = some (.cells ⟨R⟩ e0 (0,0)):=setRow_heap _ b _ _ e0 _ hb1
  refine⟨[.slice (some ⟨b,0,none⟩) (i'+(l.length - j')) cap],imm,[some (b,cap,r.length,[])],rfl,rfl,rfl,rfl,Nat.le_succ _,?_,?_,λ_ h=>h,λ_ h=>.inl h,?_,held _ _ _ ⟨rfl,by rw[rlen];omega,hmx,_,e0,fin2,?_,?_⟩ ?_,⟨?_,?_,?_⟩,?_⟩
  ·have z1:(w.drew.setRow b c1l.toArray).heap.size=w.heap.size:=by simp[World.setRow]
   have z2:((w.drew.setRow b c1l.toArray).setRow b R.toArray).heap.size=(w.drew.setRow b c1l.toArray).heap.size:=by simp[World.setRow]
   rw[z2,z1];exact Nat.le_refl _
  ·intro b' hlt' hno
   have hne:b'≠b:=λh=>hno (by simp[aw,plBlks,nbl,h])
   rw[setRow_other _ b b' _ hne,setRow_other _ b b' _ hne];rfl
  ·intro b' hb'
   have z1:(w.drew.setRow b c1l.toArray).heap.size=w.heap.size:=by simp[World.setRow]
   have z2:((w.drew.setRow b c1l.toArray).setRow b R.toArray).heap.size=(w.drew.setRow b c1l.toArray).heap.size:=by simp[World.setRow]
   rw[z2,z1];exact himm b' hb'
  ·rw[hR,hszt];simp only[LR,List.length_take,List.length_drop,zl,c1len];rw[hsum,hsub];omega
  ·intro k d x hd hx
   have hd:(cells F t (l.take i'++l.drop j'))[k]? = some d:=by rw[← hr'];exact hd
   rw[hR]at hx
   have rlen':(List.take i' l++List.drop j' l).length=i'+(l.length - j'):=by rw[← hr'];exact rlen
   have hkr:k<(i'+(l.length - j'))*sz:=by
    have:=(LQ.1 hd).1
    rwa [ay,hszt,rlen']at this
   rw[hsum,hsub]at hkr
   rw[List.append_assoc,List.getElem?_append_left (by rw[List.length_take,c1len,hsum,hsub];omega),List.getElem?_take,if_pos (by rw[hsum,hsub];omega),hc1]at hx
   have mono:RepI w imm d x→RepI ((w.drew.setRow b c1l.toArray).setRow b R.toArray) imm d x:=λh=>h.mono (λ_ h=>h) (λb' hb'=>by
    have hne:b'≠b:=λe=>hpl.imm b (by simp[aw,plBlks,nbl]) (e▸hb')
    rw[setRow_other _ b b' _ hne,setRow_other _ b b' _ hne];rfl)
   apply mono
   have ct:cells F t (l.take i')=(cells F t l).take (i'*sz):=by have:=fb (F:=F) (l:=l) (a:=0) (n:=i');rw[hszt]at this;simpa[Fx.sub]using this
   have cd:cells F t (l.drop j')=(cells F t l).drop (j'*sz):=by
    have:=fb (F:=F) (l:=l) (a:=j') (n:=l.length);unfold Fx.sub at this
    rw[List.take_of_length_le (by simp),hszt]at this
    rw[this,List.take_of_length_le];rw[List.length_drop,hcells];omega
   rw[di,ct,cd]at hd;by_cases hki:k<i'*sz
   ·rw[List.getElem?_append_left (by rw[List.length_take,hcells];omega),List.getElem?_take,if_pos hki]at hd
    rw[List.append_assoc,List.getElem?_append_left (by rw[List.length_take,hcl];omega),List.getElem?_take,if_pos (by omega)]at hx
    exact hcr k d x hd hx
   ·rw[List.getElem?_append_right (by rw[List.length_take,hcells];omega),List.length_take,hcells,Nat.min_eq_left (by omega),List.getElem?_drop]at hd
    rw[List.append_assoc,List.getElem?_append_right (by rw[List.length_take,hcl];omega),List.length_take,hcl,Nat.min_eq_left (by omega),List.getElem?_append_left (by rw[nl,hsub];omega)]at hx
    have q:=(nget _ x hx).1;rw[Nat.zero_add]at q;exact hcr _ d x hd q
  ·rw[rlen];rfl
  ·simp[plBlks,nbl]
  ·intro b' hb'
   exact hpl.imm b' (by simpa[aw,plBlks,nbl]using hb')
  ·intro b' hb'
   have:b'=b:=by simpa[aw,plBlks,nbl]using hb'
   subst this
   have z1:(w.drew.setRow b' c1l.toArray).heap.size=w.heap.size:=by simp[World.setRow]
   have z2:((w.drew.setRow b' c1l.toArray).setRow b' R.toArray).heap.size=(w.drew.setRow b' c1l.toArray).heap.size:=by simp[World.setRow]
   rw[z2,z1];exact hblk
  ·intro b' hb'
   exact .inl (by simpa[aw,plBlks,nbl]using hb')
end
end Go.Fx
namespace Go.Fx
open Go Go.Proofs Go.RowKit
set_option linter.unusedVariables false
set_option linter.unusedSimpArgs false
section
variable{P:Program}
theorem AP(w:World){o:Oper}{a:Act}{K:Act→World→Prop}{Q:Exit→Act→World→Prop}(d s:Operand)(t t':TypeId)
  (ho:o.op = .call { callee:=.builtin .copy,args:=#[d,s],argTypes:=#[t,t'] }) (v u:Value) (hd:a.eval d=v) (hs:a.eval s=u) {v':Value} {w':World}
  (hr:(Builtin.copy_ #[t,t'] o.type #[v,u]).run P w = .ok v' w') (h:K (a.put o.dst v') w'):o.wp P a w K Q:=by
 unfold Oper.wp execOp;simp only[ho,resolve,invoke,builtin,Sem.run_bind,Sem.run_pure,Result.andThen_ok,List.map_toArray,List.map_cons,List.map_nil,hd,hs,hr];exact h
theorem ca(w:World){ops:Array Oper}{rest:List Oper}{o:Oper}{a:Act}{Q:Exit→Act→World→Prop}(hgd:o.guard=none)(d s:Operand)(t t':TypeId)
  (ho:o.op = .call { callee:=.builtin .copy,args:=#[d,s],argTypes:=#[t,t'] }) (v u:Value) (hd:a.eval d=v) (hs:a.eval s=u) {v':Value} {w':World}
  (hr:(Builtin.copy_ #[t,t'] o.type #[v,u]).run P w = .ok v' w') (h:wpList P ops Q rest (a.put o.dst v') w'):wpList P ops Q (o::rest) a w:=
 wpList_plain hgd λ_ hK=>AP w d s t t' ho v u hd hs hr (hK _ _ h)
theorem dg{ops:Array Oper}{o:Oper}{a:Act}{w:World}{K:Act→World→Prop}{Q:Exit→Act→World→Prop}{E:Prop}
  (hg:o.guard=none) (d x:Operand) (dT sT:TypeId) (hop:o.op=Op.call { callee:=Callee.builtin Builtin.copy,args:=#[d,x],argTypes:=#[dT,sT] })
  (v u:Value) (hd:a.eval d=v) (hx:a.eval x=u) {v':Value} {w':World} (hr:(Builtin.copy_ #[dT,sT] o.type #[v,u]).run P w = .ok v' w') (hK:K (a.put o.dst v') w') :
  if Region.wanted o (yielded ops a.tmps)=true then Oper.wp P o a w K Q else E:=by
 rw[if_pos (by simp[Region.wanted,hg])]
 exact AP w d x dT sT hop v u hd hx hr hK
end
theorem sU{P:Program}{w:World}{t t1 ty e:TypeId}{j:TypeInfo}(hu:P.underlying t=some (.slice e))(hj:P.info? e=some j){b q dLen dCap:Nat}{p':Addr}{sLen sCap:Nat}{cur news:List Value}{e':TypeId}
  (hb:w.heap[b]? = some (.cells ⟨cur⟩ e' (0,0))) (hl:news.length=(min sLen dLen)*j.size) (hp:∀(k:Nat)(x:Value),news[k]? = some x→w.cell? (p'.add k)=some x)
  (h1:∀x∈news,x.oneCell'=true) (hfit:q+news.length≤cur.length) :
  (Builtin.copy_ #[t,t1] ty #[.slice (some ⟨b,q,none⟩) dLen dCap,.slice (some p') sLen sCap]).run P w =
    .ok (goInt ((min sLen dLen:Nat):Int)) (w.setRow b (cur.take q++news++cur.drop (q+news.length)).toArray):=by
 have hst:=run_storeCells_at P b q e' news 0 ⟨cur⟩ w hb (by simpa using hfit) h1
 simp only[Nat.add_zero]at hst;have hf:=run_firstCells_some (P:=P) w j.size (min sLen dLen) p' sLen sCap news hl hp;have hm:Nat.min sLen dLen=min sLen dLen:=rfl
 have hc:(((min sLen dLen:Nat)):Int)=min (sLen:Int) (dLen:Int):=by omega
 simp[Builtin.copy_,run_underlying hu,Builtin.lenOf,sizeOf,typeInfo,hj,hf,hm,hst,hc]
def ins{α : Type}(l:List α)(i:Int)(v:List α):Option (List α):=if 0≤i∧i≤l.length∧v.length=1∧l.length≤1000000 then some (l.take i.toNat++v++l.drop i.toNat)else none
def rD(P:Program)(f:FuncId)(ts sz:Nat)(ov:FuncId):Prop:=
 ∀(b n c i vb vc:Nat)(w W1 W2:World),i<n→n+1≤c→c≤9223372036854775807→
  (∀lb cb,(callFunc ov #[.slice (some ⟨vb,0,none⟩) 1 vc,.slice (some ⟨b,(i+1)*sz,none⟩) lb cb]).run P w = .ok (.value (.bool false)) w)→
  (∀ty dc sc,(Builtin.copy_ #[ts,ts] ty #[.slice (some ⟨b,(i+1)*sz,none⟩) (n - i) dc,.slice (some ⟨b,i*sz,none⟩) (n+1 - i) sc]).run P w.drew = .ok (goInt ((n - i:Nat):Int)) W1)→
  (∀ty dc,(Builtin.copy_ #[ts,ts] ty #[.slice (some ⟨b,i*sz,none⟩) (n+1 - i) dc,.slice (some ⟨vb,0,none⟩) 1 vc]).run P W1 = .ok (goInt ((1:Nat):Int)) W2)→
  Calls P f #[.slice (some ⟨b,0,none⟩) n c,.int .i64 i,.slice (some ⟨vb,0,none⟩) 1 vc] w λe w'=>e = .returned (.slice (some ⟨b,0,none⟩) (n+1) c)∧w'=W2
def ui(P:Program)(f:FuncId)(ts tn sz:Nat):Prop:=
 ∀(b n i vb vc nb G:Nat)(w W0 W1 W2:World),i<n→n≤1000000→n+1≤G→G≤9223372036854775807→
  (∀ty,(Builtin.append_ #[ts,tn] ty #[.slice (some ⟨b,0,none⟩) i n,.int .i64 ((n:Int)+1 - (i:Int))]).run P w = .ok (.slice (some ⟨nb,0,none⟩) (n+1) G) W0)→
  (∀ty dc,(Builtin.copy_ #[ts,ts] ty #[.slice (some ⟨nb,i*sz,none⟩) (n+1 - i) dc,.slice (some ⟨vb,0,none⟩) 1 vc]).run P W0 = .ok (goInt ((1:Nat):Int)) W1)→
  (∀ty dc sc,(Builtin.copy_ #[ts,ts] ty #[.slice (some ⟨nb,(i+1)*sz,none⟩) (n - i) dc,.slice (some ⟨b,i*sz,none⟩) (n - i) sc]).run P W1.drew = .ok (goInt ((n - i:Nat):Int)) W2)→
  Calls P f #[.slice (some ⟨b,0,none⟩) n n,.int .i64 i,.slice (some ⟨vb,0,none⟩) 1 vc] w λe w'=>e = .returned (.slice (some ⟨nb,0,none⟩) (n+1) G)∧w'=W2
def DF{α : Type}(b:Nat)(s:List α)(i:Int)(v:List α):Option (List α):=
 (inS i (s.length:Int) s.length).bind λp=>bif(v.length:Int) == 0 then some s else bif i == (s.length:Int)then(app b s v).bind λl=>some l else none
section
variable{F:Fam}{P:Program}{T:TypeId→Option (TI F)}
theorem Fo{t:Ty}{l:List (ET F t)}{i:Nat}:cells F t (l.take i)=(cells F t l).take (i*szT F t):=by have:=fb (F:=F) (l:=l) (a:=0) (n:=i);simpa[Fx.sub]using this
theorem Fp{t:Ty}{l:List (ET F t)}{i:Nat}:cells F t (l.drop i)=(cells F t l).drop (i*szT F t):=by
 have:=fb (F:=F) (l:=l) (a:=i) (n:=l.length);unfold Fx.sub at this
 rw[List.take_of_length_le (by simp)]at this
 rw[this,List.take_of_length_le];rw[List.length_drop,ay,Nat.sub_le_iff_le_add];omega
theorem B8{w:World}{imm:Nat→Prop}{t:Ty}{l:List (ET F t)}{b cap:Nat}{n:Nat×NS}(h:bv w imm t l (some (b,cap,n))) :
  n=(l.length,[])∧l.length≤cap∧cap≤maxLen∧∃cur e,w.heap[b]? = some (.cells ⟨cur⟩ e (0,0))∧cur.length=cap*szT F t∧
   ∀(k:Nat)(d:ND F)(x:Value),(cells F t l)[k]? = some d→cur[k]? = some x→RepI w imm d x:=h
set_option maxHeartbeats 4000000 in
theorem AL(hT:TblOk P T){f ts e sz tn ov:Nat}{t:Ty}{te:TI F}{tb:TypeId}(hte:T e=some te)(htt:te.ty=some t)(hsz:te.size=sz)(h0:0<sz)(hbt:te.bytes≤1000)(hts:P.underlying ts=some (.slice e))(htn:P.underlying tn=some (.int .i64))(hent:bc P f)
  (hov:∀(w:World)(a b:Value),(Extern.SlicesOverlaps.overlaps #[ts,ts] #[tb] #[a,b]).run P w = .ok (.bool false) w→(callFunc ov #[a,b]).run P w = .ok (.value (.bool false)) w)
  (h:FnOk (F:=F) P f ⟨[.v (.slice t) [0],.v (.int .i64) [],.v (.slice t) [0]],[.v (.slice t) [0]],λa=>DF te.bytes a.1 a.2.1 a.2.2.1⟩)
  (ws:rD P f ts sz ov) (wg:ui P f ts tn sz) (hmp:t.isMp=false:=by rfl) :
  FnOk (F:=F) P f ⟨[.v (.slice t) [0],.v (.int .i64) [],.v (.slice t) [0]],[.v (.slice t) [0]],λa=>ins a.1 a.2.1 a.2.2.1⟩:=by
 refine⟨hent,?_⟩;intro a r hr imm w vs pls bxs hheld hpl himm;obtain⟨l,i,y,u⟩:=a;have hr:ins l i y=some r:=hr;unfold ins at hr;split at hr
 rotate_left
 ·cases hr
 rename_i hc;have c1:(0:Int)≤i:=hc.1;have c2:(i:Int)≤((List.length l:Nat):Int):=hc.2.1;have c3:List.length y=1:=hc.2.2.1;have c4:List.length l≤1000000:=hc.2.2.2;have hr':r=l.take i.toNat++y++l.drop i.toNat:=(Option.some.inj hr).symm;clear hr hc;by_cases hend:(i:Int)=((List.length l:Nat):Int)
 ·
  refine h.2 (l,i,y,u) r ?_ imm w vs pls bxs hheld hpl himm;show DF te.bytes l i y=some r;unfold DF inS
  have hi:i.toNat=List.length l:=by rw[hend];exact Int.toNat_natCast _
  rw[if_pos ⟨c1,c2,by omega⟩,LO,show(((List.length y:Nat):Int) == 0)=false by rw[c3];rfl,cond_false,show((i:Int) == ((List.length l:Nat):Int))=true by rw[beq_iff_eq];exact hend,cond_true]
  have happ:app te.bytes l y=some (l++y):=by
   unfold app;have e:(l++y).length=l.length+y.length:=LR;rw[if_pos]
   have:(l++y).length*te.bytes≤1000001*1000:=Nat.mul_le_mul (by omega) hbt
   unfold maxLen;omega
  rw[happ,LO,hr',hi,List.take_length,List.drop_length,List.append_nil];rfl
 obtain⟨i',rfl⟩:∃i':Nat,i=i':=⟨Int.toNat i,(Int.toNat_of_nonneg c1).symm⟩;rw[Int.toNat_natCast]at hr'
 have hlt:i'<List.length l:=by
  have h1:i'≤List.length l:=Int.ofNat_le.1 c2
  have h2:i'≠List.length l:=λe=>hend (by rw[e])
  omega
 obtain⟨v,vs',p1,p2,b1,b2,rfl,rfl,rfl,⟨h1,rfl⟩,v2,vs2,p3,p4,b3,b4,rfl,rfl,rfl,⟨h2,rfl⟩,v3,vs3,p5,p6,b5,b6,rfl,rfl,rfl,⟨h3,rfl⟩,rfl,rfl,rfl⟩:=hheld;unfold HeldV at h1 h2 h3;simp only[Ty.isSt,Bool.false_eq_true,if_false,encT,HeldC,memN,Nat.beq,if_true]at h1 h2 h3;obtain⟨pl,rest,rfl,hrow,hv,rfl⟩:=h1;rw[dD hmp]at hrow;rw[gE hmp]at hv;obtain⟨h2,rfl⟩:=h2;obtain⟨pl3,rest3,rfl,hrow3,hv3,rfl⟩:=h3;rw[dD hmp]at hrow3;rw[gE hmp]at hv3;cases h2
 have held:∀(w':World)(pl':Pl)(v':Value),bv w' imm t r pl'→OwnV pl' v'→bC P w' imm (outs ⟨[.v (.slice t) [0],.v (.int .i64) [],.v (.slice t) [0]],[.v (.slice t) [0]],λa=>ins a.1 a.2.1 a.2.2.1⟩) r [v'] [] [pl']:=by intro w' pl' v' k1 k2;refine⟨v',rfl,rfl,?_,rfl⟩;unfold HeldV;simp only[Ty.isSt,Bool.false_eq_true,if_false,encT,HeldC,memN,Nat.beq,if_true];exact⟨pl',[],rfl,Eq.mpr (dD hmp) k1,Eq.mpr (gE hmp) k2,rfl⟩
 cases pl with
 | none=>have:l = []:=hrow;subst this;simp at hlt
 | some q=>
 cases pl3 with
 | none=>have:y = []:=hrow3;subst this;simp at c3
 | some q3=>
 obtain⟨b,cap,n⟩:=q;obtain⟨vb,vc,n3⟩:=q3;obtain⟨rfl,hle,hmx,cur,e0,hb,hcl,hcr⟩:=B8 hrow;obtain⟨rfl,hle3,hmx3,cur3,e3,hb3,hcl3,hcr3⟩:=B8 hrow3;cases hv;cases hv3;dsimp only at *;rw[c3]at hle3 ⊢
 have hszt:szT F t=sz:=by rw[← hsz];exact hT.ty e te t hte htt
 rw[hszt]at hcl hcl3;have hblk:b<w.heap.size:=(Array.getElem?_eq_some_iff.1 hb).1;have hblk3:vb<w.heap.size:=(Array.getElem?_eq_some_iff.1 hb3).1;obtain⟨j0,hj0,hjs,hjb,z,hz,hzs,hzl,hzr⟩:=hT.info e te hte
 have hjsz:j0.size=sz:=by rw[hjs,hsz]
 have hne:vb≠b:=by have:=hpl.nodup;simp[aw,plBlks,nbl]at this;exactλh=>this h.symm
 have hcells:(cells F t l).length=l.length*sz:=by rw[ay,hszt]
 have hcells3:(cells F t y).length=sz:=by rw[ay,hszt,c3,Nat.one_mul]
 have one:∀k x,k<l.length*sz→cur[k]? = some x→x.oneCell'=true:=λk x hk hx=>(hcr k _ x (LP (by rw[hcells];exact hk)) hx).oneCell
 have one3:∀k x,k<sz→cur3[k]? = some x→x.oneCell'=true:=λk x hk hx=>(hcr3 k _ x (LP (by rw[hcells3];exact hk)) hx).oneCell
 have hcapsz:l.length*sz≤cap*sz:=Nat.mul_le_mul_right _ hle;have hvcsz:1*sz≤vc*sz:=Nat.mul_le_mul_right _ hle3
 have hisz:(i'+1)*sz≤l.length*sz:=Nat.mul_le_mul_right _ (by omega)
 have hi1:(i'+1)*sz=i'*sz+sz:=by rw[Nat.add_mul,Nat.one_mul]
 have hl1:(l.length+1)*sz=l.length*sz+sz:=by rw[Nat.add_mul,Nat.one_mul]
 have hni:(l.length - i')*sz=l.length*sz - i'*sz:=Nat.sub_mul _ _ _;obtain⟨tl,htl⟩:∃tl,tl=(cur.drop (i'*sz)).take ((l.length - i')*sz):=⟨_,rfl⟩
 have tll:tl.length=(l.length - i')*sz:=by rw[htl,List.length_take,List.length_drop,hcl];omega
 have tlget:∀k x,tl[k]? = some x→cur[i'*sz+k]? = some x∧k<(l.length - i')*sz:=by intro k x hk;have hlt':=(LQ.1 hk).1;rw[tll]at hlt';rw[htl,List.getElem?_take,if_pos hlt',List.getElem?_drop]at hk;exact⟨hk,hlt'⟩
 have tl1:∀x∈tl,x.oneCell'=true:=by
  intro x hx;obtain⟨k,hk⟩:=List.getElem?_of_mem hx;obtain⟨q1,q2⟩:=tlget k x hk
  exact one _ x (by omega) q1
 obtain⟨nw,hnw⟩:∃nw,nw=cur3.take sz:=⟨_,rfl⟩
 have nwl:nw.length=sz:=by rw[hnw,List.length_take,hcl3];omega
 have nwget:∀k x,nw[k]? = some x→cur3[k]? = some x∧k<sz:=by intro k x hk;have hlt':=(LQ.1 hk).1;rw[nwl]at hlt';rw[hnw,List.getElem?_take,if_pos hlt']at hk;exact⟨hk,hlt'⟩
 have nw1:∀x∈nw,x.oneCell'=true:=by intro x hx;obtain⟨k,hk⟩:=List.getElem?_of_mem hx;obtain⟨q1,q2⟩:=nwget k x hk;exact one3 _ x q2 q1
 have row:∀(w':World)(b' cap':Nat)(R:List Value)(e':TypeId),l.length+1≤cap'→cap'≤maxLen→w'.heap[b']? = some (.cells ⟨R⟩ e' (0,0))→R.length=cap'*sz→(∀d x,RepI w imm d x→RepI (F:=F) w' imm d x)→
   (∀k,k<i'*sz→R[k]? = cur[k]?)→(∀k,k<sz→R[i'*sz+k]? = nw[k]?)→(∀k,k<(l.length - i')*sz→R[(i'+1)*sz+k]? = tl[k]?)→bv w' imm t r (some (b',cap',l.length+1,[])):=by
  intro w' b' cap' R e' g1 g2 g3 g4 g5 r1 r2 r3
  have rl:r.length=l.length+1:=by rw[hr',LR,LR,List.length_take,List.length_drop,c3];omega
  refine⟨by rw[rl],by rw[rl];exact g1,g2,R,e',g3,by rw[hszt];exact g4,?_⟩
  intro k d x hd hx;apply g5;rw[hr',di,di,Fo,Fp,hszt]at hd
  have lA:((cells F t l).take (i'*sz)).length=i'*sz:=by rw[List.length_take,hcells];omega
  by_cases k1:k<i'*sz
  ·rw[r1 k k1]at hx
   rw[List.append_assoc,List.getElem?_append_left (by rw[lA];exact k1),List.getElem?_take,if_pos k1]at hd
   exact hcr k d x hd hx
  ·by_cases k2:k<(i'+1)*sz
   ·obtain⟨q,rfl⟩:∃q,k=i'*sz+q:=⟨k - i'*sz,by omega⟩
    rw[r2 q (by omega)]at hx
    rw[List.append_assoc,List.getElem?_append_right (by rw[lA];omega),lA,Nat.add_sub_cancel_left,List.getElem?_append_left (by rw[hcells3];omega)]at hd
    exact hcr3 q d x hd (nwget q x hx).1
   ·obtain⟨q,rfl⟩:∃q,k=(i'+1)*sz+q:=⟨k - (i'+1)*sz,by omega⟩
    rw[List.getElem?_append_right (by rw[LR,lA,hcells3];omega),LR,lA,hcells3,show(i'+1)*sz+q - (i'*sz+sz)=q by omega,List.getElem?_drop]at hd
    have hq:q<(l.length - i')*sz:=by have:=(LQ.1 hd).1;rw[hcells]at this;omega
    rw[r3 q hq]at hx;exact hcr _ d x hd (tlget q x hx).1
 have hdb:w.drew.heap[b]? = some (.cells ⟨cur⟩ e0 (0,0)):=hb;have hdb3:w.drew.heap[vb]? = some (.cells ⟨cur3⟩ e3 (0,0)):=hb3
 have hmax:cap≤9223372036854775807:=by simp only[maxLen]at hmx;omega
 have src3:∀(W:World),W.heap[vb]? = some (.cells ⟨cur3⟩ e3 (0,0))→∀p',some (⟨vb,0,none⟩:Addr)=some p'→∀(k:Nat)(x:Value),nw[k]? = some x→W.cell? (p'.add k)=some x:=by rintro W hW p' hp k x hk;cases hp;rw[Addr.add_lit];simp only[World.cell?,hW];simpa using(nwget k x hk).1
 by_cases hroom:l.length+1≤cap
 ·
  have hl1c:(l.length+1)*sz≤cap*sz:=Nat.mul_le_mul_right _ hroom
  have m1:min (l.length+1 - i') (l.length - i')=l.length - i':=by omega
  have m2:min 1 (l.length+1 - i')=1:=by omega
  have q1:=λty dc sc=>sU (P:=P) (w:=w.drew) (t:=ts) (t1:=ts) (ty:=ty) (q:=(i'+1)*sz) (dLen:=l.length - i') (dCap:=dc) (p':=⟨b,i'*sz,none⟩) (sLen:=l.length+1 - i') (sCap:=sc) (news:=tl) hts hj0 hdb (by rw[tll,m1,hjsz]) (λk x hk=>by
   rw[Addr.add_lit];simp only[World.cell?,hdb]
   simpa using(tlget k x hk).1) tl1 (by rw[tll,hcl];omega)
  rw[m1,tll]at q1;obtain⟨R1,hR1⟩:∃R1,R1=cur.take ((i'+1)*sz)++tl++cur.drop ((i'+1)*sz+(l.length - i')*sz):=⟨_,rfl⟩;rw[← hR1]at q1
  have R1l:R1.length=cap*sz:=by rw[hR1,LR,LR,List.length_take,List.length_drop,tll,hcl];omega
  have hb1:(w.drew.setRow b R1.toArray).heap[b]? = some (.cells ⟨R1⟩ e0 (0,0)):=setRow_heap w.drew b _ _ e0 _ hdb
  have hb31:(w.drew.setRow b R1.toArray).heap[vb]? = some (.cells ⟨cur3⟩ e3 (0,0)):=by rw[setRow_other _ b vb _ hne];exact hdb3
  have q2:=λty dc=>sU (P:=P) (w:=w.drew.setRow b R1.toArray) (t:=ts) (t1:=ts) (ty:=ty) (q:=i'*sz) (dLen:=l.length+1 - i') (dCap:=dc) (p':=⟨vb,0,none⟩) (sLen:=1) (sCap:=vc) (news:=nw) hts hj0 hb1 (by rw[nwl,m2,hjsz,Nat.one_mul]) (src3 _ hb31 _ rfl) nw1 (by rw[nwl,R1l];omega)
  rw[m2,nwl]at q2;obtain⟨R2,hR2⟩:∃R2,R2=R1.take (i'*sz)++nw++R1.drop (i'*sz+sz):=⟨_,rfl⟩;rw[← hR2]at q2
  have R2l:R2.length=cap*sz:=by rw[hR2,LR,LR,List.length_take,List.length_drop,nwl,R1l];omega
  have hb2:((w.drew.setRow b R1.toArray).setRow b R2.toArray).heap[b]? = some (.cells ⟨R2⟩ e0 (0,0)):=setRow_heap _ b _ _ e0 _ hb1
  have hfz:∀k,w.frozen? ⟨vb,k,none⟩=false:=λk=>by simp[World.frozen?,hb3]
  have ho:=λlb cb=>hov w _ _ (Lib.run_overlaps_apart w ts tb e hts sz (λw=>by simp[Go.sizeOf,typeInfo,hj0,hjsz]) ⟨vb,0,none⟩ ⟨b,(i'+1)*sz,none⟩ 1 vc lb cb hne e3 e0 cur3.length cur.length (by simp[World.shape?,hb3]) (by simp[World.shape?,hb]) (by rw[hcl];omega) (hfz 0) (hfz cur3.length))
  refine(ws b l.length cap i' vb vc w _ _ hlt hroom hmax ho q1 q2).mono ?_;rintro e' w' ⟨rfl,rfl⟩
  have s1:(w.drew.setRow b R1.toArray).heap.size=w.heap.size:=by simp[World.setRow]
  have s2:((w.drew.setRow b R1.toArray).setRow b R2.toArray).heap.size=w.heap.size:=by rw[← s1];simp[World.setRow]
  have oth:∀b',b'≠b→((w.drew.setRow b R1.toArray).setRow b R2.toArray).heap[b']? = w.heap[b']?:=λb' hb'=>by rw[setRow_other _ b b' _ hb',setRow_other _ b b' _ hb'];rfl
  refine⟨[.slice (some ⟨b,0,none⟩) (l.length+1) cap],imm,[some (b,cap,l.length+1,[])],rfl,rfl,rfl,rfl,Nat.le_succ _,by rw[s2];exact Nat.le_refl _,?_,λ_ h=>h,λ_ h=>.inl h,by rw[s2];exact himm,held _ _ _ (row _ b cap R2 e0 hroom hmx hb2 R2l ?_ ?_ ?_ ?_) rfl,⟨?_,?_,?_⟩,?_⟩
  ·intro b' hlt' hno
   exact oth b' λh=>hno (by simp[aw,plBlks,nbl,h])
  ·intro d x hd;refine hd.mono (λ_ h=>h) λb' hb'=>oth b' ?_;rintro rfl
   exact hpl.imm b' (by simp[aw,plBlks,nbl]) hb'
  ·intro k hk
   rw[hR2,List.append_assoc,List.getElem?_append_left (by rw[List.length_take,R1l];omega),List.getElem?_take,if_pos hk,hR1,List.append_assoc,List.getElem?_append_left (by rw[List.length_take,hcl];omega),List.getElem?_take,if_pos (by omega)]
  ·intro k hk
   have lT:(R1.take (i'*sz)).length=i'*sz:=by rw[List.length_take,R1l];omega
   rw[hR2,List.append_assoc,List.getElem?_append_right (by rw[lT];omega),lT,Nat.add_sub_cancel_left,List.getElem?_append_left (by rw[nwl];exact hk)]
  ·intro k hk
   have lT:(R1.take (i'*sz)).length=i'*sz:=by rw[List.length_take,R1l];omega
   have lU:(cur.take ((i'+1)*sz)).length=(i'+1)*sz:=by rw[List.length_take,hcl];omega
   rw[hR2,List.getElem?_append_right (by rw[LR,lT,nwl];omega),LR,lT,nwl,List.getElem?_drop,show i'*sz+sz+((i'+1)*sz+k - (i'*sz+sz))=(i'+1)*sz+k by omega,hR1,List.append_assoc,List.getElem?_append_right (by rw[lU];omega),lU,Nat.add_sub_cancel_left,List.getElem?_append_left (by rw[tll];exact hk)]
  ·simp[plBlks,nbl]
  ·intro b' hb'
   have:b'=b:=by simpa[plBlks,nbl]using hb'
   subst this
   exact hpl.imm b' (by simp[aw,plBlks,nbl])
  ·intro b' hb'
   have:b'=b:=by simpa[plBlks,nbl]using hb'
   subst this;rw[s2];exact hblk
  ·intro b' hb'
   have:b'=b:=by simpa[plBlks,nbl]using hb'
   subst this
   exact .inl (by simp[aw,plBlks,nbl])
 ·
  have hcap:cap=l.length:=by omega
  subst hcap
  have hkk:(l.length:Int)+1 - (i':Int)=((l.length+1 - i':Nat):Int):=by omega
  have hik:i'+(l.length+1 - i')=l.length+1:=by omega
  have hold:(Builtin.firstCells j0.size i' (.slice (some ⟨b,0,none⟩) i' l.length)).run P w.drew = .ok (cur.take (i'*sz)).toArray w.drew:=by
   refine run_firstCells_some w.drew j0.size i' ⟨b,0,none⟩ i' l.length (cur.take (i'*sz)) (by rw[List.length_take,hcl,hjsz];omega) λj v hj=>?_
   rw[Addr.add_lit];simp only[World.cell?,hdb];rw[List.getElem?_take]at hj;split at hj
   ·simpa using hj
   ·cases hj
  have hbig:(l.length+1)*j0.bytes≤140737488355328:=by
   have:(l.length+1)*j0.bytes≤1000001*1000:=Nat.mul_le_mul (by omega) (by rw[hjb];exact hbt)
   omega
  have hkb:(l.length+1 - i')*j0.bytes≤281474976710656:=by
   have:(l.length+1 - i')*j0.bytes≤1000001*1000:=Nat.mul_le_mul (by omega) (by rw[hjb];exact hbt)
   omega
  have q0:=λty=>Lib.run_append_grow_zeros w ts tn ty e j0 z .i64 .i64 hts htn hj0 hz (some ⟨b,0,none⟩) i' l.length (cur.take (i'*sz)) hold (l.length+1 - i') (by omega) (by rw[hjsz];exact h0) (by omega) (by omega) hkb (by rw[hik];exact growslice_fits (by omega) hbig)
  rw[hik,← hkk]at q0;obtain⟨G,hG⟩:∃G,G=grownCap w (l.length+1) l.length e:=⟨_,rfl⟩;rw[← hG]at q0
  have hGn:l.length+1≤G:=by rw[hG];exact grownCap_ge w _ _ _
  have hGm:G≤maxLen:=by rw[hG];exact grownCap_le_maxLen w _ _ _ (by unfold maxLen;omega)
  have hG63:G≤9223372036854775807:=by simp only[maxLen]at hGm;omega
  have zcl:z.cells.size=sz:=by rw[hzs,hsz]
  obtain⟨R0,hR0⟩:∃R0:List Value,R0=cur.take (i'*sz)++(Builtin.zeroCells z.cells (l.length+1 - i')).toList++(Builtin.zeroCells z.cells (G - (l.length+1))).toList:=⟨_,rfl⟩
  have hR0a:((cur.take (i'*sz)).toArray++Builtin.zeroCells z.cells (l.length+1 - i')++Builtin.zeroCells z.cells (G - (l.length+1)))=(⟨R0⟩:Array Value):=by rw[hR0];apply Array.ext';simp
  rw[hR0a]at q0
  have hsplit:i'*sz+((l.length+1 - i')*sz+(G - (l.length+1))*sz)=G*sz:=by
   rw[← Nat.add_mul,← Nat.add_mul]
   congr 1
   omega
  have R0l:R0.length=G*sz:=by
   have zA:∀k,(Builtin.zeroCells z.cells k).toList.length=k*sz:=λk=>by rw[Array.length_toList,size_zeroCells,zcl]
   have zT:(cur.take (i'*sz)).length=i'*sz:=by rw[List.length_take,hcl];omega
   rw[hR0,LR,LR,zT,zA,zA];omega
  have hGsz:(l.length+1)*sz≤G*sz:=Nat.mul_le_mul_right _ hGn;obtain⟨nb,hnb⟩:∃nb,nb=w.heap.size:=⟨_,rfl⟩;rw[← hnb]at q0
  have hw0:∀b',b'<w.heap.size→(w.drew.alloc (.cells ⟨R0⟩ e)).heap[b']? = w.heap[b']?:=λb' hb'=>by show(w.heap.push _)[b']? = _;rw[Array.getElem?_push_lt hb',Array.getElem?_eq_getElem hb']
  have hn0:(w.drew.alloc (.cells ⟨R0⟩ e)).heap[nb]? = some (.cells ⟨R0⟩ e (0,0)):=by show(w.heap.push _)[nb]? = _;rw[hnb,Array.getElem?_push_size]
  have hnbb:b≠nb:=by omega
  have hnvb:vb≠nb:=by omega
  have m2:min 1 (l.length+1 - i')=1:=by omega
  have m3:min (l.length - i') (l.length - i')=l.length - i':=by omega
  have q1:=λty dc=>sU (P:=P) (w:=w.drew.alloc (.cells ⟨R0⟩ e)) (t:=ts) (t1:=ts) (ty:=ty) (q:=i'*sz) (dLen:=l.length+1 - i') (dCap:=dc) (p':=⟨vb,0,none⟩) (sLen:=1) (sCap:=vc) (news:=nw) hts hj0 hn0 (by rw[nwl,m2,hjsz,Nat.one_mul]) (src3 _ ((hw0 vb hblk3).trans hb3) _ rfl) nw1 (by rw[nwl,R0l];omega)
  rw[m2,nwl]at q1;obtain⟨R1,hR1⟩:∃R1,R1=R0.take (i'*sz)++nw++R0.drop (i'*sz+sz):=⟨_,rfl⟩;rw[← hR1]at q1
  have R1l:R1.length=G*sz:=by rw[hR1,LR,LR,List.length_take,List.length_drop,nwl,R0l];omega
  obtain⟨W1,hW1⟩:∃W1,W1=(w.drew.alloc (.cells ⟨R0⟩ e)).setRow nb R1.toArray:=⟨_,rfl⟩;rw[← hW1]at q1
  have hn1:W1.heap[nb]? = some (.cells ⟨R1⟩ e (0,0)):=by rw[hW1];exact setRow_heap _ nb _ _ e _ hn0
  have ho1:∀b',b'<w.heap.size→W1.heap[b']? = w.heap[b']?:=λb' hb'=>by rw[hW1,setRow_other _ nb b' _ (by omega)];exact hw0 b' hb'
  have hn1d:W1.drew.heap[nb]? = some (.cells ⟨R1⟩ e (0,0)):=hn1;have hb1d:W1.drew.heap[b]? = some (.cells ⟨cur⟩ e0 (0,0)):=(ho1 b hblk).trans hb
  have q2:=λty dc sc=>sU (P:=P) (w:=W1.drew) (t:=ts) (t1:=ts) (ty:=ty) (q:=(i'+1)*sz) (dLen:=l.length - i') (dCap:=dc) (p':=⟨b,i'*sz,none⟩) (sLen:=l.length - i') (sCap:=sc) (news:=tl) hts hj0 hn1d (by rw[tll,m3,hjsz]) (λk x hk=>by
   rw[Addr.add_lit];simp only[World.cell?,hb1d]
   simpa using(tlget k x hk).1) tl1 (by rw[tll,R1l];omega)
  rw[m3,tll]at q2;obtain⟨R2,hR2⟩:∃R2,R2=R1.take ((i'+1)*sz)++tl++R1.drop ((i'+1)*sz+(l.length - i')*sz):=⟨_,rfl⟩;rw[← hR2]at q2
  have R2l:R2.length=G*sz:=by rw[hR2,LR,LR,List.length_take,List.length_drop,tll,R1l];omega
  refine(wg b l.length i' vb vc nb G w _ _ _ hlt c4 hGn hG63 q0 q1 q2).mono ?_;rintro e' w' ⟨rfl,rfl⟩;have hn2:(W1.drew.setRow nb R2.toArray).heap[nb]? = some (.cells ⟨R2⟩ e (0,0)):=setRow_heap _ nb _ _ e _ hn1d
  have s0:W1.heap.size=w.heap.size+1:=by have a1:(w.drew.alloc (.cells ⟨R0⟩ e)).heap.size=w.heap.size+1:=Array.size_push ..;rw[hW1,← a1];simp[World.setRow]
  have s2:(W1.drew.setRow nb R2.toArray).heap.size=w.heap.size+1:=by rw[← s0];simp[World.setRow]
  have oth:∀b',b'<w.heap.size→(W1.drew.setRow nb R2.toArray).heap[b']? = w.heap[b']?:=λb' hb'=>by
   rw[setRow_other _ nb b' _ (by omega)];exact ho1 b' hb'
  have d1:W1.drawn=w.drawn+1:=by rw[hW1];rfl
  refine⟨[.slice (some ⟨nb,0,none⟩) (l.length+1) G],imm,[some (nb,G,l.length+1,[])],rfl,by rw[hW1];rfl,by rw[hW1];rfl,by rw[hW1];rfl,?_,by rw[s2];omega,λb' hb' _=>oth b' hb',λ_ h=>h,λ_ h=>.inl h,λb' hb'=>by rw[s2];have:=himm b' hb';omega,held _ _ _ (row _ nb G R2 e hGn hGm hn2 R2l ?_ ?_ ?_ ?_) rfl,⟨?_,?_,?_⟩,?_⟩
  ·show w.drawn≤W1.drawn+1;omega
  ·intro d x hd;exact hd.mono (λ_ h=>h) λb' hb'=>oth b' (himm b' hb')
  ·intro k hk
   rw[hR2,List.append_assoc,List.getElem?_append_left (by rw[List.length_take,R1l];omega),List.getElem?_take,if_pos (by omega),hR1,List.append_assoc,List.getElem?_append_left (by rw[List.length_take,R0l];omega),List.getElem?_take,if_pos hk,hR0,List.append_assoc,List.getElem?_append_left (by rw[List.length_take,hcl];omega),List.getElem?_take,if_pos hk]
  ·intro k hk
   have lT:(R0.take (i'*sz)).length=i'*sz:=by rw[List.length_take,R0l];omega
   rw[hR2,List.append_assoc,List.getElem?_append_left (by rw[List.length_take,R1l];omega),List.getElem?_take,if_pos (by omega),hR1,List.append_assoc,List.getElem?_append_right (by rw[lT];omega),lT,Nat.add_sub_cancel_left,List.getElem?_append_left (by rw[nwl];exact hk)]
  ·intro k hk
   have lU:(R1.take ((i'+1)*sz)).length=(i'+1)*sz:=by rw[List.length_take,R1l];omega
   rw[hR2,List.append_assoc,List.getElem?_append_right (by rw[lU];omega),lU,Nat.add_sub_cancel_left,List.getElem?_append_left (by rw[tll];exact hk)]
  ·simp[plBlks,nbl]
  ·intro b' hb'
   have:b'=nb:=by simpa[plBlks,nbl]using hb'
   subst this;intro hi;have:=himm _ hi;omega
  ·intro b' hb'
   have:b'=nb:=by simpa[plBlks,nbl]using hb'
   subst this;rw[s2];omega
  ·intro b' hb'
   have:b'=nb:=by simpa[plBlks,nbl]using hb'
   subst this
   exact .inr (by omega)
end
set_option linter.unusedVariables false
set_option linter.unusedSimpArgs false
structure EmC where
 ops0:Array Oper
 ops1:Array Oper
 ops8:Array Oper
 t:Nat
def uS{α : Type}:List α→Option (List α×α)
 | []=>none
 | [a]=>some ([],a)
 | a::b::l=>match uS (b::l)with
  | none=>none
  | some (p,x)=>some (a::p,x)
theorem yV{α : Type}:∀{l p:List α}{a:α},uS l=some (p,a)→l=p++[a]
 | [],_,_,h=>by cases h
 | [x],_,_,h=>by cases h;rfl
 | x::y::l,p,a,h=>by
  simp only[uS]at h;split at h
  ·cases h
  ·rename_i p' x' hq;cases h;rw[yV hq];rfl
structure EmB where
 t:Nat
 f:Nat
 x:Nat
def DK:Oper→Option EmB
 | ⟨some t,.call ⟨.value (.func f),⟨[.tmp x]⟩,_⟩,_,_,_,none⟩=>some ⟨t,f,x⟩
 | _=>none
theorem FC{o:Oper}{q:EmB}(h:DK o=some q):o.dst=some q.t∧o.guard=none∧∃ats,o.op = .call { callee:=.value (.func q.f),args:=#[.tmp q.x],argTypes:=ats }:=by
 unfold DK at h;split at h
 ·cases h;exact⟨rfl,rfl,_,rfl⟩
 ·cases h
section
variable{F:Fam}(T:TypeId→Option (TI F))(Γ : Ctx F)(nv:Nat)
end
section
variable{P:Program}{ops:Array Oper}
theorem Ct{Q:Exit→Act→World→Prop}(l2:List Nat):∀(l1:List Nat){a:Act}{w:World},wpOps P ops (Exit.then (wpOps P ops Q l2) Q) l1 a w→wpOps P ops Q (l1++l2) a w
 | [],a,w,h=>h
 | i::l1,a,w,h=>by
  simp only[List.cons_append];rw[wpOps_cons]at h ⊢;have h:=wpOp_mono (K':=wpOps P ops Q (l1++l2)) (λa w hk=>Ct l2 l1 hk) h;unfold wpOp at h ⊢;split
  ·rename_i ho;simp only[ho]at h;exact h
  ·rename_i o ho;simp only[ho]at h;split
   ·rename_i hw;simp only[hw,if_true]at h;rcases h with h | ⟨h1,h2⟩
    ·left;unfold Oper.wp at h ⊢;generalize(execOp a.eval o).run P w=r at h
     cases r with
     | ok n w'=>cases n<;>exact h
     | halt x w'=>cases x<;>exact h
    ·exact .inr ⟨h1,h2⟩
   ·rename_i hw;simp only[hw]at h;exact h
def Act.addD(a:Act)(ds:List Deferred):Act:={ a with defers:=a.defers++ds }
theorem nL(a:Act)(ds:List Deferred)(d:Option Tmp)(v:Value):Act.addD (a.put d v) ds=(Act.addD a ds).put d v:=by cases d<;>rfl
theorem GJ{o:Oper}{a:Act}{ds:List Deferred}{next next':Act→World→Prop}{Q Q':Exit→Act→World→Prop}(hn:∀a w,next a w→next' (Act.addD a ds) w)(hq:∀e a w,Q e a w→Q' e (Act.addD a ds) w){r:Result Next}(h:o.upon P a next Q r):o.upon P (Act.addD a ds) next' Q' r:=by
 have hl:LetsOut Q→LetsOut Q':=λ⟨a,w,k⟩=>⟨_,w,hq _ a w k⟩
 cases r with
 | ok n w'=>
  cases n with
  | value v=>simp only[Oper.upon]at h ⊢;rw[← nL];exact hn _ _ h
  | skip=>simp only[Oper.upon]at h ⊢;rw[← nL];exact hn _ _ h
  | defer d=>
   simp only[Oper.upon]at h ⊢
   have e:({ Act.addD a ds with defers:=d::(Act.addD a ds).defers }:Act).put o.dst undef=Act.addD (({ a with defers:=d::a.defers }:Act).put o.dst undef) ds:=by rw[nL];rfl
   rw[e];exact hn _ _ h
  | enter f args=>
   simp only[Oper.upon]at h ⊢;refine h.mono ?_;intro e w2 he
   cases e with
   | returned v=>simp only at he ⊢;rw[← nL];exact hn _ _ he
   | panicked ch=>exact hq _ _ _ he
   | outgrown=>exact hl he
  | row row args=>
   simp only[Oper.upon]at h ⊢
   exact h.mono (λv w2 he=>by rw[← nL];exact hn _ _ he)
  | _=>exact h.elim
 | halt x w'=>
  cases x with
  | panic v=>exact hq _ _ _ h
  | _=>exact h.elim
theorem qP{ds:List Deferred}{Q Q':Exit→Act→World→Prop}(hq:∀e a w,Q e a w→Q' e (Act.addD a ds) w):∀(l:List Nat){a:Act}{w:World},wpOps P ops Q l a w→wpOps P ops Q' l (Act.addD a ds) w
 | [],a,w,h=>hq _ _ _ h
 | i::l,a,w,h=>by
  rw[wpOps_cons]at h ⊢;unfold wpOp at h ⊢;split
  ·rename_i ho;simp only[ho]at h;exact qP hq l h
  ·rename_i o ho;simp only[ho]at h;have ht:(Act.addD a ds).tmps=a.tmps:=rfl;rw[ht];split
   ·rename_i hw;simp only[hw,if_true]at h;rcases h with h | ⟨h1,a2,w2,h2⟩
    ·left
     have he:(Act.addD a ds).eval=a.eval:=funext λx=>by cases x<;>rfl
     unfold Oper.wp at h ⊢;rw[he];exact GJ (λa w hk=>qP hq l hk) hq h
    ·right
     have he:(Act.addD a ds).eval=a.eval:=funext λx=>by cases x<;>rfl
     refine⟨?_,_,w2,hq _ a2 w2 h2⟩;unfold Oper.asks at h1 ⊢;rw[he];exact h1
   ·rename_i hw;simp only[hw]at h;rw[← nL];exact qP hq l h
end
section
variable{F:Fam}{P:Program}{T:TypeId→Option (TI F)}{Γ : Ctx F}{nv n:Nat}{R:Type}{own:Ow}{W0:World}{a:Act}{w:World}{g:G}
section
variable{ops:List Oper}
theorem Ac{opsA:Array Oper}(hops:opsA.toList=ops){Q:Exit→Act→World→Prop}:∀(tr:List (TR F)) (k:Nat) (s s':St F),(∀j t,tr[j]? = some t→opsA[k+j]? = some t.o)→Chain s tr s'→(∀t∈tr,TR.ok P n ops t)→
  ∀{g:G}{a:Act}{w:World},Good P own W0 n s g a w→(∀g' a' w',Good P own W0 n s' g' a' w'→Q .normal a' w')→wpOps P opsA Q (List.range' k tr.length) a w
 | [],k,s,s',_,hc,_,g,a,w,hgood,hQ=>by have hc':s'=s:=hc;subst hc';exact hQ g a w hgood
 | t::tr,k,s,s',ho,hc,hok,g,a,w,hgood,hQ=>by
  obtain⟨hts,hc⟩:=hc;simp only[List.length_cons,List.range'_succ];rw[wpOps_cons]
  have hi:opsA[k]? = some t.o:=by have:=ho 0 t rfl;simpa using this
  refine Ba (hok t (by simp)) (s:=s) ?_ ?_ ?_ hgood hops hi ?_
  ·intro x _;rw[hts]
  ·intro id _;rw[hts]
  ·intro j hj
   have:=(hok t (by simp)).fresh j hj
   rw[hts]at this;exact this
  ·intro g' a' w' hg'
   refine Ac hops tr (k+1) t.next s' ?_ hc (λx hx=>hok x (by simp[hx])) (by unfold TR.next;rw[hts];exact hg') hQ
   intro j t' hj
   have:=ho (j+1) t' (by simpa using hj)
   simpa[Nat.add_assoc,Nat.add_comm 1 j]using this
end
theorem EH(hT:TblOk P T)(hΓ : CtxOk P Γ){opsA:Array Oper}{kp:List Nat}{s:TS F}{K:TS F→Option R}{r:R}
  (h:tReg T Γ nv n kp opsA.toList false s K=some r) {Q:Exit→Act→World→Prop} (hg:Good P own W0 n s.st g a w)
  (hQ:∀s' g' a' w',K s'=some r→Fr nv s s'→Good P own W0 n s'.st g' a' w'→Q .normal a' w'):wpOps P opsA Q (List.range opsA.size) a w:=by
 unfold tReg at h;obtain⟨z,tr,h1,t1,t2,t3,t4,t5⟩:=qX hT hΓ h;obtain⟨hord,h1⟩:=aI h1;obtain⟨E',h2,h3⟩:=lI h1
 have hQ':∀g' a' w',Good P own W0 n z.st g' a' w'→Q .normal a' w':=by
  intro g' a' w' hg';refine hQ _ g' a' w' h2 ⟨λx hx hn=>?_,t5.m,t5.c,t5.dE,t5.dM⟩ (hg'.sub ?_ (λ_ _ h=>h) (λ_ h=>h))
  ·show look E' x=_
   rw[h3,if_pos (by simp[memN,Nat.blt_eq.mpr hx])]
   exact t5.e x hx hn
  ·intro x d hx;simp only[TS.st]at hx ⊢;rw[h3]at hx;split at hx
   ·exact hx
   ·cases hx
 have hlen:opsA.size=tr.length:=by rw[← Array.length_toList,← t1,List.length_map]
 have:=pe (opsA:=opsA) rfl (Q:=Q) tr 0 s.st z.st (by
  intro j
  have:opsA.toList[j]? = (tr.map (·.o))[j]?:=by rw[t1]
  rw[List.getElem?_map]at this;rw[← this];simp) t2 t3 hg hQ'
 rw[← hlen]at this;rw[List.range_eq_range'];exact this
theorem FH(hT:TblOk P T)(hΓ : CtxOk P Γ){id:Nat}{opsA:Array Oper}{kp:List Nat}{s:TS F}{K:TS F→Option R}{r:R}{n:Nat}{a:Act}{w:World}{own:Ow}
  (h:tReg T Γ nv n kp opsA.toList false s K=some r) {Q:Exit→Act→World→Prop} (hg:Good P own W0 n s.st g a w)
  (hQ:∀s' g' a' w',K s'=some r→Fr nv s s'→Good P own W0 n s'.st g' a' w'→Q .normal a' w'):(Code.region id opsA false).wp P Q a w:=wp_region (EH hT hΓ h hg hQ)
end
section
variable{F:Fam}{P:Program}{T:TypeId→Option (TI F)}{Γ : Ctx F}{nv:Nat}
theorem FE{fn:Func}{sp:Spec F}{a:HL F sp.ks}{imm:Nat→Prop}{w:World}{vs:List Value}{pls bxs:List Pl}(hlen:Nat.ble sp.ks.length fn.ntmps=true)(hsafe:Dl sp.ks=true)
  (hheld:c_ P w imm sp.ks a vs pls bxs) (hpl:PlOk w imm (plBlks pls)) (himm:∀b,imm b→b<w.heap.size) :
  ∃g0,Good P ⟨λb=>b∈plBlks pls∨w.heap.size≤b,imm,(G.at0 0 pls imm).ids⟩ w fn.ntmps (⟨params 0 (entL sp.ks a (unpHL sp.ks a 0).1),(unpHL sp.ks a 0).2.1,(unpHL sp.ks a 0).2.2,[],[]⟩:TS F).st g0 { tmps:=(⟨vs⟩:Array Value)++Array.replicate (fn.ntmps - (⟨vs⟩:Array Value).size) undef,defers:=[] } w∧
   (aK sp.ks a 0).map (G.at0 0 pls imm).ids=bxs.map some:=by
  obtain⟨L,l1,l2,l3⟩:=Bg hheld
  let g0:G:=⟨(G.at0 0 pls imm).ids,imm,L⟩
  have hnm0:NmAt g0 0 pls:=λj pl hj=>AC (I:=imm) (pls:=pls) (c:=0) j pl hj;obtain⟨h1,h2,h3,h4⟩:=ze (g:=g0) (c:=0) hheld hnm0;have h1:=l3 (g:=g0) (λ_ h=>h) h1
  have hlen0:∀b,L b→¬ (b∈plBlks pls∨w.heap.size≤b)∧b<w.heap.size:=by
   intro b hb;refine⟨λho=>?_,l1 b hb⟩;rcases Bool.or_eq_true _ _▸hsafe with hs | hs
   ·exact l2 hs b hb
   ·rw[rH hs hheld]at ho;rcases ho with ho | ho
    ·simp[plBlks]at ho
    ·exact absurd (l1 b hb) (Nat.not_lt.2 ho)
  simp only[Nat.zero_add]at h3
  let own:Ow:=⟨λb=>b∈plBlks pls∨w.heap.size≤b,imm,(G.at0 0 pls imm).ids⟩
  have hvl:=uI hheld;have hlen':sp.ks.length≤fn.ntmps:=Nat.le_of_ble_eq_true hlen
  have hblk:∀{id:Nat}{B:Blk F}{b:Nat},look (unpHL sp.ks a 0).2.1 id=some B→g0.blk id b→∃b0 q,pls[id]? = some (some (b0,q))∧b∈b0::nbl q.2.2:=by rintro id B b _ ⟨b0,q,hq,hbb⟩;simp only[g0,G.at0]at hq;rw[if_pos (Nat.zero_le _),Nat.sub_zero]at hq;exact⟨b0,q,hq,hbb⟩
  have hgood:Good P own w fn.ntmps (⟨params 0 (entL sp.ks a (unpHL sp.ks a 0).1),(unpHL sp.ks a 0).2.1,(unpHL sp.ks a 0).2.2,[],[]⟩:TS F).st g0 { tmps:=(⟨vs⟩:Array Value)++Array.replicate (fn.ntmps - (⟨vs⟩:Array Value).size) undef,defers:=[] } w:=by
   refine⟨rfl,?_,?_,⟨?_,?_,?_,himm,λb hb=>.inl hb,hlen0⟩,?_,λ_ h=>h,⟨rfl,rfl,rfl,Nat.le_refl _,λb hb=>.inr hb,λ_ _ _=>rfl,Nat.le_refl _⟩,λ_ _ h=>h⟩
   ·simp[hvl];omega
   ·intro x d hx;obtain⟨j,rfl,hj⟩:=tC _ 0 x d hx
    have hlt:j<vs.length:=by rw[h1.1];exact(LQ.1 hj).1
    have:((⟨vs⟩:Array Value)++Array.replicate (fn.ntmps - (⟨vs⟩:Array Value).size) undef).getD (0+j) undef=vs[j]:=by
     rw[Nat.zero_add,Array.getD_eq_getD_getElem?,Array.getElem?_append_left (by simpa using hlt)]
     simp[hlt]
    rw[this];exact h1.2 j d _ hj (LP hlt)
   ·intro id B hB;obtain⟨j,_,_,_,q⟩:=h2 _ (nA hB);exact q
   ·intro id id' B B' b hB hB' _ _ hb hb';obtain⟨b0,q,hq,hx⟩:=hblk hB hb;obtain⟨b0',q',hq',hx'⟩:=hblk hB' hb';exact jC hpl.nodup hq hx hq' hx'
   ·intro id B b hB _ hb;obtain⟨b0,q,hq,hx⟩:=hblk hB hb;have:=bL.2 ⟨id,b0,q,hq,hx⟩;exact⟨.inl this,hpl.imm b this⟩
   ·intro id hid;simp only[TS.st,ba,decide_eq_false_iff_not,h3]at hid;simp only[g0,G.at0]
    rw[if_pos (Nat.zero_le _),Nat.sub_zero,List.getElem?_eq_none (by omega)]
  exact⟨g0,hgood,h4⟩
theorem G5(hT:TblOk P T)(hΓ : CtxOk P Γ){fn:Func}{sp:Spec F}{a:HL F sp.ks}{r:TL F (outs sp)}{imm:Nat→Prop}{w w':World}{pls bxs:List Pl}{g':G}{s':TS F}{a':Act}{m:Nat}(hrs:sp.rs.all (λk=>!k.isBox)=true)
  (h4:(aK sp.ks a 0).map (G.at0 0 pls imm).ids=bxs.map some) (k4:Good P ⟨λb=>b∈plBlks pls∨w.heap.size≤b,imm,(G.at0 0 pls imm).ids⟩ w m s'.st g' a' w') (k2:packR T Γ fn sp.ks sp.rs a s'=some r) :
  ∃rvs,(results fn a'.tmps).run P w' = .ok (tupV rvs) w'∧∃(imm':Nat→Prop)(pls':List Pl),
   w'.os=w.os∧w'.tape=w.tape∧w'.output=w.output∧w.drawn≤w'.drawn∧w.heap.size≤w'.heap.size∧(∀b,b<w.heap.size→b∉plBlks pls→w'.heap[b]? = w.heap[b]?)∧
   (∀b,imm b→imm' b)∧(∀b,imm' b→imm b∨b∈plBlks pls∨w.heap.size≤b)∧(∀b,imm' b→b<w'.heap.size)∧
   bC P w' imm' (outs sp) r rvs bxs pls'∧PlOk w' imm' (plBlks bxs++plBlks pls')∧∀b∈plBlks bxs++plBlks pls',b∈plBlks pls∨w.heap.size≤b:=by
   unfold packR at k2;split at k2
   ·cases k2
   ·rename_i rd hrd;split at k2
    ·cases k2
    ·rename_i p hp;obtain⟨hc,k2⟩:=aI k2;simp only[Bool.and_eq_true]at hc;cases k2;obtain⟨rvs,q1,q2⟩:=y9 hT k4 hrd
     have hbids:(aK sp.ks a 0).map g'.ids=bxs.map some:=by rw[← h4];refine List.map_congr_left λid hid=>?_;obtain⟨q,_,hq⟩:=kt h4 hid;rw[hq];exact k4.nam id _ hq
     have hcnt:((sp.rs++sp.ks.filter Kd.isBox).filter Kd.isBox).length=(aK sp.ks a 0).length:=by
      rw[bW,List.filter_append,List.filter_filter]
      have:sp.rs.filter Kd.isBox = []:=by rw[List.filter_eq_nil_iff];intro k hk;have:=List.all_eq_true.1 hrs k hk;simpa using this
      rw[this];simp
     obtain⟨pls',p1,p2,p3,p4⟩:=xM hΓ k4.mem (λ_ _ h=>h) hp (imm:=(g'.fzs p.fz).imm) ⟨λ_ h=>.inl h,λid hid b hb=>.inr ⟨id,hid,hb⟩⟩ q2 hbids hcnt;have hfr:=freeze k4.mem (λ_ _ h=>h) p3
     have hL:∀b∈plBlks bxs++plBlks pls',∃id B,some id∈p.os∧look s'.M id=some B∧B.owned=true∧g'.blk id b:=by intro b hb;obtain⟨id,r1,r2⟩:=bk.1 (p2.mem_iff.2 hb);obtain⟨B,r3,r4⟩:=p4 id r1;exact⟨id,B,r1,r3,r4,r2⟩
     refine⟨rvs,yC q1,(g'.fzs p.fz).imm,pls',k4.frm.os,k4.frm.tape,k4.frm.output,k4.frm.drawn,k4.frm.size,?_,λb hb=>.inl (k4.ini b hb),?_,hfr.imm,p1,⟨?_,?_,?_⟩,?_⟩
     ·intro b hb hno
      exact k4.frm.block b hb (λho=>ho.elim hno (λh=>by omega))
     ·intro b hb;exact hfr.io b hb
     ·exact p2.nodup_iff.1 (fw k4.mem (eb hc.1) p4)
     ·intro b hb;obtain⟨id,B,r1,r2,r3,r4⟩:=hL b hb;have hno:id∉p.fz:=lu hc.2 id (db.2 r1)
      exact(hfr.own id B b (by rw[gc,if_neg hno];exact r2) r3 r4).2
     ·intro b hb;obtain⟨id,B,r1,r2,r3,r4⟩:=hL b hb;exact(k4.mem.ok id B r2).place k4.mem.imm (Blk.noAls r3) r4
     ·intro b hb;obtain⟨id,B,r1,r2,r3,r4⟩:=hL b hb;exact(k4.mem.own id B b r2 r3 r4).1
end
set_option linter.unusedVariables false
def rngc{τ α ω : Type}(ob:ω)(t0:ω→Option τ)(step:ω→τ→α→Option τ):List α→Option τ
 | []=>t0 ob
 | [x]=>(t0 ob).bind λt=>step ob t x
 | _=>none
theorem Gg{τ α ω : Type}{t0:ω→Option τ}{step:ω→τ→α→Option τ}{l:List α}{t r:τ}(ob:ω)(h0:∀ob,t0 ob=some t)(h:rngOk step l l.length [] t r)(hu:∀r',rngOk step l l.length [] t r'→r'=r):rng t0 step l=some r:=by
 unfold rng;have hx:∃r t,(∀ob,t0 ob=some t)∧rngOk step l l.length [] t r:=⟨r,t,h0,h⟩;rw[dif_pos hx];obtain⟨t',h1,h2⟩:=hx.choose_spec
 have:t'=t:=by have:=h1 ob;rw[h0 ob]at this;exact(Option.some.inj this).symm
 subst this;rw[hu _ h2]
theorem LM{τ α ω : Type}{ob:ω}{t0:ω→Option τ}{step step':ω→τ→α→Option τ}(h:∀ob t x,Lo (step ob t x) (step' ob t x))(hs:∀ob ob' t x,step ob t x=step ob' t x)(h0:∀ob ob',t0 ob=t0 ob')(l:List α):Lo (rngc ob t0 step l) (rng t0 step' l):=by
 constructor;intro r hr
 match l with
 | []=>simp only[rngc]at hr;exact Gg (t:=r) ob (λob'=>(h0 ob' ob).trans hr) rfl (λr' hr'=>Eq.symm hr')
 | [x]=>
  simp only[rngc,Option.bind_eq_some_iff]at hr;obtain⟨t,ht,hx⟩:=hr;refine Gg (t:=t) ob (λob'=>(h0 ob' ob).trans ht) ?_ ?_
  ·intro k y _ hy
   match k with
   | 0=>cases hy;exact⟨r,λob'=>(h ob' t x).ok r ((hs ob' ob t x).trans hx),rfl⟩
   | k+1=>simp at hy
  ·intro r' hr'
   obtain⟨t',h1,h2⟩:=hr' 0 x (by simp) rfl
   have h3:t'=r':=h2;have:=h1 ob;rw[(h ob t x).ok r hx]at this;rw[← h3];exact(Option.some.inj this).symm
 | x::y::l=>cases hr
set_option linter.unusedSimpArgs false
def Ah(o:Oper):Bool:=match o.op with
 | .defer _=>false
 | _=>true
def noDef:Code→Bool
 | .region _ ops _=>ops.toList.all Ah
 | .seq a b=>noDef a&&noDef b
 | .cond _ a b=>noDef a&&noDef b
 | .block _ a=>noDef a
 | .skip=>true
 | .exit _=>true
 | .ret=>true
 | .label _=>true
 | _=>false
abbrev Rnd(l:Nat):Fence:=Fence.wide.inRound l
section
variable{P:Program}{lr m:Nat}
theorem Gi{f:FuncId}{args:Array Value}{w:World}{R:Ending→World→Prop}(h:Calls P f args w R):CallsIn (Rnd lr) m P f args w R:=callsIn_wide.2 h
theorem ID{row:String}{args:Array Value}{w:World}{R:Value→World→Prop}(h:Rows P row args w R):RowsIn (Rnd lr) m P row args w R:=
 λc cs _=>let⟨v,w',r,s⟩:=h c cs;⟨v,w',r,stepsIn_wide.2 s⟩
theorem dK{ops:Array Oper}{Q:Exit→Act→World→Prop}(hd:ops.toList.all Ah=true)(hQ:∀a w,¬ Q .outgrown a w):∀(l:List Nat){a:Act}{w:World},wpOps P ops Q l a w→wpOpsIn (Rnd lr) m P ops Q l a w
 | [],a,w,h=>h
 | i::rest,a,w,h=>by
  simp only[wpOps]at h;simp only[wpOpsIn]
  cases ho:ops[i]? with
  | none=>simp only[ho]at h ⊢;exact dK hd hQ rest h
  | some o=>
   simp only[ho]at h ⊢;split
   ·rename_i hw;simp only[hw,if_true]at h;rcases h with h | ⟨_,a',w',h⟩
    ·refine⟨λ_ _=>trivial,?_⟩
     have hnd:∀c,o.op≠.defer c:=by
      intro c hc
      have h1:o∈ops.toList:=by rw[← Array.getElem?_toList]at ho;exact List.mem_of_getElem? ho
      have:=List.all_eq_true.1 hd o h1;simp[Ah,hc]at this
     rw[Oper.semAt_eq _ _ _ hnd];unfold Oper.wp at h;generalize(execOp a.eval o).run P w=r at h ⊢;have hl:¬ LetsOut Q:=λ⟨a,w,k⟩=>hQ a w k
     cases r with
     | ok n w'=>
      cases n with
      | value v=>exact dK hd hQ rest h
      | skip=>exact dK hd hQ rest h
      | defer d=>exact dK hd hQ rest h
      | enter f args=>
       refine⟨(by intro h;cases h),Gi (h.mono ?_)⟩
       intro e w2 he
       cases e with
       | returned v=>exact dK hd hQ rest he
       | panicked c=>exact he
       | outgrown=>exact he
      | row row args=>
       exact⟨(by intro h;cases h),ID (h.mono λv w2 he=>dK hd hQ rest he)⟩
      | _=>exact h.elim
     | halt x w'=>
      cases x with
      | panic v=>exact h
      | _=>exact h.elim
    ·exact absurd h (hQ _ _)
   ·rename_i hw;simp only[hw]at h;exact⟨λ_ _=>trivial,dK hd hQ rest h⟩
end
section
variable{F:Fam}{P:Program}{T:TypeId→Option (TI F)}{Γ : Ctx F}{nv n:Nat}{own:Ow}{W0:World}{lr m:Nat}
theorem GS{s:TS F}{R:Type}{K:Nat→TS F→Option R}{r:R}{a:Act}{w:World}:¬ Aft P own W0 n nv s K r .outgrown a w:=by
 rintro⟨k,s',g',h,_⟩
 match k,h with
 | 0,h=>cases h
 | 1,h=>cases h
 | k+2,h=>cases h
def cQ(P:Program)(own:Ow)(W0:World)(n nv lr m:Nat)(c:Code)(run:TS F→{R:Type}→(Nat→TS F→Option R)→Option R):Prop:=
 ∀(s:TS F){R:Type}(K:Nat→TS F→Option R)(r:R),run s K=some r→∀(g:G)(a:Act)(w:World),Good P own W0 n s.st g a w→c.wpIn (Rnd lr) m P (Aft P own W0 n nv s K r) a w
theorem Gw{x y:Code}{f k:TS F→{R:Type}→(Nat→TS F→Option R)→Option R}(hx:cQ P own W0 n nv lr m x f)(hy:cQ P own W0 n nv lr m y k) :
  cQ P own W0 n nv lr m (x.seq y) (λs R K=>f s λe s'=>match e with | 0=>k s' K | e=>K e s'):=by
 intro s R K r h g a w hg;refine wpIn_seq (wpIn_mono (hx s _ r h g a w hg) ?_);rintro e a' w' ⟨i,s',g',rfl,h2,h3,h4⟩
 match i,h2 with
 | 0,h2=>exact wpIn_mono (hy s' K r h2 g' a' w' h4) (λe a w hq=>hq.back h3)
 | 1,h2=>exact⟨1,s',g',rfl,h2,h3,h4⟩
 | i+2,h2=>exact⟨i+2,s',g',rfl,h2,h3,h4⟩
theorem EV{t:Nat}{x y:Code}{f k:TS F→{R:Type}→(Nat→TS F→Option R)→Option R}(hx:cQ P own W0 n nv lr m x f)(hy:cQ P own W0 n nv lr m y k) :
  cQ P own W0 n nv lr m (.cond (.tmp t) x y) (λs R K=>match look s.E t with
  | some (.c (.im (.b b)))=>cond b (f s K) (k s K)
  | _=>none):=by
 intro s R K r h g a w hg;dsimp only at h;split at h
 ·rename_i b hb;refine wpIn_cond_split (qF (hg.env t _ hb)) (λe=>?_) (λe=>?_)
  ·subst e;exact hx s K r h g a w hg
  ·subst e;exact hy s K r h g a w hg
 ·cases h
theorem C0{b:Bool}{x y:Code}{f k:TS F→{R:Type}→(Nat→TS F→Option R)→Option R}(hx:cQ P own W0 n nv lr m x f)(hy:cQ P own W0 n nv lr m y k) :
  cQ P own W0 n nv lr m (.cond (.const (.bool b)) x y) (λs R K=>cond b (f s K) (k s K)):=by
 intro s R K r h g a w hg;refine wpIn_cond_split (t:=b) rfl (λe=>?_) (λe=>?_)
 ·subst e;exact hx s K r h g a w hg
 ·subst e;exact hy s K r h g a w hg
theorem Dw{i:Nat}{x:Code}{f:TS F→{R:Type}→(Nat→TS F→Option R)→Option R}(hx:cQ P own W0 n nv lr m x f) :
  cQ P own W0 n nv lr m (.block i x) (λs R K=>f s λe s'=>if Nat.beq e (i+2)then K 0 s' else K e s'):=by
 intro s R K r h g a w hg;refine wpIn_block (wpIn_mono (hx s _ r h g a w hg) ?_);rintro e a' w' ⟨j,s',g',rfl,h2,h3,h4⟩
 match j,h2 with
 | 0,h2=>exact⟨0,s',g',rfl,h2,h3,h4⟩
 | 1,h2=>exact⟨1,s',g',rfl,h2,h3,h4⟩
 | j+2,h2=>
  simp only at h2;show Exit.inBlock i _ (.exit j) a' w';simp only[Exit.inBlock];by_cases hij:j=i
  ·subst hij;rw[aV,if_pos rfl]at h2;rw[if_pos rfl];exact⟨0,s',g',rfl,h2,h3,h4⟩
  ·rw[am (by omega)]at h2
   rw[if_neg hij];exact⟨j+2,s',g',rfl,h2,h3,h4⟩
theorem Ce(hT:TblOk P T)(hΓ : CtxOk P Γ)(hmix:P.follows .mixedOrders=true){id:Nat}{opsA:Array Oper}{draw:Bool}{kp:List Nat}(hd:opsA.toList.all Ah=true) :
  cQ P own W0 n nv lr m (.region id opsA draw) (λs R K=>tReg T Γ nv n kp opsA.toList draw s (K 0)):=by
 intro s R K r h g a w hg;unfold tReg at h;obtain⟨z,tr,h1,t1,t2,t3,t4,t5⟩:=qX hT hΓ h;obtain⟨hord,h1⟩:=aI h1;obtain⟨E',h2,h3⟩:=lI h1
 have hQ':∀g' a' w',Good P own W0 n z.st g' a' w'→Aft P own W0 n nv s K r .normal a' w':=by
  intro g' a' w' hg';refine⟨0,_,g',rfl,h2,⟨λx hx hn=>?_,t5.m,t5.c,t5.dE,t5.dM⟩,hg'.sub ?_ (λ_ _ h=>h) (λ_ h=>h)⟩
  ·show look E' x=_
   rw[h3,if_pos (by simp[memN,Nat.blt_eq.mpr hx])]
   exact t5.e x hx hn
  ·intro x d hx;simp only[TS.st]at hx ⊢;rw[h3]at hx;split at hx
   ·exact hx
   ·cases hx
 cases draw with
 | false=>
  have hlen:opsA.size=tr.length:=by rw[← Array.length_toList,← t1,List.length_map]
  refine wpIn_region (dK hd (λ_ _=>GS) _ ?_)
  have:=pe (opsA:=opsA) rfl (Q:=Aft P own W0 n nv s K r) tr 0 s.st z.st (by
   intro j
   have:opsA.toList[j]? = (tr.map (·.o))[j]?:=by rw[t1]
   rw[List.getElem?_map]at this;rw[← this];simp) t2 t3 hg hQ'
  rw[← hlen]at this;rw[List.range_eq_range'];exact this
 | true=>simp only[if_true,Bool.and_eq_true,List.nil_append]at hord;refine wpIn_region_draw λt=>dK hd (λ_ _=>GS) _ ?_;simp only[Region.schedule,hmix,Bool.true_or,if_true];exact wpAny_sound opsA.size t _ a _ (An (opsA:=opsA) rfl t1 t2 t3 t4 hord.1 hord.2 (wY hg) hQ')
theorem Gu{c:Code}{f:TS F→{R:Type}→(Nat→TS F→Option R)→Option R}(hf:cQ P own W0 n nv lr m c f)(kp:List Nat):cQ P own W0 n nv lr m c (λs R K=>f (kU kp s) K):=by intro s R K r h g a w hg;obtain⟨⟨g',h1⟩,h2⟩:=oO (nv:=nv) kp hg;exact wpIn_mono (hf _ K r h g' a w h1) (λe a' w' hq=>hq.back h2)
theorem tAuto_in(hT:TblOk P T)(hΓ : CtxOk P Γ)(hmix:P.follows .mixedOrders=true):∀(c:Code),noDef c=true→cQ P own W0 n nv lr m c (tAuto T Γ nv n c)
 | .skip=>λhd s R K r h g a w hg=>wpIn_skip ⟨0,s,g,rfl,by simpa[tAuto]using h,.refl _ _,hg⟩
 | .exit i=>λhd s R K r h g a w hg=>wpIn_exit ⟨i+2,s,g,rfl,by simpa[tAuto]using h,.refl _ _,hg⟩
 | .ret=>λhd s R K r h g a w hg=>wpIn_ret ⟨1,s,g,rfl,by simpa[tAuto]using h,.refl _ _,hg⟩
 | .region id ops draw=>λhd s R K r h g a w hg=>Ce (id:=id) (kp:=[]) hT hΓ hmix hd s K r (by simp only[tAuto]at h;exact h) g a w hg
 | .seq x y=>λhd s R K r h g a w hg=>by
  simp only[noDef,Bool.and_eq_true]at hd
  exact Gw (tAuto_in hT hΓ hmix x hd.1) (tAuto_in hT hΓ hmix y hd.2) s K r (by simp only[tAuto]at h;exact h) g a w hg
 | .cond (.tmp t) x y=>λhd s R K r h g a w hg=>by
  simp only[noDef,Bool.and_eq_true]at hd
  exact EV (tAuto_in hT hΓ hmix x hd.1) (tAuto_in hT hΓ hmix y hd.2) s K r (by simp only[tAuto]at h;exact h) g a w hg
 | .cond (.const v) x y=>by
  cases v with
  | bool b=>
   intro hd s R K r h g a w hg;simp only[noDef,Bool.and_eq_true]at hd
   exact C0 (tAuto_in hT hΓ hmix x hd.1) (tAuto_in hT hΓ hmix y hd.2) s K r (by simp only[tAuto]at h;exact h) g a w hg
  | _=>exactλhd s R K r h g a w hg=>by simp[tAuto]at h
 | .cond (.global _) x y=>λhd s R K r h g a w hg=>by simp[tAuto]at h
 | .cond (.func _) x y=>λhd s R K r h g a w hg=>by simp[tAuto]at h
 | .block i x=>λhd s R K r h g a w hg=>Dw (tAuto_in hT hΓ hmix x hd) s K r (by simp only[tAuto]at h;exact h) g a w hg
 | .loop x=>λhd s R K r h g a w hg=>by simp[tAuto]at h
 | .goto x=>λhd s R K r h g a w hg=>by simp[tAuto]at h
 | .label x=>λhd s R K r h g a w hg=>wpIn_label ⟨0,s,g,rfl,by simpa[tAuto]using h,.refl _ _,hg⟩
 | .rangeFunc _ _ _ _=>λhd s R K r h g a w hg=>by simp[tAuto]at h
 | .refuse _=>λhd s R K r h g a w hg=>by simp[tAuto]at h
 | .scope x=>λhd=>by cases hd
theorem JJ(hΓ : CtxOk P Γ){c:Code}{f:TS F→{R:Type}→(Nat→TS F→Option R)→Option R}(hf:cQ P own W0 n nv lr m c f){dr:List Nat}{xs:List (Nat×Ks)}(hx:∀y∈keysX xs,y∈dr) :
  cQ P own W0 n nv lr m c (λs R K=>(f (clean s) λe s'=>finX Γ s dr s.c (aG s dr) xs e s').bind λv=>elimX (λe ks x=>K e (merge nv dr (aG s dr) s ks x)) xs v):=by
 intro s R K r h g a w hg;rw[Option.bind_eq_some_iff]at h;obtain⟨v,hv,he⟩:=h;refine wpIn_mono (hf (clean s) _ v hv g a w hg) ?_;rintro e a' w' ⟨i,s',g',rfl,h2,h3,h4⟩;obtain⟨ks,x,hp,hsub,hel⟩:=yi h2;rw[hel]at he;obtain⟨⟨g2,k1⟩,k2,_⟩:=qN hΓ hg h4 (λx hx _ hn=>h3.e x hx hn) (λid hi _ hn=>h3.m id hi hn) (λy hy=>hx y (hsub y hy)) hp;exact⟨i,_,g2,rfl,he,k2,k1⟩
def hintN:Hint→Bool
 | .z=>true
 | .r _=>true
 | .s a b=>hintN a&&hintN b
 | .c a b=>hintN a&&hintN b
 | .b a=>hintN a
 | .j _ _ a=>hintN a
 | _=>false
theorem I6(hT:TblOk P T)(hΓ : CtxOk P Γ)(hmix:P.follows .mixedOrders=true):∀(h:Hint),hintN h=true→∀(c:Code),noDef c=true→cQ P own W0 n nv lr m c (tRun T Γ nv n h c):=by
 intro h
 induction h with
 | z=>intro _ c hd s R K r hr;exact tAuto_in hT hΓ hmix c hd s K r (by simp only[tRun]at hr;exact hr)
 | r kp=>
  intro _ c hd s R K r hr
  cases c with
  | region id ops draw=>exact Gu (Ce (id:=id) (kp:=kp) hT (wT hΓ) hmix hd) kp s K r (by simp only[tRun]at hr;exact hr)
  | _=>simp[tRun]at hr
 | s h k ih ik=>
  intro hh c hd s R K r hr;simp only[hintN,Bool.and_eq_true]at hh
  cases c with
  | seq x y=>
   simp only[noDef,Bool.and_eq_true]at hd
   exact Gw (ih hh.1 x hd.1) (ik hh.2 y hd.2) s K r (by simp only[tRun]at hr;exact hr)
  | _=>simp[tRun]at hr
 | c h k ih ik=>
  intro hh c hd s R K r hr;simp only[hintN,Bool.and_eq_true]at hh
  cases c with
  | cond t x y=>
   simp only[noDef,Bool.and_eq_true]at hd
   cases t with
   | tmp t=>exact EV (ih hh.1 x hd.1) (ik hh.2 y hd.2) s K r (by simp only[tRun]at hr;exact hr)
   | const v=>cases v with
    | bool b=>exact C0 (ih hh.1 x hd.1) (ik hh.2 y hd.2) s K r (by simp only[tRun]at hr;exact hr)
    | _=>simp[tRun]at hr
   | _=>simp[tRun]at hr
  | _=>simp[tRun]at hr
 | b h ih=>
  intro hh c hd s R K r hr
  cases c with
  | block i x=>exact Dw (ih hh x hd) s K r (by simp only[tRun]at hr;exact hr)
  | scope x=>cases hd
  | _=>simp[tRun]at hr
 | j dr xs h ih=>
  intro hh c hd s R K r hr
  exact JJ (dr:=dr++keysX xs) (xs:=xs) hΓ (ih hh c hd) (λy hy=>by simp[hy]) s K r (by simp only[tRun]at hr;exact hr)
 | _=>intro hh;cases hh
end
set_option linter.unusedVariables false
set_option linter.unusedSimpArgs false
def rgB{τ α : Type}(step:α→τ→Option τ):List α→τ→Option τ
 | [],t=>some t
 | x::r,t=>(rgB step r t).bind (step x)
theorem D5{τ α : Type}{step:α→τ→Option τ}(x:α):∀(l:List α)(t:τ),rgB step (l++[x]) t=(step x t).bind (rgB step l)
 | [],t=>by
  show step x t=(step x t).bind λt=>some t
  cases step x t<;>rfl
 | y::l,t=>by simp only[List.cons_append,rgB];rw[D5 x l t,Option.bind_assoc]
theorem G4{τ α : Type}{step step':α→τ→Option τ}(h:∀x t,Lo (step x t) (step' x t)):∀(l:List α)(t:τ),Lo (rgB step l t) (rgB step' l t)
 | [],t=>ah _
 | x::l,t=>ag (G4 h l t) (λy=>h x y)
structure RfC where
 ops0:Array Oper
 ops1:Array Oper
 ops8:Array Oper
 t:Nat
 pi:Nat
 px:Nat
 assign:Code
 body:Code
def DY:Code→Option RfC
 | .seq (.region _ ops0 false) (.seq (.seq (.region _ ops1 false) (.block _ (.rangeFunc (.tmp t) ⟨[pi,px]⟩ assign body))) (.seq (.region _ ops8 false) .ret))=>some ⟨ops0,ops1,ops8,t,pi,px,assign,body⟩
 | _=>none
theorem FU{c:Code}{q:RfC}(h:DY c=some q):∃i0 i1 ib i8,c = .seq (.region i0 q.ops0 false) (.seq (.seq (.region i1 q.ops1 false) (.block ib (.rangeFunc (.tmp q.t) #[q.pi,q.px] q.assign q.body))) (.seq (.region i8 q.ops8 false) .ret)):=by
 unfold DY at h;split at h
 ·cases h;exact⟨_,_,_,_,rfl⟩
 ·cases h
section
variable{F:Fam}
def C7:Option (Dat F)→Bool
 | some (.c (.ptr _ _))=>true
 | _=>false
def noLnC:Cel F→Bool
 | .ln _=>false
 | .lpt _ _=>false
 | _=>true
def noLnB:Blk F→Bool
 | .box cs=>cs.all noLnC
 | _=>true
def noLnD:Dat F→Bool
 | .c x=>noLnC x
 | .agg cs=>cs.all noLnC
 | .fv _ _ _=>true
 | _=>false
def noLnM(s:TS F):Bool:=s.M.all λp=>noLnB p.2
def noLnS(s:TS F):Bool:=s.E.all (λp=>noLnD p.2)&&noLnM s
def xV(t:Nat)(E:List (Nat×Dat F)):List (Nat×Dat F):=E.filter λp=>!(Nat.beq t p.1)&&C7 (look E p.1)
def rfB(s:TS F)(t id:Nat)(tt:Ty)(l:List (ET F tt)):TS F:=⟨xV t s.E,(id,.fro tt l)::s.M.filter (λp=>!(Nat.beq id p.1)),s.c,[],[]⟩
def rfIn(m:TS F)(px:Nat)(d:Dat F):TS F:=⟨(px,d)::m.E,m.M,m.c,[],[]⟩
def rfZ(s:TS F):TS F:=⟨xV 1000000 s.E,s.M,s.c,s.dE,s.dM⟩
variable(T:TypeId→Option (TI F))(Γ : Ctx F)(nv n:Nat)
noncomputable def AY(q:RfC)(h:Hint)(te:TypeId)(sB:TS F)(dra kill:List Nat)(ks0:Ks)(tt:Ty)(x:ET F tt)(t:TLS F ks0):Option (TLS F ks0):=
 match T te with
 | none=>none
 | some ti=>match dn ti ((encT F tt x).map .im) 0 with
  | none=>none
  | some d=>tAuto T Γ nv n q.assign (rfIn (merge nv dra kill sB ks0 t) q.px d) λe s1=>
    if Nat.beq e 0&&noLnS s1 then tRun T Γ nv n h q.body s1 λe s'=>
     if Nat.beq e 0 then match packX Γ sB dra sB.c kill ks0 s' with
      | none=>none
      | some t'=>if noLnM (merge nv dra kill sB ks0 t')then some t' else none
     else none
    else none
noncomputable def DT(fn:Func)(fB:FuncId)(te:TypeId)(ks0:Ks)(dr0:List Nat)(h:Hint)(ks rs:List Kd)(a:HL F ks):Option (TL F (rs++ks.filter Kd.isBox)):=
 match fn.body with
 | none=>none
 | some body=>match DY body with
  | none=>none
  | some q=>match uS q.ops1.toList with
   | none=>none
   | some (pre,oB)=>match DK oB with
    | none=>none
    | some e=>if Nat.beq e.t q.t&&Nat.beq e.f fB&&Nat.blt q.t fn.ntmps&&Nat.blt q.pi fn.ntmps&&Nat.blt q.px fn.ntmps&&!(Nat.beq q.pi q.px)&&noDef q.assign&&noDef q.body&&hintN h then
      match unpHL ks a 0 with
      | (ds,bs,c)=>if Dl ks then
        tReg T Γ nv fn.ntmps [] q.ops0.toList false ⟨params 0 (entL ks a ds),bs,c,[],[]⟩ λs1=>
        tOps T Γ nv fn.ntmps q.ops1.toList pre s1 [] λs2 _=>match look s2.E e.x with
         | some (.c (.wsl id))=>match look s2.M id,T te with
          | some (.row tt l),some ti=>
           if Nat.beq (szT F tt) ti.size&&!(memN id (aG (rfB s2 q.t id tt l) (dr0++keysOf ks0)))&&(ks0.all λk=>(dI k.2 (look (rfB s2 q.t id tt l).E k.1)).isSome)&&(look (rfB s2 q.t id tt l).E q.pi).isNone&&(look (rfB s2 q.t id tt l).E q.px).isNone&&Nat.blt id s2.c&&noLnM (rfB s2 q.t id tt l)&&memN q.px (dr0++keysOf ks0)&&dl ti.desc then
            match packX Γ (rfB s2 q.t id tt l) (dr0++keysOf ks0) s2.c (aG (rfB s2 q.t id tt l) (dr0++keysOf ks0)) ks0 (rfB s2 q.t id tt l)with
            | none=>none
            | some t0=>if noLnM (merge nv (dr0++keysOf ks0) (aG (rfB s2 q.t id tt l) (dr0++keysOf ks0)) (rfB s2 q.t id tt l) ks0 t0)then
              (rgB (AY T Γ nv fn.ntmps q h te (rfB s2 q.t id tt l) (dr0++keysOf ks0) (aG (rfB s2 q.t id tt l) (dr0++keysOf ks0)) ks0 tt) l t0).bind λv=>
               tReg T Γ nv fn.ntmps [] q.ops8.toList false (merge nv (dr0++keysOf ks0) (aG (rfB s2 q.t id tt l) (dr0++keysOf ks0)) (rfB s2 q.t id tt l) ks0 v) λs8=>
                if noLnM s8 then packR T Γ fn ks rs a (rfZ s8)else none
              else none
           else none
          | _,_=>none
         | _=>none
       else none
     else none
end
section
variable{F:Fam}{P:Program}{own own':Ow}{W0 W1:World}{n n':Nat}{s s':St F}{g:G}{a a':Act}{w w':World}
def G.noLen(g:G):G:=⟨g.ids,g.imm,λ_=>False⟩
theorem va{c:Cel F}{x:Value}(hn:noLnC c=true)(h:RepC g w c x):RepC g.noLen w c x:=by
 cases h with
 | ln h=>cases hn
 | lpt _ _ _ _ _ _ _ _=>cases hn
 | im h=>exact .im h
 | pt cs off b o f hb hc hr=>exact .pt cs off b o f hb hc hr
 | ptr h=>exact .ptr h
 | pel h=>exact .pel h
 | wsl0 p h=>exact .wsl0 p h
 | wsl h h1 h2=>exact .wsl h h1 h2
 | lsl0 p h=>exact .lsl0 p h
 | lsl h h1 h2 h3 h4=>exact .lsl h h1 h2 h3 h4
 | nsl h h1 h2=>exact .nsl h h1 h2
 | nel h h1=>exact .nel h h1
 | bsl h hm=>exact .bsl h hm
 | mpc h=>exact .mpc h
 | ppt cs b o b2 o2 f hb hv hb2 hc hr=>exact .ppt cs b o b2 o2 f hb hv hb2 hc hr
 | any=>exact .any
 | one h=>exact .one h
theorem FI{d:Dat F}{x:Value}(hn:noLnD d=true)(h:RepD P g w d x):RepD P g.noLen w d x:=by
 cases h with
 | c h=>exact .c (va hn h)
 | agg hl h=>exact .agg hl (λk c x a b=>va (List.all_eq_true.1 hn c (List.mem_of_getElem? a)) (h k c x a b))
 | tup _ _=>cases hn
 | clo _ _ _ _=>cases hn
 | fv h=>exact .fv h
theorem Gq{id:Nat}{B:Blk F}(hn:noLnB B=true)(h:BlkOk g w id B):BlkOk g.noLen w id B:=by
 cases B with
 | box cs=>obtain⟨b,c,arr,t,h1,h2,h3,h4⟩:=h;exact⟨b,c,arr,t,h1,h2,h3,λk c x a b=>va (List.all_eq_true.1 hn c (List.mem_of_getElem? a)) (h4 k c x a b)⟩
 | _=>exact h
theorem Good.noLen(h:Good P own W0 n s g a w)(hE:∀x d,s.e x=some d→noLnD d=true)(hM:∀id B,s.m id=some B→noLnB B=true):Good P own W0 n s g.noLen a w:=
 ⟨h.dfr,h.tsz,λx d hx=>FI (hE x d hx) (h.env x d hx),⟨λid B hB=>Gq (hM id B hB) (h.mem.ok id B hB),h.mem.dis,h.mem.own,h.mem.imm,h.mem.io,λb hb=>hb.elim⟩,h.dom,h.ini,h.frm,h.nam⟩
theorem Good.world(h:Good P own W0 n s g a w)(hl:∀b,¬ g.len b)(hsz:w.heap.size≤w'.heap.size)(hd:w.drawn≤w'.drawn)(X:Nat→Prop)(hX:∀b,X b→¬ own.o b∧¬ own.i b)(hs:∀b,b<w.heap.size→¬ X b→w'.heap[b]? = w.heap[b]?)(hf:∀b,w'.heap.size≤b→own.o b) :
  Good P own w' n s g a w':=by
 have hle:Le g w g w':=by
  refine⟨λ_ _ h=>h,λ_ h=>h,λb hb=>?_,λ_ h=>h,λb hb=>(hl b hb).elim⟩;refine hs b (h.mem.imm b hb) (λhx=>?_);rcases h.mem.io b hb with hi | ho
  ·exact(hX b hx).2 hi
  ·exact(hX b hx).1 ho
 refine⟨h.dfr,h.tsz,λx d hx=>(h.env x d hx).le hle,⟨λid B hB=>(h.mem.ok id B hB).le hle λho b hb=>?_,h.mem.dis,h.mem.own,λb hb=>Nat.lt_of_lt_of_le (h.mem.imm b hb) hsz,h.mem.io,λb hb=>(hl b hb).elim⟩,h.dom,h.ini,⟨rfl,rfl,rfl,Nat.le_refl _,hf,λ_ _ _=>rfl,Nat.le_refl _⟩,h.nam⟩;exact hs b ((h.mem.ok id B hB).place h.mem.imm (Blk.noAls ho) hb) (λhx=>(hX b hx).1 (h.mem.own id B b hB ho hb).1)
theorem Good.env'(h:Good P own W0 n s g a w)(hd:a'.defers = [])(ht:a'.tmps.size=n')(he:∀x d,s'.e x=some d→RepD P g w d (a'.tmps.getD x undef))(hm:∀id B,s'.m id=some B→s.m id=some B)(hu:∀id,s'.u id=false→s.u id=false):Good P own W0 n' s' g a' w:=
 ⟨hd,ht,he,h.mem.sub hm,λid hi=>h.dom id (hu id hi),h.ini,h.frm,h.nam⟩
def Ow.aside(own:Ow)(g:G)(X:Nat→Prop):Ow:=⟨λb=>own.o b∧¬ X b,own.i,g.ids⟩
theorem Good.aside(h:Good P own W0 n s g a w)(hl:∀b,¬ g.len b)(X:Nat→Prop)(hX:∀b,X b→(∀id B,s.m id=some B→B.owned=true→¬ g.blk id b)∧¬ g.imm b)(hXs:∀b,X b→b<w.heap.size):Good P (own.aside g X) w n s g a w:=by
 refine⟨h.dfr,h.tsz,h.env,⟨h.mem.ok,h.mem.dis,λid B b hB ho hb=>⟨⟨(h.mem.own id B b hB ho hb).1,λhx=>(hX b hx).1 id B hB ho hb⟩,(h.mem.own id B b hB ho hb).2⟩,h.mem.imm,λb hb=>?_,λb hb=>(hl b hb).elim⟩,h.dom,h.ini,⟨rfl,rfl,rfl,Nat.le_refl _,λb hb=>⟨h.frm.fresh b (Nat.le_trans h.frm.size hb),λhx=>by have:=hXs b hx;omega⟩,λ_ _ _=>rfl,Nat.le_refl _⟩,λid p hp=>hp⟩
 rcases h.mem.io b hb with hi | ho
 ·exact .inl hi
 ·exact .inr ⟨ho,λhx=>(hX b hx).2 hb⟩
theorem Good.back{gB:G}{X:Nat→Prop}(h:Good P (own.aside gB X) W1 n s g a w)(hl:∀b,¬ g.len b)(hf:Frm own W0 w)(hn:∀id p,own.nm id=some p→gB.ids id=some p):Good P own W0 n s g a w:=
 ⟨h.dfr,h.tsz,h.env,⟨h.mem.ok,h.mem.dis,λid B b hB ho hb=>⟨(h.mem.own id B b hB ho hb).1.1,(h.mem.own id B b hB ho hb).2⟩,h.mem.imm,λb hb=>(h.mem.io b hb).imp id λhh=>hh.1,λb hb=>(hl b hb).elim⟩,h.dom,h.ini,hf,λid p hp=>h.nam id p (hn id p hp)⟩
theorem Frm.aside{gB:G}{X:Nat→Prop}(h:Frm own W0 w)(h2:Frm (own.aside gB X) w w'):Frm own W0 w':=
 ⟨h2.os.trans h.os,h2.tape.trans h.tape,h2.output.trans h.output,Nat.le_trans h.size h2.size,h.fresh,λb hb ho=>(h2.block b (Nat.lt_of_lt_of_le hb h.size) (λhh=>ho hh.1)).trans (h.block b hb ho),Nat.le_trans h.drawn h2.drawn⟩
theorem DQ{t x:Nat}{E:List (Nat×Dat F)}:look (xV t E) x=if !(Nat.beq t x)&&C7 (look E x)then look E x else none:=aD (λy=>!(Nat.beq t y)&&C7 (look E y)) x E
theorem m8{t x:Nat}{E:List (Nat×Dat F)}{d:Dat F}(h:look (xV t E) x=some d):x≠t∧look E x=some d∧∃id off,d = .c (.ptr id off):=by
 rw[DQ]at h;split at h
 ·rename_i hc;obtain⟨h1,h2⟩:=(Bool.and_eq_true _ _).mp hc;refine⟨λe=>?_,h,?_⟩
  ·rw[e,aV]at h1;cases h1
  ·rw[h]at h2
   match d,h2 with
   | .c (.ptr id off),_=>exact⟨id,off,rfl⟩
 ·cases h
end
set_option linter.unusedVariables false
set_option linter.unusedSimpArgs false
def Du(P:Program)(fC:FuncId)(te:TypeId)(sz:Nat):Prop:=
 ∀(l bx n cap:Nat)(p:Option Addr)(J:Nat→World→Prop)(W:World),n≤maxLen→(n=0∨∃b,p=some ⟨b,0,none⟩)→
  (∀k w,J k w→w.heap[bx]? = W.heap[bx]?)→W.cell? ⟨bx,0,none⟩=some (.slice p n cap)→
  (∀k w,J (k+1) w→k<n→∀b,p=some ⟨b,0,none⟩→∃f:Nat→Value,(∀j,j<sz→w.cell? ⟨b,k*sz+j,none⟩=some (f j))∧YieldAt Fence.wide 0 P l #[.int .i64 (k:Nat),.agg ⟨(List.range sz).map f⟩] w λe w'=>e = .returned (.bool true)∧J k w')→
  J n W→CallsIn Fence.wide 1 P fC #[.func (.yield l) #[] #[],.pointer (some ⟨bx,0,none⟩)] W λe w'=>(∃v,e = .returned v)∧J 0 w'
section
variable{F:Fam}{P:Program}
theorem Iz{T:TypeId→Option (TI F)}(hT:TblOk P T){t:TypeId}{ti:TI F}(ht:T t=some ti)(hag:dl ti.desc=true){b q:Nat}{w:World}{f:Nat→Value}(hc:∀j,j<ti.size→w.cell? ⟨b,q+j,none⟩=some (f j)) :
  (loadVar t ⟨b,q,none⟩).run P w = .ok (.agg ⟨(List.range ti.size).map f⟩) w:=by
 have hrun:=run_loadCells (P:=P) w ⟨b,q,none⟩ ti.size f (by intro j hj;rw[Addr.add_lit];exact hc j hj)
 simp only[loadVar,Sem.run_bind,qw hT ht w,Result.andThen_ok,hag,if_true,bi hT ht w,hrun,Sem.run_pure]
theorem wF{E:List (Nat×Dat F)}:∀{ks:Ks}{v:TLS F ks}{c:Nat},(ks.all λk=>(dI k.2 (look E k.1)).isSome)=true→∀y d,look (unpS E ks v c).1 y=some d→look E y=some d
 | [],v,c,h,y,d,hy=>by simp[unpS,look]at hy
 | [k],v,c,h,y,d,hy=>by
  simp only[List.all_cons,List.all_nil,Bool.and_true,Option.isSome_iff_exists]at h;obtain⟨id,hid⟩:=h;simp only[unpS,unpS1,hid]at hy;rcases d8 hid with⟨t,ow,hk,hl⟩ | ⟨t,arr,hk,hl⟩
  ·obtain⟨x,kk⟩:=k;simp only at hk hl hid hy;subst hk;simp only[unpB,ar]at hy;by_cases hxy:x=y
   ·subst hxy;rw[aV]at hy;simp only[if_true,Option.some.injEq]at hy;rw[← hy];exact hl
   ·rw[am hxy]at hy;simp[look]at hy
  ·obtain⟨x,kk⟩:=k;simp only at hk hl hid hy;subst hk;simp only[unpB,ar]at hy;by_cases hxy:x=y
   ·subst hxy;rw[aV]at hy;simp only[if_true,Option.some.injEq]at hy;rw[← hy];exact hl
   ·rw[am hxy]at hy;simp[look]at hy
 | k::l::r,v,c,h,y,d,hy=>by
  rw[List.all_cons,Bool.and_eq_true]at h;obtain⟨h1,h2⟩:=h;rw[Option.isSome_iff_exists]at h1;obtain⟨id,hid⟩:=h1;simp only[unpS,unpS1,hid]at hy
  have key:∀(x:Nat)(dd:Dat F)(rest:List (Nat×Dat F)),look E x=some dd→(∀y d,look rest y=some d→look E y=some d)→look ((x,dd)::rest) y=some d→look E y=some d:=by
   intro x dd rest e1 e2 e3;rw[ar]at e3;split at e3
   ·rename_i hb;have:=Nat.eq_of_beq_eq_true hb;subst this;cases e3;exact e1
   ·exact e2 y d e3
  obtain⟨x,kk⟩:=k;simp only at hid hy;rcases d8 hid with⟨t,ow,hk,hl⟩ | ⟨t,arr,hk,hl⟩
  ·subst hk;simp only[unpB]at hy;exact key x _ _ hl (λy d=>wF h2 y d) hy
  ·subst hk;simp only[unpB]at hy;exact key x _ _ hl (λy d=>wF h2 y d) hy
theorem xo{nv:Nat}{dra kill:List Nat}{s:TS F}{ks:Ks}{v:TLS F ks}(hs:(ks.all λk=>(dI k.2 (look s.E k.1)).isSome)=true){y:Nat}{d:Dat F}(h:look (merge nv dra kill s ks v).E y=some d):look s.E y=some d:=by
 have h:look ((unpS s.E ks v s.c).1++s.E.filter λp=>Nat.blt p.1 nv&&!(memN p.1 dra)) y=some d:=h;rw[aS]at h
 cases hl:look (unpS s.E ks v s.c).1 y with
 | some d'=>rw[hl]at h;cases h;exact wF hs y _ hl
 | none=>
  rw[hl,Option.none_or,aD (λy=>Nat.blt y nv&&!(memN y dra))]at h;split at h
  ·exact h
  ·cases h
theorem qK{s:TS F}(h:noLnM s=true):∀id B,look s.M id=some B→noLnB B=true:=λid B hB=>List.all_eq_true.1 h (id,B) (nA hB)
theorem Fi{s:TS F}(h:noLnS s=true):(∀x d,look s.E x=some d→noLnD d=true)∧∀id B,look s.M id=some B→noLnB B=true:=by simp only[noLnS,Bool.and_eq_true]at h;exact⟨λx d hx=>List.all_eq_true.1 h.1 (x,d) (nA hx),qK h.2⟩
theorem Frm.foreign{own:Ow}{W0 w w':World}(h:Frm own W0 w)(hos:w'.os=w.os)(ht:w'.tape=w.tape)(ho:w'.output=w.output)(hd:w.drawn≤w'.drawn)(hsz:w.heap.size≤w'.heap.size)(X:Nat→Prop)(hX:∀b,X b→own.o b)(hs:∀b,b<w.heap.size→¬ X b→w'.heap[b]? = w.heap[b]?):Frm own W0 w':=
 ⟨hos.trans h.os,ht.trans h.tape,ho.trans h.output,Nat.le_trans h.size hsz,h.fresh,λb hb hn=>(hs b (Nat.lt_of_lt_of_le hb h.size) (λhx=>hn (hX b hx))).trans (h.block b hb hn),Nat.le_trans h.drawn hd⟩
structure RfI(P:Program)(own:Ow)(Wc:World)(n nv:Nat)(gB:G)(X:Nat→Prop)(a3:Act)(sB:TS F)(dra kill:List Nat)(ks0:Ks)(t:TLS F ks0)(w:World):Prop where
 good:∃g,Good P (own.aside gB X) w n (merge nv dra kill sB ks0 t).st g a3 w∧∀b,¬ g.len b
 frm:Frm own Wc w
 m:∀q∈(unpS sB.E ks0 t sB.c).2.1,sB.c≤q.1∨q.1∈kill
 e:∀y,y∉keysOf ks0→look (unpS sB.E ks0 t sB.c).1 y=none
 c:sB.c≤(unpS sB.E ks0 t sB.c).2.2
variable{T:TypeId→Option (TI F)}{Γ : Ctx F}{nv n:Nat}{own:Ow}{Wc WB:World}{gB:G}{X:Nat→Prop}{a3:Act}{sB:TS F}{dra kill:List Nat}{ks0:Ks}{w:World}
theorem Jp(hbase:Good P (own.aside gB X) WB n sB.st gB a3 WB)(hpE:∀x d,look sB.E x=some d→∃i off,d = .c (.ptr i off)){g:G}{w:World}(hn:∀id p,gB.ids id=some p→g.ids id=some p){x:Nat}{d:Dat F}(h:look sB.E x=some d):RepD P g w d (a3.tmps.getD x undef):=by obtain⟨i,off,rfl⟩:=hpE x d h;obtain⟨b,c,h1,h2⟩:=bh (hbase.env x _ h);rw[h2];exact .c (.ptr (hn _ _ h1))
theorem Db(hpE:∀x d,look sB.E x=some d→∃i off,d = .c (.ptr i off)){x:Nat}{d:Dat F}(h:look sB.E x=some d):noLnD d=true:=by obtain⟨i,off,rfl⟩:=hpE x d h;rfl
theorem Fe(hΓ : CtxOk P Γ)(hbase:Good P (own.aside gB X) WB n sB.st gB a3 WB)(hd3:a3.defers = [])(ht3:a3.tmps.size=n)(hpE:∀x d,look sB.E x=some d→∃i off,d = .c (.ptr i off))(hsame:(ks0.all λk=>(dI k.2 (look sB.E k.1)).isSome)=true)(hk:∀y∈keysOf ks0,y∈dra)
  {z:TS F} {g:G} {a:Act} {w w':World} {W2:World} (hz:Good P (own.aside gB X) W2 n z.st g a w) (hE:∀x,x<nv→x∉dra→x∉z.dE→look z.E x=look sB.E x) (hM:∀id,id<sB.c→id∉kill→id∉z.dM→look z.M id=look sB.M id)
  {t:TLS F ks0} (hp:packX Γ sB dra sB.c kill ks0 z=some t) (hnl:noLnM (merge nv dra kill sB ks0 t)=true)
  (hsz:w.heap.size≤w'.heap.size) (hd:w.drawn≤w'.drawn) (L:Nat→Prop) (hL:∀b,L b→X b∧¬ own.i b) (hs:∀b,b<w.heap.size→¬ L b→w'.heap[b]? = w.heap[b]?) (hf:∀b,w'.heap.size≤b→(own.aside gB X).o b) (hfrm:Frm own Wc w') :
  RfI P own Wc n nv gB X a3 sB dra kill ks0 t w':=by
 obtain⟨⟨g',k1⟩,q1,q2,q3⟩:=zZ (nv:=nv) hΓ hbase hz hE hM hp;have k2:=k1.noLen (λx d hx=>Db hpE (xo hsame hx)) (qK hnl);have k3:Good P (own.aside gB X) _ n (merge nv dra kill sB ks0 t).st g'.noLen a3 w:=k2.env' hd3 ht3 (λx d hx=>Jp hbase hpE (λid p h=>k2.nam id p h) (xo hsame hx)) (λ_ _ h=>h) (λ_ h=>h);exact⟨⟨g'.noLen,k3.world (λ_ h=>h) hsz hd L (λb hb=>⟨λhh=>hh.2 (hL b hb).1,(hL b hb).2⟩) hs hf,λ_ h=>h⟩,hfrm,q1,q2,q3⟩
end
set_option linter.unusedVariables false
set_option linter.unusedSimpArgs false
section
variable{F:Fam}{P:Program}{T:TypeId→Option (TI F)}{Γ : Ctx F}{nv n:Nat}{own:Ow}{Wc WB:World}{gB:G}{X:Nat→Prop}{a3:Act}{sB:TS F}{dra kill:List Nat}{ks0:Ks}{w:World}
theorem yW{t:TLS F ks0}(hm:∀q∈(unpS sB.E ks0 t sB.c).2.1,sB.c≤q.1∨q.1∈kill){id:Nat}(hi:id<sB.c)(hk:id∉kill):look (merge nv dra kill sB ks0 t).M id=look sB.M id:=by
 show look ((unpS sB.E ks0 t sB.c).2.1++sB.M.filter λp=>!(memN p.1 kill)) id=_;rw[aS,xW hi hk hm,Option.none_or,aD (λy=>!(memN y kill)),if_pos]
 cases h:memN id kill with
 | true=>exact absurd (aF.1 h) hk
 | false=>rfl
theorem Ej{t:TLS F ks0}(he:∀y,y∉keysOf ks0→look (unpS sB.E ks0 t sB.c).1 y=none)(hk:∀y∈keysOf ks0,y∈dra){x:Nat}(hx:x<nv)(hn:x∉dra):look (merge nv dra kill sB ks0 t).E x=look sB.E x:=by
 show look ((unpS sB.E ks0 t sB.c).1++sB.E.filter λp=>Nat.blt p.1 nv&&!(memN p.1 dra)) x=_;rw[aS,he x (λh=>hn (hk x h)),Option.none_or,aD (λy=>Nat.blt y nv&&!(memN y dra)),if_pos];rw[Nat.blt_eq.mpr hx]
 cases h:memN x dra with
 | true=>exact absurd (aF.1 h) hn
 | false=>rfl
theorem Hv(hT:TblOk P T)(hΓ : CtxOk P Γ)(hmix:P.follows .mixedOrders=true)(hbase:Good P (own.aside gB X) WB n sB.st gB a3 WB)(hd3:a3.defers = [])(ht3:a3.tmps.size=n)(hpE:∀x d,look sB.E x=some d→∃i off,d = .c (.ptr i off))
  (hsame:(ks0.all λk=>(dI k.2 (look sB.E k.1)).isSome)=true) (hk:∀y∈keysOf ks0,y∈dra) {q:RfC} {h:Hint} {te:TypeId} {ti:TI F} (hti:T te=some ti) (hag:dl ti.desc=true) {tt:Ty} {l:List (ET F tt)} {x:ET F tt} {k:Nat} (hx:l[k]? = some x) {t t':TLS F ks0}
  (hstep:AY T Γ nv n q h te sB dra kill ks0 tt x t=some t') (hdA:noDef q.assign=true) (hdB:noDef q.body=true) (hh:hintN h=true) (hpi:look sB.E q.pi=none) (hpx:look sB.E q.px=none) (hpd:q.px∈dra) (hpne:q.pi≠q.px) (hpn:q.px<n)
  {id b cap:Nat} {nn:Nat×NS} (hidM:look sB.M id=some (.fro tt l)) (hidk:id∉kill) (hidc:id<sB.c) (hidn:gB.ids id=some (some (b,cap,nn))) (hszT:szT F tt=ti.size)
  {L D fnn:Nat} {rec:LoopState→Loop} (hrec:rec = λst=>{ state:=st,pending:=none,fn:=fnn,tmps:=a3.tmps,params:=#[q.pi,q.px],assign:=q.assign,body:=q.body,defers:=D })
  (hXL:X L) (hiL:¬ own.i L) (hoX:∀b,X b→own.o b) {wk:World} (hI:RfI P own Wc n nv gB X a3 sB dra kill ks0 t wk) (hL:wk.heap[L]? = some (.loop (rec .ready))) :
  ∃fv:Nat→Value,(∀j,j<ti.size→wk.cell? ⟨b,k*szT F tt+j,none⟩=some (fv j))∧YieldAt Fence.wide 0 P L #[.int .i64 (k:Nat),.agg ⟨(List.range ti.size).map fv⟩] wk λe w'=>e = .returned (.bool true)∧RfI P own Wc n nv gB X a3 sB dra kill ks0 t' w'∧w'.heap[L]? = some (.loop (rec .ready))∧∀y,X y→y≠L→y<wk.heap.size→w'.heap[y]? = wk.heap[y]?:=by
 obtain⟨⟨g,hg,hgl⟩,hfrm,hm,he,hc⟩:=hI
 have hMid:look (merge nv dra kill sB ks0 t).M id=some (.fro tt l):=by rw[yW hm hidc hidk];exact hidM
 have hgid:g.ids id=some (some (b,cap,nn)):=hg.nam _ _ hidn;obtain⟨_,_,_,_,_,hcells⟩:=ph hg.mem hMid hgid;unfold AY at hstep;rw[hti]at hstep;dsimp only at hstep;split at hstep
 ·cases hstep
 rename_i d hd
 obtain⟨xv,hxv,hrep⟩:=cD (P:=P) (g:=g) (w:=wk) hT hti hd (b:=b) (q:=k*szT F tt) (by intro j c hj;obtain⟨dd,hdd,rfl⟩:=fu hj;obtain⟨y,y1,y2⟩:=hcells _ _ (aM hx hdd);exact⟨y,y1,.im y2⟩)
 rw[Nat.add_zero]at hxv
 have hfv:∀j,j<ti.size→wk.cell? ⟨b,k*szT F tt+j,none⟩=some ((wk.cell? ⟨b,k*szT F tt+j,none⟩).getD undef):=by
  intro j hj
  have hjl:j<(encT F tt x).length:=by rw[aN,hszT];exact hj
  obtain⟨y,y1,_⟩:=hcells _ _ (aM hx (LP hjl));rw[y1];rfl
 have hxe:=Iz (P:=P) hT hti hag (b:=b) (q:=k*szT F tt) (w:=wk) hfv;rw[hxv]at hxe
 injection hxe with hxe _
 refine⟨_,hfv,?_⟩;rw[← hxe]
 refine⟨fnn,_,q.assign,q.body,by have:=run_yield (P:=P) (args:=#[.int .i64 (k:Nat),xv]) hL (by rw[hrec];rfl);rw[hrec]at this;exact this,?_⟩
 have hLs:L<wk.heap.size:=(Array.getElem?_eq_some_iff.1 hL).1;refine roundIn_of_wpIn (F:=Fence.wide) (n:=0) trivial ?_;generalize haR:({ tmps:=_,defers:=[] }:Act)=aR
 have haR:aR=({ tmps:=(a3.tmps.setIfInBounds q.pi (.int .i64 (k:Nat))).setIfInBounds q.px xv,defers:=[] }:Act):=by rw[← haR];simp
 have hsR:aR.tmps.size=n:=by rw[haR];simp[ht3]
 have hgR:Good P (own.aside gB X) wk n (rfIn (merge nv dra kill sB ks0 t) q.px d).st g aR wk:=by
  refine hg.env' (by rw[haR]) hsR (λy e hy=>?_) (λ_ _ h=>h) (λ_ h=>h)
  simp only[TS.st,rfIn,ar]at hy;rw[haR];dsimp only;rw[Array.getD_eq_getD_getElem?,Array.getElem?_setIfInBounds];by_cases hyx:q.px=y
  ·subst hyx;rw[aV]at hy;simp only[if_true,Option.some.injEq]at hy;subst hy
   rw[if_pos rfl,if_pos (by simpa[ht3]using hpn)]
   exact hrep
  ·rw[am hyx]at hy;rw[if_neg hyx,Array.getElem?_setIfInBounds]
   have hy':look (merge nv dra kill sB ks0 t).E y=some e:=by simpa using hy
   have hys:=xo hsame hy'
   have hyi:q.pi≠y:=by rintro rfl;rw[hpi]at hys;cases hys
   rw[if_neg hyi,← Array.getD_eq_getD_getElem?];exact hg.env y e hy'
 refine wpIn_mono (tAuto_in (lr:=L) (m:=0) hT hΓ hmix q.assign hdA _ _ t' hstep g aR wk hgR) ?_;rintro e1 a1 w1 ⟨i,s1,g1,rfl,h2,h3,h4⟩;obtain⟨hc1,h2b⟩:=aI h2;simp only[Bool.and_eq_true]at hc1;have hi0:=Nat.eq_of_beq_eq_true hc1.1;subst hi0;obtain⟨hnE1,hnM1⟩:=Fi hc1.2;simp only[exC,Exit.then];have hoo:∀y,X y→¬ (own.aside gB X).o y:=λy hy hh=>hh.2 hy;have hX1:∀y,X y→y<wk.heap.size→w1.heap[y]? = wk.heap[y]?:=λy hy hlt=>h4.frm.block y hlt (hoo y hy);have hL1:w1.heap[L]? = some (.loop (rec .ready)):=(hX1 L hXL hLs).trans hL
 refine⟨_,run_beginRound hL1 (by rw[hrec]),?_⟩
 generalize hW2:w1.putObj L (.loop { rec .ready with state:=.busy })=w2
 have hs2:w2.heap.size=w1.heap.size:=by rw[← hW2];simp only[World.putObj,Array.size_setIfInBounds]
 have hot2:∀y,y≠L→w2.heap[y]? = w1.heap[y]?:=λy hy=>by rw[← hW2,World.putObj_heap_other hy]
 have hLs1:L<w1.heap.size:=(Array.getElem?_eq_some_iff.1 hL1).1
 have hL2:w2.heap[L]? = some (.loop { rec .ready with state:=.busy }):=by rw[← hW2];exact World.putObj_heap_same hLs1
 have hg2:Good P (own.aside gB X) w2 n s1.st g1.noLen a1 w2:=by
  refine(h4.noLen hnE1 hnM1).world (λ_ h=>h) (Nat.le_of_eq hs2.symm) (by rw[← hW2];exact Nat.le_refl _) (λy=>y=L) (λy hy=>⟨by rw[hy];exact hoo L hXL,by rw[hy];exact hiL⟩) (λy hy hn=>hot2 y hn) (λy hy=>h4.frm.fresh y ?_)
  exact Nat.le_trans (h4.frm.size) (by rw[← hs2];exact hy)
 have hf2:Frm own Wc w2:=(hfrm.aside h4.frm).foreign (by rw[← hW2];rfl) (by rw[← hW2];rfl) (by rw[← hW2];rfl) (by rw[← hW2];exact Nat.le_refl _) (Nat.le_of_eq hs2.symm) (λy=>y=L) (λy hy=>by rw[hy];exact hoX L hXL) (λy _ hn=>hot2 y hn)
 refine wpIn_mono (I6 (lr:=L) (m:=0) hT hΓ hmix h hh q.body hdB _ _ t' h2b _ _ _ hg2) ?_;rintro e5 a5 w5 ⟨i,s5,g5,rfl,k2,k3,k4⟩;obtain⟨hc5,k2b⟩:=aI k2;have hi0:=Nat.eq_of_beq_eq_true hc5;subst hi0;split at k2b
 ·cases k2b
 rename_i t2 hp;obtain⟨hnl,k2c⟩:=aI k2b;cases k2c;simp only[exC,roundPost];have hX5:∀y,X y→y<w2.heap.size→w5.heap[y]? = w2.heap[y]?:=λy hy hlt=>k4.frm.block y hlt (hoo y hy)
 have hL5:w5.heap[L]? = some (.loop { rec .ready with state:=.busy }):=(hX5 L hXL (by omega)).trans hL2
 refine⟨_,_,run_endRound none hL5,rfl,?_⟩
 have hob:({ { rec .ready with state:=.busy }with state:=if(none:Option Code).isNone then .ready else .done,pending:=none }:Loop)=rec .ready:=by rw[hrec];rfl
 rw[hob];generalize hW6:w5.putObj L (.loop (rec .ready))=w6
 have hs6:w6.heap.size=w5.heap.size:=by rw[← hW6];simp only[World.putObj,Array.size_setIfInBounds]
 have hot6:∀y,y≠L→w6.heap[y]? = w5.heap[y]?:=λy hy=>by rw[← hW6,World.putObj_heap_other hy]
 have hLs5:L<w5.heap.size:=(Array.getElem?_eq_some_iff.1 hL5).1
 refine⟨?_,by rw[← hW6];exact World.putObj_heap_same hLs5,λy hy hne hlt=>?_⟩
 ·refine Fe hΓ hbase hd3 ht3 hpE hsame hk k4 (λy hy hn hd=>?_) (λy hy hn hd=>?_) hp hnl (Nat.le_of_eq hs6.symm) (by rw[← hW6];exact Nat.le_refl _) (λy=>y=L) (λy hy=>⟨by rw[hy];exact hXL,by rw[hy];exact hiL⟩) (λy _ hn=>hot6 y hn) (λy hy=>k4.frm.fresh y (Nat.le_trans k4.frm.size (by rw[← hs6];exact hy))) ?_
  ·rw[k3.e y hy hd,h3.e y hy (λhh=>hd (k3.dE y hh))];simp only[rfIn,ar];rw[am (λ(e:q.px=y)=>hn (e▸hpd))];exact Ej he hk hy hn
  ·have hc1:sB.c≤s1.c:=Nat.le_trans hc h3.c
   rw[k3.m y (by omega) hd,h3.m y (Nat.lt_of_lt_of_le hy hc) (λhh=>hd (k3.dM y hh))]
   exact yW (nv:=nv) (dra:=dra) hm hy hn
  ·exact(hf2.aside k4.frm).foreign (by rw[← hW6];rfl) (by rw[← hW6];rfl) (by rw[← hW6];rfl) (by rw[← hW6];exact Nat.le_refl _) (Nat.le_of_eq hs6.symm) (λy=>y=L) (λy hy=>by rw[hy];exact hoX L hXL) (λy _ hn=>hot6 y hn)
 ·have h1lt:y<w1.heap.size:=Nat.lt_of_lt_of_le hlt h4.frm.size
  rw[hot6 y hne,hX5 y hy (by omega),hot2 y hne,hX1 y hy hlt]
end
set_option linter.unusedVariables false
set_option linter.unusedSimpArgs false
section
variable{F:Fam}{P:Program}{T:TypeId→Option (TI F)}{Γ : Ctx F}{nv:Nat}
theorem LJ (hT : TblOk P T) (hΓ : CtxOk P Γ) (hmix : P.follows .mixedOrders = true) {f fB fC : FuncId} {fn : Func} {sp : Spec F} {te tsl : TypeId} {ks0 : Ks} {dr0 : List Nat} {h : Hint} (hf : P.funcs[f]? = some fn) (hnm : (fn.name == "runtime.NumGoroutine") = false) (hbn : fn.body.isNone = false) (hlen : Nat.ble sp.ks.length fn.ntmps = true)
  (hrs:sp.rs.all (λk=>!k.isBox)=true) (hentB:bc P fB) (hentC:bc P fC)
  (hB:∀(p:Option Addr)(n cap:Nat)(w:World),Calls P fB #[.slice p n cap] w λe w'=>e = .returned (.func (.func fC) #[] #[.pointer (some ⟨w.heap.size,0,none⟩)])∧w'=w.alloc (.cells #[.slice p n cap] tsl (0,0)))
  (hC:∀ti,T te=some ti→Du P fC te ti.size)
  (hD:∀a r,sp.D a=some r→DT T Γ nv fn fB te ks0 dr0 h sp.ks sp.rs a=some r):FnOk P f sp:=by
 refine⟨⟨fn,hf,hnm,hbn⟩,?_⟩;intro a r hr imm w vs pls bxs hheld hpl himm;have hd:=hD a r hr;unfold DT at hd;split at hd
 ·cases hd
 rename_i body hbody;split at hd
 ·cases hd
 rename_i q hq;obtain⟨i0,i1,ib,i8,rfl⟩:=FU hq;split at hd
 ·cases hd
 rename_i pre oB hil;have hops1:=yV hil;split at hd
 ·cases hd
 rename_i e he;obtain⟨od,og,ats,oo⟩:=FC he;obtain⟨hc,hd⟩:=aI hd;simp only[Bool.and_eq_true,Nat.blt_eq,Bool.not_eq_true',and_assoc]at hc;obtain⟨hc1,hc2,hlt,hlti,hltx,hne,hdA,hdB,hhN⟩:=hc;have hc1:=Nat.eq_of_beq_eq_true hc1;have hc2:=Nat.eq_of_beq_eq_true hc2
 have hpne:q.pi≠q.px:=λe=>by rw[e,aV]at hne;cases hne
 dsimp only at hd;obtain⟨hsafe,hd⟩:=aI hd;obtain⟨g0,hgood,h4⟩:=FE (fn:=fn) hlen hsafe hheld hpl himm;generalize hown:(⟨λb=>b∈plBlks pls∨w.heap.size≤b,imm,(G.at0 0 pls imm).ids⟩:Ow)=own at hgood;refine callsIn_wide.1 (callsIn_of_wp_marks (F:=Fence.wide) (n:=1) hf hbody trivial ((wpIn_wide).2 ?_));refine wp_seq (FH (id:=i0) hT hΓ hd hgood ?_);intro s1 g1 a1 w1 hd1 _ hg1;simp only[Exit.then];refine wp_seq (wp_seq (wp_region ?_));obtain⟨z,tr,hd2,t1,t2,t3,t4,t5⟩:=qX hT hΓ hd1;split at hd2
 rotate_left
 ·cases hd2
 rename_i id hx;split at hd2
 rotate_left
 ·cases hd2
 rename_i tt l ti hrow hti;obtain⟨hc3,hd3⟩:=aI hd2;simp only[Bool.and_eq_true,and_assoc,Option.isNone_iff_eq_none,Nat.blt_eq]at hc3;obtain⟨e1,e2,e3,e4,e5,e6,e7,e8,e9⟩:=hc3;have hszT:=Nat.eq_of_beq_eq_true e1;generalize hdra:dr0++keysOf ks0=dra at *
 have hkd:∀y∈keysOf ks0,y∈dra:=λy hy=>by rw[← hdra];simp[hy]
 generalize hsB:rfB z q.t id tt l=sB at *;generalize hkill:aG sB dra=kill at *
 have hidk:id∉kill:=λhm=>by rw[aF.2 hm]at e2;cases e2
 have hpd:q.px∈dra:=aF.1 e8
 have hcB:sB.c=z.c:=by rw[← hsB];rfl
 split at hd3
 ·cases hd3
 rename_i t0 ht0;obtain⟨hnl0,hd3⟩:=aI hd3;obtain⟨v,hv,hd4⟩:=Option.bind_eq_some_iff.1 hd3
 have hlen1:q.ops1.size=tr.length+1:=by rw[← Array.length_toList,hops1,← t1];simp
 rw[hlen1,List.range_succ,List.range_eq_range'];refine Ct _ _ ?_;refine Ac (opsA:=q.ops1) rfl tr 0 _ z.st (λj t0 hj=>?_) t2 t3 hg1 ?_
 ·have hjl:=(LQ.1 hj).1
  rw[Nat.zero_add,← Array.getElem?_toList,hops1,← t1,List.getElem?_append_left (by simpa using hjl),List.getElem?_map,hj]
  rfl
 intro g2 a2 w2 hg2;simp only[Exit.then]
 have hval:∃p cap,a2.eval (.tmp e.x) = .slice p l.length cap∧l.length≤maxLen∧((l = [])∨∃b,p=some ⟨b,0,none⟩∧g2.ids id=some (some (b,cap,l.length,[]))):=by
  rcases aU (aO (hg2.env _ _ hx))with⟨hi,p,hvv⟩ | ⟨b,cap,n',hi,h1,h2,hvv⟩
  ·rcases hg2.mem.ok id _ hrow with⟨r1,r2⟩ | ⟨b',cap',cur,ee,r1,_⟩
   ·subst r2;exact⟨p,_,hvv,Nat.zero_le _,.inl rfl⟩
   ·rw[hi]at r1;cases r1
  ·rcases hg2.mem.ok id _ hrow with⟨r1,_⟩ | ⟨b',cap',cur,ee,r1,_⟩
   ·rw[hi]at r1;cases r1
   ·rw[hi]at r1;cases r1;exact⟨_,_,hvv,Nat.le_trans h1 h2,.inr ⟨_,rfl,hi⟩⟩
 obtain⟨p,cap,hval,hmax,hpl2⟩:=hval
 have hilast:q.ops1[tr.length]? = some oB:=by rw[← Array.getElem?_toList,hops1,← t1];simp
 rw[wpOps_cons];unfold wpOp;rw[hilast];dsimp only
 rw[show Region.wanted oB (yielded q.ops1 a2.tmps)=true by simp[Region.wanted,og],if_pos rfl]
 left;unfold Oper.wp
 have hcr:=vr (P:=P) (a:=a2) (w:=w2) (f:=fB) (fs:=[]) (cs:=[]) oo (by rw[← hc2];rfl) hentB
 rw[hcr];simp only[Oper.upon,List.map_cons,List.map_nil,List.nil_append,List.append_nil,hval];refine(hB p l.length cap w2).mono ?_;rintro e3' w3 ⟨rfl,rfl⟩;simp only[wpOps,od];generalize hw3:w2.alloc (.cells #[.slice p l.length cap] tsl (0,0))=w3
 have hs3:w3.heap.size=w2.heap.size+1:=by rw[← hw3,World.size_alloc]
 have hb3:w3.heap[w2.heap.size]? = some (.cells #[.slice p l.length cap] tsl (0,0)):=by rw[← hw3];exact heap_alloc_new w2 _
 have hold3:∀b,b<w2.heap.size→w3.heap[b]? = w2.heap[b]?:=λb hb=>by rw[← hw3];exact heap_alloc_old w2 _ hb
 generalize ha3:a2.put (some e.t) (.func (.func fC) #[] #[.pointer (some ⟨w2.heap.size,0,none⟩)])=a3
 have hd3':a3.defers = []:=by rw[← ha3];exact hg2.dfr
 have ht3':a3.tmps.size=fn.ntmps:=by rw[← ha3];simp[Act.put,hg2.tsz]
 simp only[Exit.then];refine wp_block ((wpIn_wide (n:=1)).1 (wpIn_rangeFunc ?_));intro fnn _
 have hga:a3.eval (.tmp q.t) = .func (.func fC) #[] #[.pointer (some ⟨w2.heap.size,0,none⟩)]:=by
  rw[← ha3,hc1,qY (by rw[hg2.tsz];exact hlt)]
 obtain⟨rec,hrec⟩:∃rec:LoopState→Loop,rec = λst=>{ state:=st,pending:=none,fn:=fnn,tmps:=a3.tmps,params:=#[q.pi,q.px],assign:=q.assign,body:=q.body,defers:=w3.heap.size }:=⟨_,rfl⟩;obtain⟨W1,hW1⟩:∃W1,(w3.alloc (.deferred (some []))).alloc (.loop (rec .ready))=W1:=⟨_,rfl⟩
 have hsW:W1.heap.size=w3.heap.size+2:=by rw[← hW1,World.size_alloc,World.size_alloc]
 have hL1:W1.heap[w3.heap.size+1]? = some (.loop (rec .ready)):=by
  rw[← hW1];have:=heap_alloc_new (w3.alloc (.deferred (some []))) (.loop (rec .ready))
  rwa [World.size_alloc]at this
 have hD1:W1.heap[w3.heap.size]? = some (.deferred (some [])):=by
  rw[← hW1,heap_alloc_old _ _ (by rw[World.size_alloc];omega)]
  exact heap_alloc_new w3 _
 have holdW:∀b,b<w3.heap.size→W1.heap[b]? = w3.heap[b]?:=by
  intro b hb
  rw[← hW1,heap_alloc_old _ _ (by rw[World.size_alloc];omega)]
  exact heap_alloc_old w3 _ hb
 refine⟨w3.heap.size+1,[{ target:=.collected w3.heap.size,args:=#[] }],W1,{ target:=.fn (.func fC) #[.pointer (some ⟨w2.heap.size,0,none⟩)],args:=#[.func (.yield (w3.heap.size+1)) #[] #[]] },W1,fC,
  #[.func (.yield (w3.heap.size+1)) #[] #[]]++#[.pointer (some ⟨w2.heap.size,0,none⟩)],W1,?_,?_,?_,?_,?_,?_⟩
 ·rw[← hW1,hrec];exact run_enterLoop_outer _ _ _ _ _
 ·simp only[resolve,hga];simp[go_sem]
 ·intro f' _;trivial
 ·simp[invoke,go_sem,xx hentC]
 ·intro h;cases h
 have hfz:=freeze hg2.mem (λ_ _ h=>h) (ids:=[id]) (λid' hid'=>by rw[LS]at hid';subst hid';exact .inl ⟨tt,l,.inl hrow⟩)
 have hpE:∀x d,look sB.E x=some d→∃i off,d = .c (.ptr i off):=λx d hxd=>by rw[← hsB]at hxd;exact(m8 hxd).2.2
 have hidM:look sB.M id=some (.fro tt l):=by rw[← hsB];simp[rfB,ar]
 have hgB:Good P own w fn.ntmps sB.st (g2.fzs [id]).noLen a3 w2:=by
  have h1:Good P own w fn.ntmps sB.st (g2.fzs [id]) a3 w2:=by
   refine⟨hd3',ht3',λx d hxd=>?_,hfz.sub λy B hy=>?_,λy hy=>hg2.dom y (by simp only[TS.st,hcB]at hy;exact hy),λb hb=>.inl (hg2.ini b hb),hg2.frm,hg2.nam⟩
   ·rw[← hsB]at hxd;obtain⟨h1,h2,_⟩:=m8 hxd
    rw[← ha3,putD,if_neg (λe'=>h1 (by rw[← e',hc1]))]
    exact(hg2.env x d h2).le (pa _ _ _)
   ·rw[← hsB]at hy;simp only[TS.st,rfB,ar]at hy;rw[gc];by_cases hyi:id=y
    ·subst hyi;rw[aV]at hy;simp only[if_true,Option.some.injEq]at hy
     rw[if_pos (by simp),show frzB z.st.m _ id=some (.fro tt l)from zh hrow,hy]
    ·rw[am hyi,aD (λy=>!(Nat.beq id y))]at hy;simp only[Bool.false_eq_true,if_false]at hy
     rw[if_neg (by simp;exactλe=>hyi e.symm)]
     split at hy
     ·exact hy
     ·cases hy
  exact h1.noLen (λx d hxd=>Db hpE hxd) (qK e7)
 have hfrm1:Frm own w W1:=hg2.frm.foreign (by rw[← hW1,← hw3];rfl) (by rw[← hW1,← hw3];rfl) (by rw[← hW1,← hw3];rfl) (by rw[← hW1,← hw3];exact Nat.le_refl _) (by omega) (λ_=>False) (λ_ h=>h.elim) (λb hb _=>by rw[holdW b (by omega),hold3 b hb])
 have hgB1:Good P own W1 fn.ntmps sB.st (g2.fzs [id]).noLen a3 W1:=hgB.world (λ_ h=>h) (by omega) (by rw[← hW1,← hw3];exact Nat.le_refl _) (λ_=>False) (λ_ h=>h.elim) (λb hb _=>by rw[holdW b (by omega),hold3 b hb]) (λb hb=>hg2.frm.fresh b (Nat.le_trans hg2.frm.size (by omega)))
 generalize hXd:(λb=>b=w2.heap.size∨b=w3.heap.size∨b=w3.heap.size+1)=X
 have hXge:∀b,X b→w2.heap.size≤b∧b<W1.heap.size:=λb hb=>by
  rw[← hXd]at hb
  rcases hb with rfl | rfl | rfl<;>omega
 have himmlt:∀b,(g2.fzs [id]).noLen.imm b→b<w2.heap.size:=λb hb=>hgB.mem.imm b hb
 have hbase:Good P (own.aside (g2.fzs [id]).noLen X) W1 fn.ntmps sB.st (g2.fzs [id]).noLen a3 W1:=hgB1.aside (λ_ h=>h) X (λb hb=>⟨λid' B hB ho hbb=>by
   have:=(hgB.mem.ok id' B hB).place hgB.mem.imm (Blk.noAls ho) hbb;have:=(hXge b hb).1
   omega,λhh=>by have:=himmlt b hh;have:=(hXge b hb).1;omega⟩) (λb hb=>(hXge b hb).2)
 have hiX:∀b,X b→¬ own.i b:=λb hb hi=>by have:=himmlt b (.inl (hg2.ini b hi));have:=(hXge b hb).1;omega
 have hoX:∀b,X b→own.o b:=λb hb=>hg2.frm.fresh b (Nat.le_trans hg2.frm.size (hXge b hb).1)
 have hXb:X w2.heap.size:=by rw[← hXd];exact .inl rfl
 have hXD:X w3.heap.size:=by rw[← hXd];exact .inr (.inl rfl)
 have hXL:X (w3.heap.size+1):=by rw[← hXd];exact .inr (.inr rfl)
 have hI0:RfI P own w fn.ntmps nv (g2.fzs [id]).noLen X a3 sB dra kill ks0 t0 W1:=by
  refine Fe hΓ hbase hd3' ht3' hpE e3 hkd hbase (λ_ _ _ _=>rfl) (λ_ _ _ _=>rfl) (by rw[hcB];exact ht0) hnl0 (Nat.le_refl _) (Nat.le_refl _) (λ_=>False) (λ_ h=>h.elim) (λ_ _ _=>rfl) (λb hb=>hbase.frm.fresh b hb) hfrm1
 have hcapt:W1.heap[w2.heap.size]? = some (.cells #[.slice p l.length cap] tsl (0,0)):=by rw[holdW _ (by omega)];exact hb3
 refine callsIn_wide.2 ((callsIn_wide (n:=1)).1 ((hC ti hti (w3.heap.size+1) w2.heap.size l.length cap p (λk wk=>∃t,rgB (AY T Γ nv fn.ntmps q h te sB dra kill ks0 tt) (l.take k) t=some v∧RfI P own w fn.ntmps nv (g2.fzs [id]).noLen X a3 sB dra kill ks0 t wk∧wk.heap[w3.heap.size+1]? = some (.loop (rec .ready))∧(∀y,X y→y≠w3.heap.size+1→wk.heap[y]? = W1.heap[y]?)) W1 hmax ?_ ?_ ?_ ?_ ?_).mono ?_))
 ·rcases hpl2 with hh | ⟨b,hh,_⟩
  ·left;rw[hh];rfl
  ·exact .inr ⟨b,hh⟩
 ·rintro k wk ⟨t,_,_,_,hx4⟩
  exact hx4 _ hXb (by omega)
 ·simp[World.cell?,hcapt]
 ·rintro k wk ⟨t,hr1,hI,hLk,hXk⟩ hkl b hpb;have hlk:l[k]? = some l[k]:=LP hkl;rw[← List.take_append_getElem hkl,D5,Option.bind_eq_some_iff]at hr1;obtain⟨t',hst,hr2⟩:=hr1
  have hidn:g2.ids id=some (some (b,cap,l.length,[])):=by
   rcases hpl2 with hh | ⟨b',hh,hi⟩
   ·rw[hh]at hkl;simp at hkl
   ·rw[hpb]at hh;cases hh;exact hi
  obtain⟨xv,q1,fq,tq,aq,bq,q2,q3⟩:=Hv (k:=k) hT hΓ hmix hbase hd3' ht3' hpE e3 hkd hti e9 hlk hst hdA hdB hhN e4 e5 hpd hpne hltx hidM hidk (by rw[hcB];exact e6) (b:=b) (cap:=cap) (nn:=(l.length,[])) hidn hszT hrec hXL (hiX _ hXL) hoX hI hLk
  refine⟨xv,by rw[← hszT]at q1 ⊢;exact q1,fq,tq,aq,bq,q2,q3.mono ?_⟩
  rintro e' w' ⟨h1,h2,h3,h5⟩;refine⟨h1,t',hr2,h2,h3,λy hy hn=>?_⟩;rw[h5 y hy hn ?_,hXk y hy hn];obtain⟨⟨gg,hgg,_⟩,_⟩:=hI;have h7:wk.heap[y]? = W1.heap[y]?:=hXk y hy hn;have h8:=(hXge y hy).2;rw[Array.getElem?_eq_getElem h8]at h7;exact(Array.getElem?_eq_some_iff.1 h7).1
 ·exact⟨t0,by rw[List.take_length];exact hv,hI0,hL1,λ_ _ _=>rfl⟩
 rintro e4' w4' ⟨⟨v4,rfl⟩,t,hr1,hI,hLk,hXk⟩
 have htv:t=v:=by simpa[rgB]using hr1
 subst htv
 refine⟨none,_,by have:=run_endLoop (P:=P) hLk (by rw[hrec];simp);rw[hrec]at this;exact this,?_⟩
 simp only[Exit.inBlock,Exit.then,List.cons_append,List.nil_append];generalize hw4:w4'.putObj (w3.heap.size+1) _=w4
 have hs4:w4.heap.size=w4'.heap.size:=by rw[← hw4];simp only[World.putObj,Array.size_setIfInBounds]
 have hot4:∀y,y≠w3.heap.size+1→w4.heap[y]? = w4'.heap[y]?:=λy hy=>by rw[← hw4,World.putObj_heap_other hy]
 obtain⟨⟨g4,hg4,hgl4⟩,hfrm4',_,_,_⟩:=hI
 have hfrm4:Frm own w w4:=hfrm4'.foreign (by rw[← hw4];rfl) (by rw[← hw4];rfl) (by rw[← hw4];rfl) (by rw[← hw4];exact Nat.le_refl _) (Nat.le_of_eq hs4.symm) (λy=>y=w3.heap.size+1) (λy hy=>by rw[hy];exact hoX _ hXL) (λy _ hn=>hot4 y hn)
 have hoo:∀y,X y→¬ (own.aside (g2.fzs [id]).noLen X).o y:=λy hy hh=>hh.2 hy
 have hg4w:Good P (own.aside (g2.fzs [id]).noLen X) w4 fn.ntmps (merge nv dra kill sB ks0 t).st g4 a3 w4:=hg4.world hgl4 (Nat.le_of_eq hs4.symm) (by rw[← hw4];exact Nat.le_refl _) (λy=>y=w3.heap.size+1) (λy hy=>⟨by rw[hy];exact hoo _ hXL,by rw[hy];exact hiX _ hXL⟩) (λy _ hn=>hot4 y hn) (λy hy=>hg4.frm.fresh y (by rw[← hs4];exact hy))
 have hD4:w4.heap[w3.heap.size]? = some (.deferred (some [])):=by rw[hot4 _ (by omega),hXk _ hXD (by omega)];exact hD1
 have hadd:({ tmps:=a3.tmps,defers:={ target:=.collected w3.heap.size,args:=#[] }::a3.defers }:Act)=Act.addD a3 [{ target:=.collected w3.heap.size,args:=#[] }]:=by unfold Act.addD;rw[hd3'];rfl
 rw[hadd];refine wp_seq (wp_region ?_)
 refine qP (Q:=λe a w'=>match e with | .normal=>∃s8 g8,(if noLnM s8 then packR T Γ fn sp.ks sp.rs _ (rfZ s8)else none)=some r∧Good P (own.aside (g2.fzs [id]).noLen X) w4 fn.ntmps s8.st g8 a w' | _=>False) ?_ _ (EH (Q:=λe a w'=>match e with | .normal=>∃s8 g8,(if noLnM s8 then packR T Γ fn sp.ks sp.rs _ (rfZ s8)else none)=some r∧Good P (own.aside (g2.fzs [id]).noLen X) w4 fn.ntmps s8.st g8 a w' | _=>False) hT hΓ hd4 hg4w (λs' g' a' w' h1 h2 h3=>⟨s',g',h1,h3⟩))
 intro e8 a8 w8 h8
 cases e8 with
 | normal=>
  obtain⟨s8,g8,hd8,hg8⟩:=h8;obtain⟨hnl8,hd8⟩:=aI hd8;simp only[Exit.then];refine wp_ret ?_
  have hD8:w8.heap[w3.heap.size]? = some (.deferred (some [])):=by
   rw[hg8.frm.block _ ?_ (hoo _ hXD)]
   ·exact hD4
   ·exact(Array.getElem?_eq_some_iff.1 hD4).1
  have hDs8:w3.heap.size<w8.heap.size:=(Array.getElem?_eq_some_iff.1 hD8).1;have hot9:∀y,y≠w3.heap.size→(stO w8 w3.heap.size (.deferred none)).heap[y]? = w8.heap[y]?:=λy hy=>wW _ _ _ hy
  have hs9:(stO w8 w3.heap.size (.deferred none)).heap.size=w8.heap.size:=by simp[stO]
  have hg8z:Good P (own.aside (g2.fzs [id]).noLen X) w4 fn.ntmps (rfZ s8).st g8 a8 w8:=hg8.sub (λx d hxd=>(m8 hxd).2.1) (λ_ _ h=>h) (λ_ h=>h)
  have hg8n:=hg8z.noLen (λx d hxd=>by obtain⟨_,_,i,off,rfl⟩:=m8 hxd;rfl) (qK (s:=rfZ s8) hnl8)
  have hg9:=hg8n.world (w':=stO w8 w3.heap.size (.deferred none)) (λ_ h=>h) (Nat.le_of_eq hs9.symm) (Nat.le_refl _) (λy=>y=w3.heap.size) (λy hy=>⟨by rw[hy];exact hoo _ hXD,by rw[hy];exact hiX _ hXD⟩) (λy _ hn=>hot9 y hn) (λy hy=>hg8.frm.fresh y (Nat.le_trans hg8.frm.size (by rw[← hs9];exact hy)))
  have hf9:Frm own w (stO w8 w3.heap.size (.deferred none)):=(hfrm4.aside hg8.frm).foreign rfl rfl rfl (Nat.le_refl _) (Nat.le_of_eq hs9.symm) (λy=>y=w3.heap.size) (λy hy=>by rw[hy];exact hoX _ hXD) (λy _ hn=>hot9 y hn)
  have hg10:=hg9.back (λ_ h=>h) hf9 (λid' p' hp'=>hg2.nam id' p' hp');rw[← hown]at hg10;obtain⟨rvs,hres,imm',pls',hrest⟩:=G5 hT hΓ hrs h4 hg10 hd8
  have hdf:(Act.addD a8 [{ target:=.collected w3.heap.size,args:=#[] }]).defers = [{ target:=.collected w3.heap.size,args:=#[] }]:=by unfold Act.addD;rw[hg8.dfr];rfl
  show LeavesInM Fence.wide 1 P fn _ _ (Act.addD a8 _).defers .returning w8;rw[hdf]
  refine⟨by simp,.inl ⟨w3.heap.size,_,rfl,run_takeDeferred hD8,?_⟩⟩
  exact⟨tupV rvs,hres,rvs,imm',pls',rfl,hrest⟩
 | _=>exact h8.elim
theorem fnOkR (hT : TblOk P T) (hΓ : CtxOk P Γ) (hmix : P.follows .mixedOrders = true) {f fB fC : FuncId} {fn : Func} {sp : Spec F} {te tsl : TypeId} {ks0 : Ks} {dr0 : List Nat} {h : Hint} (hf : P.funcs[f]? = some fn) (hnm : (fn.name == "runtime.NumGoroutine") = false) (hbn : fn.body.isNone = false) (hlen : Nat.ble sp.ks.length fn.ntmps = true)
  (hrs:sp.rs.all (λk=>!k.isBox)=true) (hentB:bc P fB) (hentC:bc P fC)
  (hB:∀(p:Option Addr)(n cap:Nat)(w:World),Calls P fB #[.slice p n cap] w λe w'=>e = .returned (.func (.func fC) #[] #[.pointer (some ⟨w.heap.size,0,none⟩)])∧w'=w.alloc (.cells #[.slice p n cap] tsl (0,0)))
  (hC:∀ti,T te=some ti→Du P fC te ti.size)
  (hD:(λa=>DT T Γ nv fn fB te ks0 dr0 h sp.ks sp.rs a)=sp.D):FnOk P f sp:=
 LJ hT hΓ hmix hf hnm hbn hlen hrs hentB hentC hB hC (λa r h=>by rw[← hD]at h;exact h)
end
set_option linter.unusedVariables false
set_option linter.unusedSimpArgs false
section
variable{F:Fam}{P:Program}
theorem xS{f:FuncId}{sp:Spec F}(hent:bc P f)
  (h:∀(a:HL F sp.ks)(r:TL F (outs sp)),sp.D a=some r→∀(imm:Nat→Prop)(w:World)(vs:List Value)(pls bxs:List Pl),c_ P w imm sp.ks a vs pls bxs→(∀b,imm b→b<w.heap.size)→
   pls = []∧bxs = []∧Calls P f ⟨vs⟩ w λe w'=>∃rvs,e = .returned (tupV rvs)∧RowKit.Below w.heap.size w w'∧w.drawn≤w'.drawn∧bC P w' imm (outs sp) r rvs [] []):FnOk P f sp:=by
 refine⟨hent,?_⟩;intro a r hr imm w vs pls bxs hheld hpl himm;obtain⟨rfl,rfl,hc⟩:=h a r hr imm w vs pls bxs hheld himm;refine hc.mono ?_;rintro e w' ⟨rvs,rfl,hb,hdr,ho⟩
 refine⟨rvs,imm,[],rfl,hb.os,hb.tape,hb.output,hdr,hb.size,λb hlt _=>hb.block b hlt,λ_ h=>h,λ_ h=>.inl h,λb hb'=>Nat.lt_of_lt_of_le (himm b hb') hb.size,ho,⟨by simp[plBlks],by simp[plBlks],by simp[plBlks]⟩,by simp[plBlks]⟩
theorem sk{w:World}{imm:Nat→Prop}{x:List UInt8}{v:Value}{pls:List Pl}(h:HeldV (F:=F) w imm .str [] x v pls):v = .string ⟨⟨x⟩⟩∧pls = []:=by unfold HeldV at h;simp only[Ty.isSt,Bool.false_eq_true,if_false,encT,HeldC,memN]at h;obtain⟨h,rfl⟩:=h;cases h;exact⟨rfl,rfl⟩
theorem Hn{w:World}{imm:Nat→Prop}{k:IntKind}{x:Int}{v:Value}{pls:List Pl}(h:HeldV (F:=F) w imm (.int k) [] x v pls):v = .int k x∧pls = []:=by unfold HeldV at h;simp only[Ty.isSt,Bool.false_eq_true,if_false,encT,HeldC,memN]at h;obtain⟨h,rfl⟩:=h;cases h;exact⟨rfl,rfl⟩
theorem yD{w:World}{imm:Nat→Prop}{k:IntKind}{x:Int}:bC (F:=F) P w imm [.v (.int k) []] x [.int k x] [] []:=by refine⟨_,rfl,rfl,?_,rfl⟩;unfold HeldV;simp only[Ty.isSt,Bool.false_eq_true,if_false,encT,HeldC,memN];exact⟨.i _ _,trivial⟩
theorem wu{w:World}{imm:Nat→Prop}{x:Bool}:bC (F:=F) P w imm [.v .bool []] x [.bool x] [] []:=by refine⟨_,rfl,rfl,?_,rfl⟩;unfold HeldV;simp only[Ty.isSt,Bool.false_eq_true,if_false,encT,HeldC,memN];exact⟨.b _,trivial⟩
def cnt1(s sub:List UInt8):Option Int:=match sub with
 | [c]=>some ((Lib.countByte s c:Nat):Int)
 | _=>none
theorem IT{f:FuncId}(hent:bc P f)(hw:∀(s:ByteArray)(c:UInt8)(w:World),Calls P f #[.string s,.string ⟨#[c]⟩] w λe w'=>e = .returned (.int .i64 (Lib.countByte s.data.toList c))∧w'=w) :
  FnOk (F:=F) P f ⟨[.v .str [],.v .str []],[.v (.int .i64) []],λa=>cnt1 a.1 a.2.1⟩:=by
 refine xS hent ?_;intro a r hr imm w vs pls bxs hheld himm;obtain⟨s,sub,u⟩:=a;obtain⟨v,vs',p1,p2,b1,b2,rfl,rfl,rfl,⟨h1,rfl⟩,v2,vs2,p3,p4,b3,b4,rfl,rfl,rfl,⟨h2,rfl⟩,rfl,rfl,rfl⟩:=hheld;obtain⟨rfl,rfl⟩:=sk h1;obtain⟨rfl,rfl⟩:=sk h2;have hr:cnt1 s sub=some r:=hr
 match sub,hr with
 | [c],hr=>
  cases hr;refine⟨rfl,rfl,(hw ⟨⟨s⟩⟩ c w).mono ?_⟩
  rintro e w' ⟨rfl,rfl⟩;exact⟨[_],rfl,.refl _ _,Nat.le_refl _,yD⟩
 | [],hr=>cases hr
 | _::_::_,hr=>cases hr
def ixb(s:List UInt8)(c:Int):Option Int:=some (Lib.indexByte s c.toNat.toUInt8)
theorem K1{f:FuncId}(hent:bc P f)(hw:∀(s:ByteArray)(c:Int)(w:World),Calls P f #[.string s,.int .u8 c] w λe w'=>e = .returned (.int .i64 (Lib.indexByte s.data.toList c.toNat.toUInt8))∧w'=w) :
  FnOk (F:=F) P f ⟨[.v .str [],.v (.int .u8) []],[.v (.int .i64) []],λa=>ixb a.1 a.2.1⟩:=by
 refine xS hent ?_;intro a r hr imm w vs pls bxs hheld himm;obtain⟨s,c,u⟩:=a;obtain⟨v,vs',p1,p2,b1,b2,rfl,rfl,rfl,⟨h1,rfl⟩,v2,vs2,p3,p4,b3,b4,rfl,rfl,rfl,⟨h2,rfl⟩,rfl,rfl,rfl⟩:=hheld;obtain⟨rfl,rfl⟩:=sk h1;obtain⟨rfl,rfl⟩:=Hn h2;have hr:ixb s c=some r:=hr;cases hr;refine⟨rfl,rfl,(hw ⟨⟨s⟩⟩ c w).mono ?_⟩;rintro e w' ⟨rfl,rfl⟩;exact⟨[_],rfl,.refl _ _,Nat.le_refl _,yD⟩
def nmB(b:UInt8):Bool:=(Nat.ble 97 b.toNat&&Nat.ble b.toNat 122)||(Nat.ble 48 b.toNat&&Nat.ble b.toNat 57)||Nat.beq b.toNat 45
def nameD(most:Nat)(s:List UInt8):Option Bool:=cond (s.all λb=>Nat.blt b.toNat 128) (some (s.all nmB&&!s.isEmpty&&Nat.ble s.length most)) none
def nmR(most:Nat)(s:ByteArray):Bool:=s.data.toList.all nmB&&!s.data.toList.isEmpty&&Nat.ble s.data.toList.length most
theorem I9{f:FuncId}{most:Nat}(hent:bc P f) (hw:∀(s:ByteArray)(w:World),(∀(j:Nat) b,s.data.toList[j]? = some b→b.toNat<128)→
   Calls P f #[.string s] w λe w'=>e = .returned (.bool (nmR most s))∧∃k,w'=w.iter s k) :
  FnOk (F:=F) P f ⟨[.v .str []],[.v .bool []],λa=>nameD most a.1⟩:=by
 refine xS hent ?_;intro a r hr imm w vs pls bxs hheld himm;obtain⟨s,u⟩:=a;obtain⟨v,vs',p1,p2,b1,b2,rfl,rfl,rfl,⟨h1,rfl⟩,rfl,rfl,rfl⟩:=hheld;obtain⟨rfl,rfl⟩:=sk h1;have hr:nameD most s=some r:=hr;unfold nameD at hr
 cases ha:s.all λb=>Nat.blt b.toNat 128 with
 | false=>rw[ha]at hr;cases hr
 | true=>
  rw[ha]at hr;cases hr;refine⟨rfl,rfl,(hw ⟨⟨s⟩⟩ w ?_).mono ?_⟩
  ·intro j b hj
   have hb:=List.mem_of_getElem? (l:=s) (by simpa using hj)
   have:=List.all_eq_true.1 ha b hb;have:b.toNat+1≤128:=Nat.le_of_ble_eq_true this;omega
  ·rintro e w' ⟨rfl,k,rfl⟩;exact⟨[_],rfl,(RowKit.Below.refl _ w).alloc (Nat.le_refl _) _,Nat.le_refl _,wu⟩
theorem EG{b:UInt8}:nmB b=true↔(97≤b.toNat∧b.toNat≤122)∨(48≤b.toNat∧b.toNat≤57)∨b.toNat=45:=by simp[nmB,or_assoc]
theorem Kl{s:ByteArray}(h:∀(j:Nat) b,s.data.toList[j]? = some b→j<s.size→nmB b=true):s.data.toList.all nmB=true:=by rw[List.all_eq_true];intro b hb;obtain⟨j,hj⟩:=List.getElem?_of_mem hb;exact h j b hj (LQ.1 hj).1
theorem BH{s:ByteArray}{i:Nat}(hi:i<s.size)(h:∀(j:Nat) b,s.data.toList[j]? = some b→j<i→nmB b=true){c:Nat}(hc:c=(s[i]'hi).toNat)(hb:(97≤c∧c≤122)∨(48≤c∧c≤57)∨c=45) :
  ∀(j:Nat) b,s.data.toList[j]? = some b→j<i+1→nmB b=true:=by
 intro j b hj hlt;by_cases e:j=i
 ·subst e;rw[Lib.data_getElem? s j hi]at hj;cases hj;rw[EG,← hc];exact hb
 ·exact h j b hj (by omega)
theorem JB{s:ByteArray}{i:Nat}(hi:i<s.size){c:Nat}(hc:c=(s[i]'hi).toNat)(hb:¬ ((97≤c∧c≤122)∨(48≤c∧c≤57)∨c=45)):s.data.toList.all nmB=false:=by rw[Bool.eq_false_iff];intro h;rw[List.all_eq_true]at h;have:=h _ (List.mem_of_getElem? (Lib.data_getElem? s i hi));rw[EG,← hc]at this;exact hb this
theorem KP(s:ByteArray)(n:Nat):decide ((s.size:Int)≤(n:Int))=Nat.ble s.data.toList.length n:=by rw[Bool.eq_iff_iff];have:s.data.toList.length=s.size:=rfl;rw[this,Nat.ble_eq,decide_eq_true_eq];omega
def EachB(P:Program)(fe fc f1:FuncId)(tf:TypeId):Prop:=
 ∀(p:Option Addr)(n cap:Nat)(fid:Nat)(bound captured:List Value) (w:World) (R:World→Prop) (b:Bool),
  Calls P fc #[.slice p n cap,.func (.func f1) #[] #[.pointer (some ⟨w.heap.size,0,none⟩)]] (w.alloc (.cells #[.func (.func fid) ⟨bound⟩ ⟨captured⟩] tf (0,0))) (λe w'=>e = .returned (.bool b)∧R w')→
  Calls P fe #[.slice p n cap,.func (.func fid) ⟨bound⟩ ⟨captured⟩] w λe w'=>e = .returned (.bool (!b))∧R w'
def EachC(P:Program)(f1:FuncId)(tf te sz:Nat):Prop:=
 ∀(vs:List Value)(fid:Nat)(bound captured:List Value)(bx:Nat) (w:World) (R:World→Prop) (b:Bool),vs.length=sz→(∀v∈vs,v.oneCell'=true)→bc P fid→
  bx<w.heap.size→w.heap[bx]? = some (.cells #[.func (.func fid) ⟨bound⟩ ⟨captured⟩] tf (0,0))→
  Calls P fid ⟨bound++[.agg ⟨vs⟩]++captured⟩ (w.alloc (.cells ⟨vs⟩ te (0,0))) (λe w'=>e = .returned (.bool b)∧R w')→
  Calls P f1 #[.agg ⟨vs⟩,.pointer (some ⟨bx,0,none⟩)] w λe w'=>e = .returned (.bool (!b))∧R w'
def eachD{α β : Type}(c:α→(β→Option Bool)→Option Bool)(l:α)(φ : β→Option Bool):Option Bool:=(c l λx=>(φ x).bind λr=>some (!r)).bind λr=>some (!r)
theorem yd{fe fc f1:FuncId}{n:Nat}{tf te sz:Nat}{c:List (F.S n)→(TupT F [.st n]→Option Bool)→Option Bool}(hc:FnOk (F:=F) P fc ⟨[.v (.slice (.st n)) [],.fn [.st n] .bool],[.v .bool []],λa=>c a.1 a.2.1⟩)(hent:bc P fe)(hent1:bc P f1)
  (hsz:szT F (.st n)=sz) (wB:EachB P fe fc f1 tf) (wC:EachC P f1 tf te sz) :
  FnOk (F:=F) P fe ⟨[.v (.slice (.st n)) [],.fn [.st n] .bool],[.v .bool []],λa=>eachD c a.1 a.2.1⟩:=by
 refine⟨hent,?_⟩;intro a r hr imm w vs pls bxs hheld hpl himm;obtain⟨l,φ,u⟩:=a;obtain⟨v,vs',p1,p2,b1,b2,rfl,rfl,rfl,⟨h1,rfl⟩,v2,vs2,p3,p4,b3,b4,rfl,rfl,rfl,⟨h2,h3,fid,bound,captured,rfl,hbd,hfe,hfn⟩,rfl,rfl,rfl⟩:=hheld;subst h2 h3;have hn:=h1.nil_pls;subst hn;have hr:eachD c l φ = some r:=hr;unfold eachD at hr
 cases hcv:c l λx=>(φ x).bind λr=>some (!r)with
 | none=>rw[hcv]at hr;cases hr
 | some rb=>
 rw[hcv]at hr;have hr:r=(!rb:Bool):=(Option.some.inj hr).symm;subst hr
 have hsl:∃p n cap,v = .slice p n cap:=by
  have h1':=h1;unfold HeldV at h1';simp only[Ty.isSt,Bool.false_eq_true,if_false,encT,HeldC,memN]at h1';obtain⟨h1',_⟩:=h1'
  cases h1' with
  | sl0=>exact⟨_,_,_,rfl⟩
  | sl=>exact⟨_,_,_,rfl⟩
 obtain⟨p,m,cap,rfl⟩:=hsl;obtain⟨w1,hw1⟩:∃w1,w1=w.alloc (.cells #[.func (.func fid) ⟨bound⟩ ⟨captured⟩] tf (0,0)):=⟨_,rfl⟩
 have hold:∀b,b<w.heap.size→w1.heap[b]? = w.heap[b]?:=λb hb=>by rw[hw1];exact heap_alloc_old w _ hb
 have hnew:w1.heap[w.heap.size]? = some (.cells #[.func (.func fid) ⟨bound⟩ ⟨captured⟩] tf (0,0)):=by rw[hw1];exact heap_alloc_new w _
 have hs1:w1.heap.size=w.heap.size+1:=by rw[hw1,World.size_alloc]
 obtain⟨im1,him1⟩:∃im1:Nat→Prop,im1 = λb=>imm b∨b=w.heap.size:=⟨_,rfl⟩
 have hfv:FvOk P F w1 im1 [.st n] .bool (λx=>(φ x).bind λr=>some (!r)) (.func (.func f1) ⟨[]⟩ ⟨[.pointer (some ⟨w.heap.size,0,none⟩)]⟩):=by
  refine⟨f1,[],_,rfl,.inl rfl,hent1,?_⟩;intro w' imm' hw hlt a x vs hφ ht;obtain⟨q,hq,hqx⟩:=Option.bind_eq_some_iff.1 hφ;cases hqx
  obtain⟨v0,hv0⟩:∃v0,vs = [v0]:=by
   match vs,ht.1 with
   | [v0],_=>exact⟨v0,rfl⟩
   | [],h=>simp[encTs]at h
   | _::_::_,h=>simp[encTs]at h
  subst hv0
  have hb:im1 w.heap.size:=by rw[him1];exact .inr rfl
  obtain⟨i1,i2⟩:=hw _ hb;have hrt:RepT w' imm' (encT F (.st n) a.1,true) v0:=ht.2 0 _ v0 rfl rfl
  have hag:∃ws,v0 = .agg ⟨ws⟩∧ws.length=(encT F (.st n) a.1).length∧∀(k:Nat)(c:ND F)(x:Value),(encT F (.st n) a.1)[k]? = some c→ws[k]? = some x→RepI w' imm' c x:=by
   generalize encT F (.st n) a.1=ds at hrt
   cases hrt with
   | agg hl hh=>exact⟨_,rfl,hl,hh⟩
  obtain⟨ws,rfl,hl,hh⟩:=hag
  have one:∀y∈ws,y.oneCell'=true:=by
   intro y hy;obtain⟨k,hk⟩:=List.getElem?_of_mem hy
   have hk2:k<(encT F (.st n) a.1).length:=by rw[← hl];exact(LQ.1 hk).1
   exact(hh k _ y (LP hk2) hk).oneCell
  obtain⟨w2,hw2⟩:∃w2,w2=w'.alloc (.cells ⟨ws⟩ te (0,0)):=⟨_,rfl⟩
  have hold2:∀b,b<w'.heap.size→w2.heap[b]? = w'.heap[b]?:=λb hb=>by rw[hw2];exact heap_alloc_old w' _ hb
  have hs2:w2.heap.size=w'.heap.size+1:=by rw[hw2,World.size_alloc]
  have himw:∀b,imm b→imm' b∧w2.heap[b]? = w.heap[b]?:=by
   intro b hb
   have hb1:im1 b:=by rw[him1];exact .inl hb
   obtain⟨j1,j2⟩:=hw b hb1
   exact⟨j1,by rw[hold2 b (hlt b j1),j2,hold b (himm b hb)]⟩
  have key:=hfn w2 imm' himw (λb hb=>by have:=hlt b hb;omega) a q [.agg ⟨ws⟩] hq ⟨by simp[encTs],λk d x a1 a2=>by
   cases k with
   | zero=>
    cases a1;cases a2
    exact(RepT.agg hl hh).mono (λ_ h=>h) (λb hb=>hold2 b (hlt b hb))
   | succ k=>simp[encTs]at a1⟩
  have key2:Calls P fid ⟨bound++[.agg ⟨ws⟩]++captured⟩ w2 (λe w''=>e = .returned (.bool q)∧(RowKit.Below w2.heap.size w2 w''∧w2.drawn≤w''.drawn)):=by
   refine key.mono ?_;rintro e w'' ⟨v,rfl,k1,k2,k3⟩
   cases k2 with
   | one h=>cases h;exact⟨rfl,k1,k3⟩
  have hwc:=wC ws fid bound captured w.heap.size w' _ q (by rw[hl,aN,hsz]) one hfe (by have:=hlt _ i1;exact this) (by rw[i2];exact hnew) (by rw[← hw2];exact key2)
  refine hwc.mono ?_;rintro e w'' ⟨rfl,k1,k3⟩
  have e1:w2.os=w'.os∧w2.tape=w'.tape∧w2.output=w'.output∧w2.drawn=w'.drawn:=by rw[hw2];exact⟨rfl,rfl,rfl,rfl⟩
  refine⟨_,rfl,⟨by rw[k1.os,e1.1],by rw[k1.tape,e1.2.1],by rw[k1.output,e1.2.2.1],by have:=k1.size;omega,λb hb=>by rw[k1.block b (by omega),hold2 b hb]⟩,.one (.b _),by rw[← e1.2.2.2];exact k3⟩
 have hh1:HeldV (F:=F) w1 im1 (.slice (.st n)) [] l (.slice p m cap) []:=h1.lift (λb hb=>⟨by rw[him1];exact .inl hb,hold b (himm b hb)⟩)
 have himl:∀b,im1 b→b<w1.heap.size:=by
  intro b hb;rw[him1]at hb;rcases hb with hb | rfl
  ·have:=himm b hb;omega
  ·omega
 have hcc:=hc.2 (l,(λx=>(φ x).bind λr=>some (!r)),()) rb hcv im1 w1 [.slice p m cap,.func (.func f1) ⟨[]⟩ ⟨[.pointer (some ⟨w.heap.size,0,none⟩)]⟩] [] []
  ⟨_,_,[],[],[],[],rfl,rfl,rfl,⟨hh1,rfl⟩,_,_,[],[],[],[],rfl,rfl,rfl,⟨rfl,rfl,hfv⟩,rfl,rfl,rfl⟩ ⟨by simp[plBlks],by simp[plBlks],by simp[plBlks]⟩ himl
 have hcc2:Calls P fc #[.slice p m cap,.func (.func f1) #[] #[.pointer (some ⟨w.heap.size,0,none⟩)]] w1 (λe w'=>e = .returned (.bool rb)∧(w'.os=w1.os∧w'.tape=w1.tape∧w'.output=w1.output∧w1.drawn≤w'.drawn∧w1.heap.size≤w'.heap.size∧∀b,b<w1.heap.size→w'.heap[b]? = w1.heap[b]?)):=by
  refine hcc.mono ?_;rintro e w' ⟨rvs,imm',pls',rfl,k1,k2,k3,k4,k5,k6,k7,k8,k9,k10,_⟩;obtain⟨v,rfl,_,hv,_⟩:=k10;unfold HeldV at hv;simp only[Ty.isSt,Bool.false_eq_true,if_false,encT,HeldC,memN]at hv;obtain⟨hv,_⟩:=hv;cases hv
  exact⟨rfl,k1,k2,k3,k4,k5,λb hb=>k6 b hb (by simp[plBlks])⟩
 rw[hw1]at hcc2;refine(wB p m cap fid bound captured w _ rb hcc2).mono ?_;rw[← hw1];rintro e w' ⟨rfl,k1,k2,k3,k4,k5,k6⟩
 have e1:w1.os=w.os∧w1.tape=w.tape∧w1.output=w.output∧w1.drawn=w.drawn:=by rw[hw1];exact⟨rfl,rfl,rfl,rfl⟩
 refine⟨[_],imm,[],rfl,by rw[k1,e1.1],by rw[k2,e1.2.1],by rw[k3,e1.2.2.1],by rw[← e1.2.2.2];exact k4,by omega,λb hb _=>by rw[k6 b (by omega),hold b hb],λ_ h=>h,λ_ h=>.inl h,λb hb=>by have:=himm b hb;omega,wu,⟨by simp[plBlks],by simp[plBlks],by simp[plBlks]⟩,by simp[plBlks]⟩
end
end Go.Fx
namespace Go.Fx
open Go Go.RowKit
set_option linter.unusedVariables false
set_option linter.unusedSimpArgs false
section
variable{F:Fam}{P:Program}
def digB(b:UInt8):Bool:=Nat.ble 48 b.toNat&&Nat.ble b.toNat 57
def isNum(s:List UInt8):Bool:=match s with
 | []=>false
 | b::r=>Nat.ble r.length 6&&(r.isEmpty||!(Nat.beq b.toNat 48))&&digB b&&r.all digB
def numD(s:List UInt8):Option (Int×Bool):=cond (isNum s) ((Lib.atoi s).bind λn=>some (n,true)) none
def NumW(P:Program)(f:FuncId):Prop:=∀(b:UInt8)(r:List UInt8)(n:Int)(w:World),r.length≤6→(r = []∨b.toNat≠48)→(b::r).all digB=true→Lib.atoi (b::r)=some n→
 Calls P f #[.string ⟨⟨b::r⟩⟩] w λe w'=>e = .returned (.tuple #[.int .i64 n,.bool true])∧Below w.heap.size w w'∧w.drawn≤w'.drawn
def cut10:ByteArray:=⟨#[48,49,50,51,52,53,54,55,56,57]⟩
theorem Em:∀(j:Nat) b,cut10.data.toList[j]? = some b→b.toNat<128:=by
 intro j b h;have h:[48,49,50,51,52,53,54,55,56,(57:UInt8)][j]? = some b:=h;have:=List.mem_of_getElem? h;simp only[List.mem_cons,List.not_mem_nil,or_false]at this
 rcases this with rfl | rfl | rfl | rfl | rfl | rfl | rfl | rfl | rfl | rfl<;>decide
theorem G1{b:UInt8}(h:digB b=true):cut10.data.toList.contains b=true:=by
 have:(48≤b.toNat∧b.toNat≤57):=by simpa[digB]using h
 have hb:b=UInt8.ofNat b.toNat:=by simp
 rw[hb]
 rcases(by omega:b.toNat=48∨b.toNat=49∨b.toNat=50∨b.toNat=51∨b.toNat=52∨b.toNat=53∨b.toNat=54∨b.toNat=55∨b.toNat=56∨b.toNat=57)with e | e | e | e | e | e | e | e | e | e<;>rw[e]<;>rfl
theorem CQ{p:UInt8→Bool}:∀{l:List UInt8},(∀b∈l,p b=true)→l.dropWhile p = []
 | [],_=>rfl
 | b::l,h=>by rw[List.dropWhile_cons_of_pos (h b List.mem_cons_self)];exact CQ λx hx=>h x (List.mem_cons_of_mem _ hx)
theorem Ex{l:List UInt8}(h:l.all digB=true):Lib.trimS l cut10.data.toList = []:=by have h':∀b∈l,cut10.data.toList.contains b=true:=λb hb=>G1 (List.all_eq_true.1 h b hb);unfold Lib.trimS Lib.trimRightS Lib.trimLeftS;rw[CQ (λb hb=>h' b (List.mem_reverse.1 hb))];rfl
theorem Dk{B:Nat}{a w:World}(h:Below B a w)(n:Nat):Below B a (w.drewN n):=h.trans ⟨rfl,rfl,rfl,Nat.le_refl _,λ_ _=>rfl⟩
theorem DR(w:World)(e:TypeId)(s:ByteArray):Below w.heap.size w (Lib.bytesWorld w e s)∧w.drawn≤(Lib.bytesWorld w e s).drawn:=by
 unfold Lib.bytesWorld World.freeze
 rw[if_neg (by decide)]
 refine⟨⟨rfl,rfl,rfl,?_,?_⟩,Nat.le_succ _⟩
 ·show w.heap.size≤((w.heap.push _).modify w.heap.size _).size;rw[Array.size_modify,Array.size_push];omega
 ·intro k hk;show((w.heap.push _).modify w.heap.size _)[k]? = _
  rw[Array.getElem?_modify,if_neg (by omega)]
  simp[Array.getElem?_push,Nat.ne_of_lt hk]
theorem KU{f:FuncId}(hent:bc P f)(hw:NumW P f):FnOk (F:=F) P f ⟨[.v .str []],[.v (.int .i64) [],.v .bool []],λa=>numD a.1⟩:=by
 refine xS hent ?_;intro a r hr imm w vs pls bxs hheld himm;obtain⟨s,u⟩:=a;obtain⟨v,vs',p1,p2,b1,b2,rfl,rfl,rfl,⟨h1,rfl⟩,rfl,rfl,rfl⟩:=hheld;obtain⟨rfl,rfl⟩:=sk h1;have hr:numD s=some r:=hr;unfold numD at hr
 cases hs:isNum s with
 | false=>rw[hs]at hr;cases hr
 | true=>
  rw[hs]at hr;obtain⟨n,hn,hrr⟩:=Option.bind_eq_some_iff.1 hr;cases hrr
  match s,hs,hn with
  | b::l,hs,hn=>
   simp only[isNum,Bool.and_eq_true,Bool.or_eq_true,Nat.ble_eq,List.isEmpty_iff,Bool.not_eq_true']at hs;obtain⟨⟨⟨h6,h0⟩,hb⟩,hl⟩:=hs
   have h0':l = []∨b.toNat≠48:=h0.imp_right λh e=>by rw[e]at h;cases h
   refine⟨rfl,rfl,(hw b l n w h6 h0' (by rw[List.all_cons,hb,hl];rfl) hn).mono ?_⟩
   rintro e w' ⟨rfl,k1,k2⟩;refine⟨[_,_],rfl,k1,k2,_,[_],[],[],rfl,rfl,?_,_,rfl,rfl,?_⟩
   ·refine⟨?_,rfl⟩;unfold HeldV;simp only[Ty.isSt,Bool.false_eq_true,if_false,encT,HeldC,memN];exact⟨.i _ _,trivial⟩
   ·refine⟨?_,rfl⟩;unfold HeldV;simp only[Ty.isSt,Bool.false_eq_true,if_false,encT,HeldC,memN];exact⟨.b _,trivial⟩
  | [],hs,_=>cases hs
end
end Go.Fx
