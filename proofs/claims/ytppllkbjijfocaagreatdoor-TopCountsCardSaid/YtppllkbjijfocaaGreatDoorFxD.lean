/-
  The framework, fourth part: bounded rounds, deletion from slices, ranges over functions. Conditions: none.
-/
import Derived.Test.YtppllkbjijfocaaGreatDoorFxC
import Derived.Shelf.SlSortCmp.NoneTotal
import Derived.Shelf.Sort.Plain
import Derived.Shelf.Slices.In.SortNone
import Derived.Shelf.SlicesE.Kit
import Derived.Shelf.RegionOpenPlain
import Derived.Deep.LoopGhost
import Derived.Deep.RegionLaw
import Derived.Lib.Walk
import Derived.Sort.WalkB12
import Derived.Lib.SlicesDelete
import Derived.Lib.Overlaps
import Derived.Lib.AppendZerosOnto
import Derived.RangeFuncLeaves
import Derived.RangeFuncRecord
import Derived.RangeFuncIn
import Derived.RangeFuncSeq
import Derived.Lib.Bytealg
import Derived.Laws.RangeString
import Derived.Lib.IndexBytes
import Derived.Lib.SlTrimSet
import Derived.Lib.Atoi
import Derived.Lib.ConvBytes
import Derived.Deep.Draws
namespace Go.Fx
open Go Go.Shelf
set_option linter.unusedVariables false
set_option linter.unusedSimpArgs false
section
variable{F:Fam}{P:Program}
def UD:ND F→Value
 | .i k n=>.int k n
 | .b x=>.bool x
 | .s l=>.string ⟨⟨l⟩⟩
 | _=>.nilFunc
def NV.UL:ND F→Bool
 | .i _ _ | .b _ | .s _=>true
 | _=>false
theorem AJ{t:Ty}(hf:cB F t=true)(x:ET F t):∀d∈Jj F t x,d.UL=true:=by
 cases t with
 | int k=>simp[Jj,NV.UL]
 | bool=>simp[Jj,NV.UL]
 | str=>simp[Jj,NV.UL]
 | slice t=>simp[cB]at hf
 | st n=>
  simp only[Jj];simp only[cB]at hf
  have gen:∀(ts:List Ty)(a:Js F ts),(ts.all λt=>match t with | .slice _=>false | .st _=>false | _=>true)=true→∀d∈LV F ts a,d.UL=true:=by
   intro ts
   induction ts with
   | nil=>intro a _ d hd;simp[LV]at hd
   | cons t ts ih=>
    intro a h d hd;simp only[TB,KV]at h;rcases Lr.1 hd with rfl | hd
    ·cases t<;>first | rfl | simp at h
    ·exact ih a.2 h.2 d hd
  exact gen _ _ hf
theorem A_{w:World}{I7:Nat→Prop}{d:ND F}{v:Value}(hs:d.UL=true)(h:Ju w I7 d v):v=UD d:=by
 cases h<;>first | rfl | simp[NV.UL]at hs
theorem xY{w:World}{I7:Nat→Prop}{d:ND F}(hs:d.UL=true):Ju w I7 d (UD d):=by
 cases d with
 | i k n=>exact .i _ _
 | b x=>exact .b _
 | s l=>exact .s _
 | nl=>simp[NV.UL]at hs
 | sl t l=>simp[NV.UL]at hs
 | v x=>simp[NV.UL]at hs
theorem EQ{d:ND F}:(UD d).oneCell'=true:=by cases d<;>rfl
def Nb(t:Ty)(x:ET F t):List Value:=(Jj F t x).map UD
section
variable{α : Type}[Inhabited α]{enc:α→List Value}{k:Nat}{w:World}{b off m:Nat}{dk:Array α}{os:Array Obj}
theorem sG:w.heap.size≤(Proofs.sortWorldK enc k w b off m dk os).heap.size:=by simp[Proofs.sortWorldK,Sort.grow,Sort.putRowK,Sort.putRow,Sort.mapBlock,Sort.ahead]
theorem zm{b':Nat}(hne:b'≠b)(hlt:b'<w.heap.size):(Proofs.sortWorldK enc k w b off m dk os).heap[b']? = w.heap[b']?:=by
 simp only[Proofs.sortWorldK,Sort.grow,Sort.putRowK,Sort.putRow,Sort.mapBlock,Sort.ahead]
 rw[ZG (by simpa using hlt),QdE,if_neg (λe=>hne e.symm)]
theorem FY{c:Array Value}{e:TypeId}{fr:Nat×Nat}(h:w.heap[b]? = some (.cells c e fr)):(Proofs.sortWorldK enc k w b off m dk os).heap[b]? = some (.cells (Sort.putCells id off (Sort.flatK enc k dk) c) e fr):=by
 have hlt:b<w.heap.size:=(P_.1 h).1;simp only[Proofs.sortWorldK,Sort.grow,Sort.putRowK,Sort.putRow,Sort.mapBlock,Sort.ahead]
 rw[ZG (by simpa using hlt),QdE,if_pos rfl,h]
 rfl
end
theorem Bl{w w':World}(h:RowKit.Below w.heap.size w w')(hd:w.drawn≤w'.drawn):∃q os',w'=Sort.grow (w.drewN q) os':=by
 obtain⟨h1,h2,h3,h4,h5⟩:=h;refine⟨w'.drawn - w.drawn,w'.heap.extract w.heap.size w'.heap.size,?_⟩;obtain⟨heap,tape,drawn,os,output⟩:=w;obtain⟨heap',tape',drawn',os',output'⟩:=w';simp only at h1 h2 h3 h4 h5 hd;subst h1 h2 h3;simp only[Sort.grow,World.drewN]
 congr 1
 ·apply Array.ext_getElem?;intro j;by_cases hj:j<heap.size
  ·rw[ZG hj];exact h5 j hj
  ·rw[Array.getElem?_append_right (by omega),Array.getElem?_extract]
   split
   ·congr 1
    omega
   ·rw[Array.getElem?_eq_none (by omega)]
 ·omega
end
end Go.Fx
namespace Go.Fx
open Go Go.Shelf
set_option linter.unusedVariables false
set_option linter.unusedSimpArgs false
section
variable{F:Fam}{P:Program}
section
variable{α : Type}[Inhabited α]{enc:α→Value}{w:World}{b off m:Nat}{dk:Array α}{os:Array Obj}
theorem vO:w.heap.size≤(Sort.grow (Sort.putRow enc (Sort.ahead w m) b off dk) os).heap.size:=by simp[Sort.grow,Sort.putRow,Sort.mapBlock,Sort.ahead]
theorem DR{b':Nat}(hne:b'≠b)(hlt:b'<w.heap.size):(Sort.grow (Sort.putRow enc (Sort.ahead w m) b off dk) os).heap[b']? = w.heap[b']?:=by
 simp only[Sort.grow,Sort.putRow,Sort.mapBlock,Sort.ahead]
 rw[ZG (by simpa using hlt),QdE,if_neg (λe=>hne e.symm)]
theorem HP{c:Array Value}{e:TypeId}{fr:Nat×Nat}(h:w.heap[b]? = some (.cells c e fr)):(Sort.grow (Sort.putRow enc (Sort.ahead w m) b off dk) os).heap[b]? = some (.cells (Sort.putCells enc off dk c) e fr):=by
 have hlt:b<w.heap.size:=(P_.1 h).1;simp only[Sort.grow,Sort.putRow,Sort.mapBlock,Sort.ahead]
 rw[ZG (by simpa using hlt),QdE,if_pos rfl,h]
 rfl
end
def Ra(l:List Int):Option (List Int):=if l≠[]∧l.length<4611686018427387904 then some (l.mergeSort λx y=>decide (x≤y))else none
theorem FI{ρ : Ren}(L:Proofs.Lays.n189 P ρ)(hent:bc P (ρ.f 189)) :
  Lf (F:=F) P (ρ.f 189) ⟨[.row (.int .i64) false],[],λa=>Ra a.1⟩:=by
 refine⟨hent,?_⟩;intro a r hr I7 w vs Jg Jv KN hpl Kl;obtain⟨l,u⟩:=a;obtain⟨v,vs',p1,p2,b1,b2,rfl,rfl,rfl,⟨pl,rfl,rfl,hrow,hv⟩,rfl,rfl,rfl⟩:=KN;dsimp only at hr;unfold Ra at hr;split at hr
 rotate_left
 ·cases hr
 rename_i hc;obtain⟨hne,hlen⟩:=hc;have hr':r=(l.mergeSort λx y=>decide (x≤y):List Int):=(Option.some.inj hr).symm;clear hr;subst hr';have hv:Ll pl v:=hv
 cases pl with
 | none=>exact absurd hrow hne
 | some q=>
 obtain⟨b,cap,n'⟩:=q;obtain⟨rfl,hle,hmx,cur,e,hb,hcl,hcr⟩:=hrow;cases hv;have hblk:b<w.heap.size:=(P_.1 hb).1
 have hcl':cur.length=cap:=by rw[hcl];simp[Jm]
 have Pt:∀(s:List Int)(j:Nat)(d:ND F),(cells F (.int .i64) s)[j]? = some d→∃x,s[j]? = some x∧d = .i .i64 x:=by
  intro s j d hd
  have:cells F (.int .i64) s=s.map λx=>(.i .i64 x:ND F):=by
   clear hd;unfold cells
   induction s with
   | nil=>rfl
   | cons x s ih=>simp[Jj]at *;exact ih
  rw[this,MU]at hd;obtain⟨x,h1,h2⟩:=RN.1 hd;exact⟨x,h1,h2.symm⟩
 have hH:Sort.Holds (Value.int .i64) w b 0 (List.toArray l:Array Int):=by
  intro j hj
  have hj':j<List.length l:=by simpa using hj
  have hle':List.length l≤cap:=hle
  have hjc:j<cur.length:=by rw[hcl'];omega
  have hjl:j<(cells F (.int .i64) l).length:=by rw[aD];simpa[Jm]using hj'
  have q3:=hcr j _ _ (IZ hjl) (IZ hjc);obtain⟨x,h1,h2⟩:=Pt l j _ (IZ hjl);rw[h2]at q3
  have q4:cur[j] = .int .i64 x:=by generalize cur[j]=z at q3;cases q3;rfl
  refine⟨?_,?_⟩
  ·simp only[World.cell?,hb,L_]
   have:(List.toArray l:Array Int)[j]! = x:=by rw[getElem!_def];simp[h1]
   rw[this,← q4];simp[hjc]
  ·simp[World.frozen?,hb]
 refine(Proofs.Any.slices_Sort_int L b 0 cap l w hH hblk hlen).mono ?_;rintro e' w' ⟨rfl,m,os,rfl⟩;have hsl:(l.mergeSort λx y=>decide (x≤y):List Int).length=List.length l:=List.length_mergeSort _;generalize(l.mergeSort λx y=>decide (x≤y):List Int)=s at *;refine⟨[],I7,[],rfl,rfl,rfl,rfl,?_,vO,?_,λ_ h=>h,λ_ h=>.inl h,λb' hb'=>O8 (Kl b' hb') vO,⟨some (b,cap,List.length l,[]),rfl,rfl,?_,rfl⟩,⟨?_,?_,?_⟩,?_⟩
 ·simp[Sort.grow,Sort.putRow,Sort.mapBlock,Sort.ahead]
 ·intro b' hlt hno
  exact DR (λe=>hno (by simp[av,I5,Kr,e])) hlt
 ·refine⟨by rw[hsl],by rw[hsl];exact hle,hmx,(Sort.putCells (Value.int .i64) 0 (List.toArray s:Array Int) ⟨cur⟩).toList,e,HP hb,?_,?_⟩
  ·simp[Sort.putCells,hcl]
  ·intro j d x hd hx;obtain⟨y,h1,rfl⟩:=Pt s j d hd;have hjs:j<s.length:=(I0.1 h1).1;simp only[Sort.putCells,Array.toList_mapIdx,List.getElem?_mapIdx]at hx
   cases hcj:cur[j]? with
   | none=>simp[hcj]at hx
   | some z=>
    simp only[hcj,S_,K3,U8,true_and,L_,QeY]at hx
    rw[if_pos (by simpa using hjs)]at hx
    have:(List.toArray s:Array Int)[j]! = y:=by rw[getElem!_def];simp[h1]
    rw[this]at hx;subst hx;exact .i _ _
 ·simp[av,I5,Kr]
 ·intro b' hb'
  exact hpl.I7 b' (by simpa[av,I5,Kr]using hb')
 ·intro b' hb'
  exact O8 (hpl.lt b' (by simpa[av,I5,Kr]using hb')) vO
 ·intro b' hb'
  exact .inl (by simpa[av,I5,Kr]using hb')
def Rb(l:List Int):Option (List Int):=cond l.isEmpty (some []) (Ra l)
theorem Eb{f:FuncId}(h:Lf (F:=F) P f ⟨[.row (.int .i64) false],[],λa=>Ra a.1⟩)
  (hw:∀(p:Option Addr)(cap:Nat)(w:World),Calls P f #[.slice p 0 cap] w λe w'=>e = .returned (.tuple #[])∧RowKit.Below w.heap.size w w'∧w.drawn≤w'.drawn) :
  Lf (F:=F) P f ⟨[.row (.int .i64) false],[],λa=>Rb a.1⟩:=by
 refine⟨h.1,?_⟩;intro a r hr I7 w vs Jg Jv KN hpl Kl;obtain⟨l,u⟩:=a;dsimp only at hr;unfold Rb at hr
 cases he:List.isEmpty l with
 | false=>rw[he,cond_false]at hr;exact h.2 (l,u) r hr I7 w vs Jg Jv KN hpl Kl
 | true=>
  rw[he,cond_true]at hr;have hl:l = []:=QeG.1 he;subst hl;have hr':r=([]:List Int):=(Option.some.inj hr).symm;clear hr he;subst hr';obtain⟨v,vs',p1,p2,b1,b2,rfl,rfl,rfl,⟨pl,rfl,rfl,hrow,hv⟩,rfl,rfl,rfl⟩:=KN;have hv:Ll pl v:=hv
  obtain⟨p,cap,rfl⟩:∃p cap,v = .slice p 0 cap:=by
   cases pl with
   | none=>obtain⟨p,rfl⟩:=hv;exact⟨p,0,rfl⟩
   | some q=>obtain⟨b,cap,n⟩:=q;obtain⟨hn,_⟩:=hrow;cases hv;rw[hn];exact⟨_,_,rfl⟩
  refine(hw p cap w).mono ?_;rintro e w' ⟨rfl,hb,hd⟩;have hown:∀b∈I5 ([pl]++[]),b<w.heap.size:=hpl.lt
  refine⟨[],I7,[],rfl,hb.os,hb.tape,hb.output,hd,hb.size,λb hlt _=>hb.block b hlt,λ_ h=>h,λ_ h=>.inl h,λb hb'=>O8 (Kl b hb') hb.size,⟨pl,rfl,rfl,?_,rfl⟩,⟨by simpa[I5]using hpl.nodup,λb hb'=>hpl.I7 b (by simpa[I5]using hb'),λb hb'=>O8 (hpl.lt b (by simpa[I5]using hb')) hb.size⟩,λb hb'=>.inl (by simpa[I5]using hb')⟩
  refine LX.Mv (λ_ h=>h) (λb hb'=>hb.block b (Kl b hb')) (λb c e=>hb.block b (hown b ?_)) hrow;subst e;simp[I5]
theorem CE{ρ : Ren}(L:Proofs.Lays.n189 P ρ)(hent:bc P (ρ.f 189)):Lf (F:=F) P (ρ.f 189) ⟨[.row (.int .i64) false],[],λa=>Rb a.1⟩:=
 Eb (FI L hent) λp cap w=>(Proofs.Any.slices_Sort_int_none L p cap w).mono (by rintro e w' ⟨rfl,rfl⟩;exact⟨rfl,.refl _ _,KC _⟩)
end
set_option linter.unusedVariables false
structure Lo{α : Type}(a b:Option α):Prop where
 ok:∀r,a=some r→b=some r
end Go.Fx
namespace Go.Fx
open Go Go.Shelf
set_option linter.unusedVariables false
set_option linter.unusedSimpArgs false
section
variable{α : Type}
def Ob(lt:α→α→Bool)(x:α):List α→List α
 | []=>[x]
 | y::l=>if lt y x then y::Ob lt x l else x::y::l
def Mx(lt:α→α→Bool):List α→List α
 | []=>[]
 | x::l=>Ob lt x (Mx lt l)
def Zr(c:Nat→Nat→Option Int)(n:Nat):Bool:=
 (List.range n).all λi=>(List.range n).all λj=>match c i j,c j i with
  | some a,some b=>(if i=j then !(decide (a<0))else(decide (a<0) != decide (b<0)))&&(List.range n).all λk=>match c j k,c i k with
   | some a',some b'=>!(decide (a<0)&&decide (a'<0))||decide (b'<0)
   | _,_=>false
  | _,_=>false
def Vo(l:List α)(x0:α)(i:Nat):α:=l.getD i x0
def cG(φ : α→α→Option Int)(l:List α)(x0:α)(i j:Nat):Option Int:=φ (Vo l x0 i) (Vo l x0 j)
def N9(φ : α→α→Option Int)(x y:α):Bool:=match φ x y with
 | some a=>decide (a<0)
 | none=>false
def XO(φ : α→α→Option Int):List α→Option (List α)
 | []=>some []
 | x::l=>if Zr (cG φ (x::l) x) (l.length+1)&&decide (l.length<1000000000)then some (Mx (N9 φ) (x::l))else none
theorem yG{lt:α→α→Bool}{x y:α}:∀{l:List α},y∈Ob lt x l↔y=x∨y∈l
 | []=>by simp[Ob]
 | z::l=>by
  unfold Ob;split
  ·simp only[Lr,yG (l:=l)];constructor
   ·rintro(h | h | h)<;>simp[h]
   ·rintro(h | h | h)<;>simp[h]
  ·simp
theorem xu{lt:α→α→Bool}{x:α}:∀{l:List α},(Ob lt x l).Perm (x::l)
 | []=>by simp[Ob]
 | z::l=>by
  unfold Ob;split
  ·exact((xu (l:=l)).cons z).trans (.swap x z l)
  ·exact .refl _
theorem nh{lt:α→α→Bool}:∀{l:List α},(Mx lt l).Perm l
 | []=>.refl _
 | x::l=>xu.trans (nh.cons x)
theorem Ay{lt:α→α→Bool}(tr:∀x y z,lt y x=false→lt z y=false→lt z x=false)(asm:∀x y,lt x y=true→lt y x=false){x:α}:∀{l:List α},l.Pairwise (λa b=>lt b a=false)→(Ob lt x l).Pairwise (λa b=>lt b a=false)
 | [],_=>by simp[Ob]
 | z::l,h=>by
  unfold Ob;have h':=List.pairwise_cons.1 h;split
  ·rename_i hz;refine List.pairwise_cons.2 ⟨?_,Ay tr asm h'.2⟩;intro y hy;rcases yG.1 hy with rfl | hy
   ·exact asm _ _ hz
   ·exact h'.1 y hy
  ·rename_i hz;refine List.pairwise_cons.2 ⟨?_,h⟩;intro y hy
   have hz':lt z x=false:=by simpa using hz
   rcases Lr.1 hy with rfl | hy
   ·exact hz'
   ·exact tr x z y hz' (h'.1 y hy)
theorem yJ{lt:α→α→Bool}(tr:∀x y z,lt y x=false→lt z y=false→lt z x=false)(asm:∀x y,lt x y=true→lt y x=false):∀{l:List α},(Mx lt l).Pairwise (λa b=>lt b a=false)
 | []=>by simp[Mx]
 | x::l=>Ay tr asm (yJ tr asm)
theorem yN{β : Type}{lt:α→α→Bool}{lt':β→β→Bool}(f:β→α)(h:∀a b,lt (f a) (f b)=lt' a b)(x:β):∀l:List β,(Ob lt' x l).map f=Ob lt (f x) (l.map f)
 | []=>by simp[Ob]
 | y::l=>by
  simp only[Ob,K7,h];split
  ·simp[yN f h x l]
  ·simp
theorem xt{β : Type}{lt:α→α→Bool}{lt':β→β→Bool}(f:β→α)(h:∀a b,lt (f a) (f b)=lt' a b):∀l:List β,(Mx lt' l).map f=Mx lt (l.map f)
 | []=>rfl
 | x::l=>by simp only[Mx,K7,yN f h,xt f h l]
theorem FM{c:Nat→Nat→Option Int}{n:Nat}(h:Zr c n=true):(∀i j,i<n→j<n→∃a,c i j=some a)∧(∀i a,i<n→c i i=some a→¬ a<0)∧(∀i j a b,i<n→j<n→i≠j→c i j=some a→c j i=some b→(a<0↔¬ b<0))∧(∀i j k a b d,i<n→j<n→k<n→c i j=some a→c j k=some b→c i k=some d→a<0→b<0→d<0):=by
 unfold Zr at h;simp only[Oe,WV]at h;refine⟨?_,?_,?_,?_⟩
 ·intro i j hi hj;have:=h i hi j hj
  cases hc:c i j with
  | none=>rw[hc]at this;cases this
  | some a=>exact⟨a,rfl⟩
 ·intro i a hi hc;have:=h i hi i hi;rw[hc]at this;simp only[if_true,KV,Rp,decide_eq_false_iff_not]at this;exact this.1
 ·intro i j a b hi hj hne h1 h2;have:=h i hi j hj;rw[h1,h2]at this;simp only[if_neg hne,KV,bne_iff_ne,ne_eq]at this;have h3:=this.1
  by_cases ha:a<0<;>by_cases hb:b<0<;>simp[ha,hb]at h3 ⊢
 ·intro i j k a b d hi hj hk h1 h2 h3 ha hb;have:=h i hi j hj;rw[h1]at this
  cases hji:c j i with
  | none=>rw[hji]at this;cases this
  | some e=>rw[hji]at this;simp only[KV,Oe,WV]at this;have h4:=this.2 k hk;rw[h2,h3]at h4;simpa[ha,hb]using h4
end
section
variable{F:Fam}{P:Program}
def K4{t:Ty}(φ : Js F [t,t]→Option (ET F (.int .i64)))(x y:ET F t):Option Int:=φ (x,y,())
def XM(t:Ty)(φ : Js F [t,t]→Option (ET F (.int .i64)))(l:List (ET F t)):Option (List (ET F t)):=XO (K4 φ) l
set_option maxHeartbeats 1000000 in
theorem Ep{ρ : Ren}(L:Proofs.SlLaysF0.n6 P ρ){n:Nat}(aE:∀w,(isAgg (ρ.t 24)).run P w = .ok true w)(zE:∀w,(Go.sizeOf (ρ.t 24)).run P w = .ok (Jm F (.st n)) w)
  (hf:cB F (.st n)=true) (h0:0<Jm F (.st n)) (hent:bc P (ρ.f 6)) (hmp:(Ty.st n).KX=false:=by rfl) :
  Lf (F:=F) P (ρ.f 6) ⟨[.row (.st n) false,.fn [.st n,.st n] (.int .i64)],[],λa=>XM (.st n) a.2.1 a.1⟩:=by
 refine⟨hent,?_⟩;intro a r hr I7 w vs Jg Jv KN hpl Kl;obtain⟨l,φ,u⟩:=a;obtain⟨v,vs',p1,p2,b1,b2,rfl,rfl,rfl,⟨pl,rfl,rfl,hrow,hv⟩,v2,vs2,p3,p4,b3,b4,rfl,rfl,rfl,⟨rfl,rfl,hfn⟩,rfl,rfl,rfl⟩:=KN;obtain⟨fid,bound,captured,rfl,hbd,hcan,hcall⟩:=hfn
 have hb0:bound = []:=hbd.resolve_right (by simp)
 subst hb0;dsimp only at hr
 have hv:Ll pl v:=by unfold UF at hv;rw[if_neg (by rw[hmp];simp)]at hv;exact hv
 have ajc:=hrow;rw[dF hmp]at hrow
 cases l with
 | nil=>
  have hr':r = []:=(Option.some.inj hr).symm;subst hr'
  have hp:∃p cap,v = .slice p 0 cap:=by
   cases pl with
   | none=>obtain⟨p,rfl⟩:=hv;exact⟨_,_,rfl⟩
   | some q=>obtain⟨b,cap,n⟩:=q;obtain⟨rfl,_⟩:=hrow;cases hv;exact⟨_,_,rfl⟩
  obtain⟨p,cap,rfl⟩:=hp;refine(Proofs.AnyF.slices_SortFunc_none L p cap (.func (.func fid) ⟨[]⟩ ⟨captured⟩) w).mono ?_;rintro e w' ⟨rfl,rfl⟩
  exact⟨[],I7,[],rfl,rfl,rfl,rfl,KC _,KC _,λ_ _ _=>rfl,λ_ h=>h,λ_ h=>.inl h,Kl,⟨pl,rfl,rfl,ajc,rfl⟩,by simpa[av,I5,Kr]using hpl,by intro b hb;exact .inl (by simpa[av,I5,Kr]using hb)⟩
 | cons x0 l0=>
  have hr2:(if Zr (cG (K4 φ) (x0::l0) x0) (l0.length+1)&&decide (l0.length<1000000000)then some (Mx (N9 (K4 φ)) (x0::l0))else none)=some r:=hr
  split at hr2
  rotate_left
  ·cases hr2
  rename_i hc;simp only[KV,decide_eq_true_eq]at hc;obtain⟨hok,hlen⟩:=hc;have hr':r=Mx (N9 (K4 φ)) (x0::l0):=(Option.some.inj hr2).symm;clear hr hr2;subst hr'
  cases pl with
  | none=>cases hrow
  | some q=>
  obtain⟨b,cap,n'⟩:=q;obtain⟨rfl,hle,hmx,cur,e,hb,hcl,hcr⟩:=hrow;cases hv;obtain⟨k1,k2,k3,k4⟩:=FM hok;have hl0:(x0::l0:List (ET F (.st n))).length=l0.length+1:=rfl;rw[← hl0]at k1 k2 k3 k4
  have Tp:∀i j:Fin (x0::l0:List (ET F (.st n))).length,cG (K4 φ) (x0::l0) x0 i.1 j.1=K4 φ ((x0::l0).get i) ((x0::l0).get j):=by
   intro i j;unfold cG Vo
   have gd:∀q:Fin (x0::l0:List (ET F (.st n))).length,(x0::l0:List (ET F (.st n))).getD q.1 x0=(x0::l0:List (ET F (.st n))).get q:=by intro q;rw[List.getD_eq_getElem?_getD,IZ q.2];rfl
   rw[gd,gd]
  have hlen':(x0::l0:List (ET F (.st n))).length<4611686018427387904:=by rw[hl0];omega
  generalize hl:(x0::l0:List (ET F (.st n)))=l at *
  have hne:0<l.length:=by rw[← hl];simp
  haveI:Inhabited (Fin l.length):=⟨⟨0,hne⟩⟩
  have hval:∀i j:Fin l.length,∃a,K4 φ (l.get i) (l.get j)=some a:=λi j=>by obtain⟨a,ha⟩:=k1 i.1 j.1 i.2 j.2;exact⟨a,(Tp i j).symm.trans ha⟩
  have cfv:∀(i j:Fin l.length)(a:Int),K4 φ (l.get i) (l.get j)=some a→(K4 φ (l.get i) (l.get j)).getD 0=a:=λi j a h=>by rw[h];rfl
  have hlt:∀(i j:Fin l.length)(a:Int),K4 φ (l.get i) (l.get j)=some a→N9 (K4 φ) (l.get i) (l.get j)=decide (a<0):=λi j a h=>by unfold N9;rw[h]
  have hcf:Proofs.ltOf (λi j:Fin l.length=>(K4 φ (l.get i) (l.get j)).getD 0) = λi j=>N9 (K4 φ) (l.get i) (l.get j):=by
   funext i j
   obtain⟨a,ha⟩:=hval i j;rw[hlt i j a ha];show decide ((K4 φ (l.get i) (l.get j)).getD 0<0)=_;rw[ha];rfl
  have XA:∀i:Fin l.length,N9 (K4 φ) (l.get i) (l.get i)=false:=λi=>by obtain⟨a,ha⟩:=hval i i;rw[hlt i i a ha];exact decide_eq_false (k2 i.1 a i.2 ((Tp i i).trans ha))
  have tri:∀i j:Fin l.length,i≠j→(N9 (K4 φ) (l.get i) (l.get j)=true↔N9 (K4 φ) (l.get j) (l.get i)=false):=λi j hij=>by obtain⟨a,ha⟩:=hval i j;obtain⟨a',ha'⟩:=hval j i;rw[hlt i j a ha,hlt j i a' ha',decide_eq_true_eq,decide_eq_false_iff_not];exact k3 i.1 j.1 a a' i.2 j.2 (λh=>hij (Fin.ext h)) ((Tp i j).trans ha) ((Tp j i).trans ha')
  have trn:∀i j k:Fin l.length,N9 (K4 φ) (l.get i) (l.get j)=true→N9 (K4 φ) (l.get j) (l.get k)=true→N9 (K4 φ) (l.get i) (l.get k)=true:=λi j k=>by obtain⟨a,ha⟩:=hval i j;obtain⟨a',ha'⟩:=hval j k;obtain⟨a'',acy⟩:=hval i k;rw[hlt i j a ha,hlt j k a' ha',hlt i k a'' acy,decide_eq_true_eq,decide_eq_true_eq,decide_eq_true_eq];exact k4 i.1 j.1 k.1 a a' a'' i.2 j.2 k.2 ((Tp i j).trans ha) ((Tp j k).trans ha') ((Tp i k).trans acy)
  have asy:∀i j:Fin l.length,N9 (K4 φ) (l.get i) (l.get j)=true→N9 (K4 φ) (l.get j) (l.get i)=false:=λi j h=>by
   by_cases hij:i=j
   ·subst hij;rw[XA i]at h;cases h
   ·exact(tri i j hij).1 h
  have hT:∀i j:Fin l.length,N9 (K4 φ) (l.get i) (l.get j)=false→N9 (K4 φ) (l.get j) (l.get i)=false→i=j:=λi j h h'=>by
   by_cases hij:i=j
   ·exact hij
   ·have:=(tri i j hij).2 h';rw[h]at this;cases this
  have ntr:∀i j k:Fin l.length,N9 (K4 φ) (l.get i) (l.get j)=false→N9 (K4 φ) (l.get j) (l.get k)=false→N9 (K4 φ) (l.get i) (l.get k)=false:=λi j k h h'=>by
   by_cases hij:i=j
   ·subst hij;exact h'
   ·by_cases hjk:j=k
    ·subst hjk;exact h
    ·have h1:N9 (K4 φ) (l.get j) (l.get i)=true:=(tri j i (λh=>hij h.symm)).2 h;have h2:N9 (K4 φ) (l.get k) (l.get j)=true:=(tri k j (λh=>hjk h.symm)).2 h';exact asy k i (trn k j i h2 h1)
  have hO:Sort.SWO (Proofs.ltOf (λi j:Fin l.length=>(K4 φ (l.get i) (l.get j)).getD 0)):=by rw[hcf];exact⟨XA,trn,ntr⟩
  have hblk:b<w.heap.size:=(P_.1 hb).1
  have Sy:¬ I7 b:=hpl.I7 b (by simp[av,I5,Kr])
  have hk:∀i:Fin l.length,(Nb (.st n) (l.get i)).length=Jm F (.st n):=λi=>by rw[Nb,OD,aT]
  have h1:∀i:Fin l.length,∀v∈Nb (.st n) (l.get i),v.oneCell'=true:=λi v hv=>by obtain⟨d,_,rfl⟩:=Oz.1 hv;exact EQ
  have Pt:∀(s:List (Fin l.length)) (j:Nat) (d:ND F),(cells F (.st n) (s.map l.get))[j]? = some d→j<s.length*Jm F (.st n)∧(Sort.flatK (λi:Fin l.length=>Nb (F:=F) (.st n) (l.get i)) (Jm F (.st n)) s.toArray)[j]! = UD d∧d.UL=true:=by
   intro s j d hd
   have hj:j<s.length*Jm F (.st n):=by
    have:=(I0.1 hd).1
    rwa [aD,OD]at this
   obtain⟨e',he1,he2⟩:=wy h0 (es:=(s.map l.get).map (Jj F (.st n))) (by intro e he;obtain⟨y,_,rfl⟩:=Oz.1 he;exact aT F _ y) hd
   rw[MU]at he1;obtain⟨y,hy1,hy2⟩:=RN.1 he1;subst hy2;rw[MU]at hy1;obtain⟨i,hi1,hi2⟩:=RN.1 hy1;subst hi2;refine⟨hj,?_,AJ hf (l.get i) d (Rq he2)⟩
   rw[Sort.get_flatK _ _ _ _ (by simpa using hj)]
   have e1:(s.toArray)[j / Jm F (.st n)]! = i:=by rw[getElem!_def];simp[hi1]
   rw[e1]
   have e2:(Nb (F:=F) (.st n) (l.get i))[j % Jm F (.st n)]? = some (UD d):=by unfold Nb;rw[MU,he2];rfl
   rw[getElem!_def,e2]
  have hfr:(List.finRange l.length).map l.get=l:=by
   apply ZC;intro i;rw[MU];by_cases hi:i<l.length
   ·rw[IZ (by simpa using hi),IZ hi]
    simp
   ·rw[QdG (by simpa using hi),QdG (by omega)]
    rfl
  have hH:Sort.HoldsK (λi:Fin l.length=>Nb (F:=F) (.st n) (l.get i)) (Jm F (.st n)) w b 0 (List.finRange l.length).toArray:=by
   intro j hj;rw[Sort.size_flatK]at hj
   have hj':j<(cells F (.st n) l).length:=by rw[aD];simpa using hj
   have hjc:j<cur.length:=by rw[hcl];have:l.length*Jm F (.st n)≤cap*Jm F (.st n):=M5 _ hle;rw[aD]at hj';omega
   have hat:=Pt (List.finRange l.length) j _ (by rw[hfr];exact IZ hj')
   obtain⟨_,q1,q2⟩:=hat;have q3:=A_ q2 (hcr j _ _ (IZ hj') (IZ hjc));refine⟨?_,?_⟩
   ·simp only[World.cell?,hb,L_];rw[q1,← q3];simp[hjc]
   ·simp[World.frozen?,hb]
  have hcmp:Proofs.CmpLays P fid ⟨captured⟩ (λi:Fin l.length=>Nb (F:=F) (.st n) (l.get i)) (Jm F (.st n)) (λi j:Fin l.length=>(K4 φ (l.get i) (l.get j)).getD 0) b 0 (List.finRange l.length).toArray.size w:=by
   intro m os dk hdk i j;obtain⟨c,hc⟩:=hval i j;have ec:(K4 φ (l.get i) (l.get j)).getD 0=c:=cfv i j c hc;dsimp only;rw[ec]
   have rp:∀(z:ET F (.st n)) (W:World),Md W I7 (Jj F (.st n) z,true) (.agg ⟨Nb (.st n) z⟩):=by
    intro z W
    refine .agg (by simp[Nb]) ?_
    intro j d v h h';simp only[Nb,MU,h,S_,K3]at h';subst h';exact xY (AJ hf z d (Rq h))
   have hw:=hcall (Proofs.sortWorldK (λi:Fin l.length=>Nb (F:=F) (.st n) (l.get i)) (Jm F (.st n)) w b 0 m dk os) I7 (λb' hb'=>⟨hb',zm (λe=>Sy (e▸hb')) (Kl b' hb')⟩) (λb' hb'=>O8 (Kl b' hb') sG) (l.get i,l.get j,()) c
    [.agg ⟨Nb (.st n) (l.get i)⟩,.agg ⟨Nb (.st n) (l.get j)⟩] hc (by
     refine⟨rfl,?_⟩;intro q d v h h'
     match q with
     | 0=>simp only[MB,M9,K3]at h h';subst h h';exact rp _ _
     | 1=>simp only[MB,W_,M9,K3]at h h';subst h h';exact rp _ _
     | q+2=>simp[MB]at h)
   have ea:(#[.agg (Nb (.st n) (l.get i)).toArray,.agg (Nb (.st n) (l.get j)).toArray]++⟨captured⟩:Array Value)=⟨[.agg ⟨Nb (.st n) (l.get i)⟩,.agg ⟨Nb (.st n) (l.get j)⟩]++captured⟩:=by apply Array.ext';simp
   rw[ea];refine hw.mono ?_;rintro e' w'' ⟨v',rfl,hbl,hrt,hdr⟩;refine⟨?_,Bl hbl hdr⟩
   cases hrt with
   | one h=>rw[A_ rfl h];rfl
  have main:=Proofs.AnyQ.slices_SortFunc_total L (Jm F (.st n)) aE zE (λi:Fin l.length=>Nb (F:=F) (.st n) (l.get i)) hk h1 (λi j:Fin l.length=>(K4 φ (l.get i) (l.get j)).getD 0) hO fid ⟨captured⟩ b 0 cap (List.finRange l.length).toArray w (λargs w=>sj hcan args w) hcmp hH hblk (by rw[List.size_toArray,List.length_finRange];exact hlen') (by rw[hcf];exact hT)
  rw[show(List.finRange l.length).toArray.size=l.length by simp]at main
  refine main.mono ?_;rintro e' w' ⟨rfl,m,os,rfl⟩
  have hs:((List.finRange l.length).toArray.toList.mergeSort λx y=>!(Proofs.ltOf (λi j:Fin l.length=>(K4 φ (l.get i) (l.get j)).getD 0)) y x)=Mx (λi j:Fin l.length=>N9 (K4 φ) (l.get i) (l.get j)) (List.finRange l.length):=by
   rw[hcf];show(List.finRange l.length).mergeSort _=_;refine List.Perm.eq_of_pairwise (le:=λi j=>N9 (K4 φ) (l.get j) (l.get i)=false) (λi j _ _ h h'=>(hT i j h' h)) ?_ ?_ ((List.mergeSort_perm _ _).trans nh.symm)
   ·have:=List.pairwise_mergeSort (le:=λi j:Fin l.length=>!(N9 (K4 φ) (l.get j) (l.get i))) (by
     intro i j k h h';simp only[Rp]at h h' ⊢
     exact ntr k j i h' h) (by
     intro i j
     cases h:N9 (K4 φ) (l.get j) (l.get i)with
     | false=>rfl
     | true=>rw[asy j i h];rfl) (List.finRange l.length)
    refine this.imp ?_;intro i j h;simpa using h
   ·exact yJ (λi j k h h'=>ntr k j i h' h) asy
  rw[hs]
  have hm:(Mx (λi j:Fin l.length=>N9 (K4 φ) (l.get i) (l.get j)) (List.finRange l.length)).map l.get=Mx (N9 (K4 φ)) l:=by rw[xt (lt:=N9 (K4 φ)) l.get (λ_ _=>rfl),hfr]
  have hsl:(Mx (λi j:Fin l.length=>N9 (K4 φ) (l.get i) (l.get j)) (List.finRange l.length)).length=l.length:=by rw[nh.length_eq];simp
  rw[← hm];generalize(Mx (λi j:Fin l.length=>N9 (K4 φ) (l.get i) (l.get j)) (List.finRange l.length))=s at *;refine⟨[],I7,[],rfl,rfl,rfl,rfl,?_,sG,?_,λ_ h=>h,λ_ h=>.inl h,λb' hb'=>O8 (Kl b' hb') sG,⟨some (b,cap,l.length,[]),rfl,rfl,Eq.mpr (dF hmp) ?_,rfl⟩,⟨?_,?_,?_⟩,?_⟩
  ·simp[Proofs.sortWorldK,Sort.grow,Sort.putRowK,Sort.putRow,Sort.mapBlock,Sort.ahead]
  ·intro b' hlt hno
   exact zm (λe=>hno (by simp[av,I5,Kr,e])) hlt
  ·refine⟨by rw[OD,hsl],by rw[OD,hsl];exact hle,hmx,(Sort.putCells id 0 (Sort.flatK (λi:Fin l.length=>Nb (F:=F) (.st n) (l.get i)) (Jm F (.st n)) s.toArray) ⟨cur⟩).toList,e,FY hb,?_,?_⟩
   ·simp[Sort.putCells,hcl]
   ·intro j d x hd hx;obtain⟨q0,q1,q2⟩:=Pt s j d hd;simp only[Sort.putCells,Array.toList_mapIdx,List.getElem?_mapIdx]at hx
    cases hcj:cur[j]? with
    | none=>simp[hcj]at hx
    | some y=>
     simp only[hcj,S_,K3,U8,true_and,L_,QeY,Sort.size_flatK,id]at hx
     rw[if_pos (by simpa using q0),q1]at hx
     subst hx;exact xY q2
  ·simp[av,I5,Kr]
  ·intro b' hb'
   exact hpl.I7 b' (by simpa[av,I5,Kr]using hb')
  ·intro b' hb'
   exact O8 (hpl.lt b' (by simpa[av,I5,Kr]using hb')) sG
  ·intro b' hb'
   exact .inl (by simpa[av,I5,Kr]using hb')
end
end Go.Fx
namespace Go.Fx
open Go Go.Proofs Go.RowKit
set_option linter.unusedVariables false
set_option linter.unusedSimpArgs false
def del{α : Type}(l:List α)(i j:Int):Option (List α):=if 0≤i∧i≤j∧j≤l.length then some (l.take i.toNat++l.drop j.toNat)else none
def lp(P:Program)(f:FuncId)(ts e sz:Nat):Prop:=
 ∀(b n cap i j:Nat)(w:World),n≤cap→cap≤9223372036854775807→i<j→j≤n→∀(i0:TypeInfo),P.info? e=some i0→i0.size=sz→∀(A:Addr),(if cap=j then some (⟨b,0,none⟩:Addr)else some ⟨b,j*sz,none⟩)=some A→∀(news:List Value),
  Hid (news.length=(n - j)*sz)→Hid (∀t u,news[t]? = some u→w.drew.cell? (A.add t)=some u)→Hid (∀u∈news,u.oneCell'=true)→
  Hid (∀t,t<news.length→(w.drew.cell? ⟨b,0+i*sz+t,none⟩).isSome=true∧w.drew.frozen? ⟨b,0+i*sz+t,none⟩=false)→
  ∀(W1 W2:World),Hid (W1=w.drew.setCells b (0+i*sz) news)→
  (∀ty,(Builtin.clear_ #[ts] ty #[.slice (some ⟨b,(i+(n - j))*sz,none⟩) (n - (i+(n - j))) (cap - (i+(n - j)))]).run P W1 = .ok (.tuple #[]) W2)→
  Calls P f #[.slice (some ⟨b,0,none⟩) n cap,.int .i64 i,.int .i64 j] w λe w'=>e = .returned (.slice (some ⟨b,0,none⟩) (i+(n - j)) cap)∧w'=W2
def lj(P:Program)(f:FuncId):Prop:=
 (∀(b n cap i:Nat)(w:World),n≤cap→i≤n→Calls P f #[.slice (some ⟨b,0,none⟩) n cap,.int .i64 i,.int .i64 i] w λe w'=>e = .returned (.slice (some ⟨b,0,none⟩) n cap)∧w'=w)∧
 ∀(p:Option Addr)(w:World),Calls P f #[.slice p 0 0,.int .i64 0,.int .i64 0] w λe w'=>e = .returned (.slice p 0 0)∧w'=w
section
variable{F:Fam}{P:Program}{T:TypeId→Option (TI F)}
theorem yY{w:World}{b o:Nat}{cur vs:List Value}{t:TypeId}(hb:w.heap[b]? = some (.cells ⟨cur⟩ t (0,0)))(hl:o+vs.length≤cur.length)(h1:∀v∈vs,v.oneCell'=true) :
  w.setCells b o vs=w.setRow b (cur.take o++vs++cur.drop (o+vs.length)).toArray:=by
 have r1:=run_storeCells_at (default:Program) b o t vs 0 ⟨cur⟩ w hb (by simpa using hl) h1
 have r2:=run_storeCells_cells (P:=(default:Program)) b o vs 0 w (by
  intro j hj;simp only[World.cell?,hb,R4];simp
  omega) (by
  intro j hj;simp[World.frozen?,hb]) h1
 rw[r1]at r2;simp only[R4]at r2
 injection r2 with _ h
 exact h.symm
theorem pZ(hT:J5 P T){f ts e sz:Nat}{t:Ty}{te:TI F}(hte:T e=some te)(RI:te.ty=some t)(hsz:te.size=sz)(h0:0<sz)(hts:P.underlying ts=some (.slice e))(hent:bc P f)(wn:lj P f)(wb:lp P f ts e sz)(hmp:t.KX=false:=by rfl) :
  Lf (F:=F) P f ⟨[.v (.slice t) [0],.v (.int .i64) [],.v (.int .i64) []],[.v (.slice t) [0]],λa=>del a.1 a.2.1 a.2.2.1⟩:=by
 refine⟨hent,?_⟩;intro a r hr I7 w vs Jg Jv KN hpl Kl;obtain⟨l,i,j,u⟩:=a;have hr:del l i j=some r:=hr;unfold del at hr;split at hr
 rotate_left
 ·cases hr
 rename_i hc;have c1:(0:Int)≤i:=hc.1;have c2:(i:Int)≤j:=hc.2.1;have c3:(j:Int)≤((List.length l:Nat):Int):=hc.2.2;have c4:(0:Int)≤j:=Int.le_trans c1 c2;have hr':r=l.take i.toNat++l.drop j.toNat:=(Option.some.inj hr).symm;clear hr;obtain⟨i',rfl⟩:∃i':Nat,i=i':=⟨Int.toNat i,(QeI c1).symm⟩;obtain⟨j',rfl⟩:∃j':Nat,j=j':=⟨Int.toNat j,(QeI c4).symm⟩;simp only[Ut]at hr';obtain⟨v,vs',p1,p2,b1,b2,rfl,rfl,rfl,⟨h1,rfl⟩,v2,vs2,p3,p4,b3,b4,rfl,rfl,rfl,⟨h2,rfl⟩,v3,vs3,p5,p6,b5,b6,rfl,rfl,rfl,⟨h3,rfl⟩,rfl,rfl,rfl⟩:=KN;unfold KG at h1 h2 h3;simp only[Ty.K9,Ni,if_false,Jj,Ke,Jw,Nat.beq,if_true]at h1 h2 h3;obtain⟨pl,rest,rfl,hrow,hv,rfl⟩:=h1;rw[dF hmp]at hrow;rw[go hmp]at hv;obtain⟨h2,rfl⟩:=h2;obtain⟨h3,rfl⟩:=h3;cases h2;cases h3;have ei:(⟨[v,.int .i64 (i':Int),.int .i64 (j':Int)]⟩:Array Value) = #[v,.int .i64 (i':Int),.int .i64 (j':Int)]:=rfl
 have held:∀(w':World)(P6:Pl)(v':Value),bD w' I7 t r P6→Ll P6 v'→bF P w' I7 (outs ⟨[.v (.slice t) [0],.v (.int .i64) [],.v (.int .i64) []],[.v (.slice t) [0]],λa=>del a.1 a.2.1 a.2.2.1⟩) r [v'] [] [P6]:=by intro w' P6 v' k1 k2;refine⟨v',rfl,rfl,?_,rfl⟩;unfold KG;simp only[Ty.K9,Ni,if_false,Jj,Ke,Jw,Nat.beq,if_true];exact⟨P6,[],rfl,Eq.mpr (dF hmp) k1,Eq.mpr (go hmp) k2,rfl⟩
 by_cases hij:i'=j'
 ·subst hij
  have hrl:r=l:=by rw[hr',Uw]
  have hcall:∃p n cap,v = .slice p n cap∧Calls P f #[.slice p n cap,.int .i64 i',.int .i64 i'] w λe w'=>e = .returned (.slice p n cap)∧w'=w:=by
   cases pl with
   | none=>
    obtain⟨p,rfl⟩:=hv
    have hl0:l.length=0:=by rw[hrow];rfl
    have hi0:i'=0:=by omega
    subst hi0;exact⟨p,0,0,rfl,wn.2 p w⟩
   | some q=>
    obtain⟨b,cap,n⟩:=q;obtain⟨rfl,hle,_⟩:=hrow;cases hv
    exact⟨_,_,_,rfl,wn.1 b _ cap i' w hle (by omega)⟩
  obtain⟨p,n,cap,rfl,hc⟩:=hcall;refine hc.mono ?_;rintro e' w' ⟨rfl,rfl⟩
  refine⟨[.slice p n cap],I7,[pl],rfl,rfl,rfl,rfl,KC _,KC _,λ_ _ _=>rfl,λ_ h=>h,λ_ h=>.inl h,Kl,held _ _ _ (by rw[hrl];exact hrow) hv,by simpa[av,I5,Kr]using hpl,by intro b hb;exact .inl (by simpa[av,I5,Kr]using hb)⟩
 ·have hlt:i'<j':=by omega
  cases pl with
  | none=>
   have:l.length=0:=by rw[hrow];rfl
   omega
  | some q=>
  obtain⟨b,cap,n⟩:=q;obtain⟨rfl,hle,hmx,cur,e0,hb,hcl,hcr⟩:=hrow;cases hv
  have OX:Jm F t=sz:=by rw[← hsz];exact hT.ty e te t hte RI
  rw[OX]at hcl;have hblk:b<w.heap.size:=(P_.1 hb).1;obtain⟨i0,hi0,hs,_,z,hz,hzs,hzl,WQ⟩:=hT.info e te hte
  have hs':i0.size=sz:=by rw[hs,hsz]
  have hdb:w.drew.heap[b]? = some (.cells ⟨cur⟩ e0 (0,0)):=hb
  have hjl:j'≤l.length:=by omega
  have hcells:(cells F t l).length=l.length*sz:=by rw[aD,OX]
  have one:∀k x,k<l.length*sz→cur[k]? = some x→x.oneCell'=true:=by
   intro k x hk hx
   exact(hcr k _ x (IZ (by rw[hcells];exact hk)) hx).oneCell
  have aaE:l.length*sz≤cap*sz:=M5 _ hle;have R8:j'*sz≤l.length*sz:=M5 _ hjl
  have hisz:i'*sz≤j'*sz:=M5 _ (by omega)
  have hsub:(l.length - j')*sz=l.length*sz - j'*sz:=Nat.sub_mul _ _ _;have hsum:(i'+(l.length - j'))*sz=i'*sz+(l.length - j')*sz:=OQ _ _ _
  have htl:(l.length - (i'+(l.length - j')))*sz=j'*sz - i'*sz:=by rw[show l.length - (i'+(l.length - j'))=j' - i' by omega,Nat.sub_mul]
  obtain⟨news,hnews⟩:∃news,news=(cur.drop (j'*sz)).take ((l.length - j')*sz):=⟨_,rfl⟩
  have nl:news.length=(l.length - j')*sz:=by rw[hnews,Lj,Nh,hcl];omega
  have Xi:∀k x,news[k]? = some x→cur[j'*sz+k]? = some x∧k<(l.length - j')*sz:=by intro k x hk;have hlt':=(I0.1 hk).1;rw[nl]at hlt';rw[hnews,MV,if_pos hlt',OC]at hk;exact⟨hk,hlt'⟩
  have n1:∀x∈news,x.oneCell'=true:=by
   intro x hx;obtain⟨k,hk⟩:=RL hx;obtain⟨q1,q2⟩:=Xi k x hk
   exact one _ x (by omega) q1
  obtain⟨A,hA,hsrc⟩:∃A:Addr,(if cap=j' then some (⟨b,0,none⟩:Addr)else some ⟨b,j'*sz,none⟩)=some A∧(∀k x,news[k]? = some x→w.drew.cell? (A.add k)=some x):=by
   by_cases h:cap=j'
   ·refine⟨⟨b,0,none⟩,by simp[h],λk x hk=>?_⟩
    have:=(Xi k x hk).2
    rw[show l.length - j'=0 by omega]at this
    omega
   ·refine⟨⟨b,j'*sz,none⟩,by simp[h],λk x hk=>?_⟩
    rw[Addr.add_lit];simp only[World.cell?,hdb];simpa using(Xi k x hk).1
  have w1e:w.drew.setCells b (0+i'*sz) news=w.drew.setRow b (cur.take (0+i'*sz)++news++cur.drop (0+i'*sz+news.length)).toArray:=yY hdb (by rw[nl,hcl];omega) n1
  have hb1:(w.drew.setRow b (cur.take (0+i'*sz)++news++cur.drop (0+i'*sz+news.length)).toArray).heap[b]? = some (.cells ⟨cur.take (0+i'*sz)++news++cur.drop (0+i'*sz+news.length)⟩ e0 (0,0)):=setRow_heap w.drew b _ _ e0 _ hdb;obtain⟨Rn,hc1⟩:∃Rn,Rn=cur.take (0+i'*sz)++news++cur.drop (0+i'*sz+news.length):=⟨_,rfl⟩;rw[← hc1]at w1e hb1
  have Wt:Rn.length=cap*sz:=by rw[hc1];simp only[I3,Lj,Nh,nl,hcl];omega
  obtain⟨zs,R7⟩:∃zs,zs=(Builtin.zeroCells z.cells (l.length - (i'+(l.length - j')))).toList:=⟨_,rfl⟩
  have zl:zs.length=j'*sz - i'*sz:=by rw[R7,SV,size_zeroCells,hzs,hsz,htl]
  have z1:∀x∈zs,x.oneCell'=true:=by
   intro x hx
   have hzc:∀y∈z.cells.toList,y.oneCell'=true:=by
    intro y hy;obtain⟨k,hk⟩:=RL hy
    have hkl:k<te.zero.length:=by have:=(I0.1 hk).1;rw[hzl,← hzs];simpa using this
    exact(WQ w I7 k _ y (IZ hkl) (by simpa using hk)).oneCell
   rw[R7]at hx;obtain⟨k,hk⟩:=RL hx;have hk2:=(I0.1 hk);obtain⟨hk3,hk4⟩:=hk2;simp only[Builtin.zeroCells]at hk4;simp at hk4;rw[← hk4]
   have hpos:0<z.cells.size:=by rw[hzs,hsz];exact h0
   have hlt3:k % z.cells.size<z.cells.size:=Nat.mod_lt _ hpos;rw[getElem!_pos z.cells _ hlt3]
   exact hzc _ (by simp)
  obtain⟨R,hR⟩:∃R,R=Rn.take ((i'+(l.length - j'))*sz)++zs++Rn.drop ((i'+(l.length - j'))*sz+zs.length):=⟨_,rfl⟩
  have hW2:∀(W1:World),W1.heap[b]? = some (.cells ⟨Rn⟩ e0 (0,0))→∀ty,(Builtin.clear_ #[ts] ty #[.slice (some ⟨b,(i'+(l.length - j'))*sz,none⟩) (l.length - (i'+(l.length - j'))) (cap - (i'+(l.length - j')))]).run P W1 =
    .ok (.tuple #[]) (W1.setRow b R.toArray):=by
   intro W1 hb1' ty
   have hst:=run_storeCells_at P b ((i'+(l.length - j'))*sz) e0 zs 0 ⟨Rn⟩ W1 hb1' (by rw[zl,hsum];show _≤Rn.length;rw[Wt];omega) z1
   simp only[R4]at hst;rw[← hR]at hst;clear hR
   obtain⟨m,hm⟩:∃m,l.length - (i'+(l.length - j'))=m+1:=⟨l.length - (i'+(l.length - j')) - 1,by omega⟩
   rw[R7,hm]at hst;rw[hm];simp[Builtin.clear_,run_underlying hts,zeroValue,typeInfo,hi0,hz,hst]
  have key:=wb b l.length cap i' j' w hle (by simp only[maxLen]at hmx;omega) hlt hjl i0 hi0 hs' A hA news nl hsrc n1 (λk hk=>by
   rw[nl]at hk;refine⟨?_,?_⟩
   ·simp only[World.cell?,hdb];simp;rw[hcl];omega
   ·simp[World.frozen?,hdb]) _ _ rfl (hW2 _ (by rw[w1e];exact hb1))
  refine key.mono ?_;rintro e' w' ⟨rfl,rfl⟩;rw[w1e]
  have rlen:r.length=i'+(l.length - j'):=by rw[hr',I3,Lj,Nh];omega
  have aoK:((w.drew.setRow b Rn.toArray).setRow b R.toArray).heap[b]? = some (.cells ⟨R⟩ e0 (0,0)):=setRow_heap _ b _ _ e0 _ hb1
  refine⟨[.slice (some ⟨b,0,none⟩) (i'+(l.length - j')) cap],I7,[some (b,cap,r.length,[])],rfl,rfl,rfl,rfl,WT _,?_,?_,λ_ h=>h,λ_ h=>.inl h,?_,held _ _ _ ⟨rfl,by rw[rlen];omega,hmx,_,e0,aoK,?_,?_⟩ ?_,⟨?_,?_,?_⟩,?_⟩
  ·have z1:(w.drew.setRow b Rn.toArray).heap.size=w.heap.size:=by simp[World.setRow]
   have z2:((w.drew.setRow b Rn.toArray).setRow b R.toArray).heap.size=(w.drew.setRow b Rn.toArray).heap.size:=by simp[World.setRow]
   rw[z2,z1];exact KC _
  ·intro b' hlt' hno
   have hne:b'≠b:=λh=>hno (by simp[av,I5,Kr,h])
   rw[setRow_other _ b b' _ hne,setRow_other _ b b' _ hne];rfl
  ·intro b' hb'
   have z1:(w.drew.setRow b Rn.toArray).heap.size=w.heap.size:=by simp[World.setRow]
   have z2:((w.drew.setRow b Rn.toArray).setRow b R.toArray).heap.size=(w.drew.setRow b Rn.toArray).heap.size:=by simp[World.setRow]
   rw[z2,z1];exact Kl b' hb'
  ·rw[hR,OX];simp only[I3,Lj,Nh,zl,Wt];rw[hsum,hsub];omega
  ·intro k d x hd hx
   have hd:(cells F t (l.take i'++l.drop j'))[k]? = some d:=by rw[← hr'];exact hd
   rw[hR]at hx
   have agd:(List.take i' l++List.drop j' l).length=i'+(l.length - j'):=by rw[← hr'];exact rlen
   have hkr:k<(i'+(l.length - j'))*sz:=by
    have:=(I0.1 hd).1
    rwa [aD,OX,agd]at this
   rw[hsum,hsub]at hkr
   rw[MK,ME (by rw[Lj,Wt,hsum,hsub];omega),MV,if_pos (by rw[hsum,hsub];omega),hc1]at hx
   have mono:Ju w I7 d x→Ju ((w.drew.setRow b Rn.toArray).setRow b R.toArray) I7 d x:=λh=>h.mono (λ_ h=>h) (λb' hb'=>by
    have hne:b'≠b:=λe=>hpl.I7 b (by simp[av,I5,Kr]) (e▸hb')
    rw[setRow_other _ b b' _ hne,setRow_other _ b b' _ hne];rfl)
   apply mono
   have ct:cells F t (l.take i')=(cells F t l).take (i'*sz):=by have:=fy (F:=F) (l:=l) (a:=0) (n:=i');rw[OX]at this;simpa[Fx.sub]using this
   have cd:cells F t (l.drop j')=(cells F t l).drop (j'*sz):=by
    have:=fy (F:=F) (l:=l) (a:=j') (n:=l.length);unfold Fx.sub at this
    rw[XK (by simp),OX]at this
    rw[this,XK];rw[Nh,hcells];omega
   rw[dq,ct,cd]at hd;by_cases hki:k<i'*sz
   ·rw[ME (by rw[Lj,hcells];omega),MV,if_pos hki]at hd
    rw[MK,ME (by rw[Lj,hcl];omega),MV,if_pos (by omega)]at hx
    exact hcr k d x hd hx
   ·rw[Nj (by rw[Lj,hcells];omega),Lj,hcells,Nat.min_eq_left (by omega),OC]at hd
    rw[MK,Nj (by rw[Lj,hcl];omega),Lj,hcl,Nat.min_eq_left (by omega),ME (by rw[nl,hsub];omega)]at hx
    have q:=(Xi _ x hx).1;rw[L_]at q;exact hcr _ d x hd q
  ·rw[rlen];rfl
  ·simp[I5,Kr]
  ·intro b' hb'
   exact hpl.I7 b' (by simpa[av,I5,Kr]using hb')
  ·intro b' hb'
   have:b'=b:=by simpa[av,I5,Kr]using hb'
   subst this
   have z1:(w.drew.setRow b' Rn.toArray).heap.size=w.heap.size:=by simp[World.setRow]
   have z2:((w.drew.setRow b' Rn.toArray).setRow b' R.toArray).heap.size=(w.drew.setRow b' Rn.toArray).heap.size:=by simp[World.setRow]
   rw[z2,z1];exact hblk
  ·intro b' hb'
   exact .inl (by simpa[av,I5,Kr]using hb')
end
end Go.Fx
namespace Go.Fx
open Go Go.Proofs Go.RowKit
set_option linter.unusedVariables false
set_option linter.unusedSimpArgs false
section
variable{P:Program}
theorem uM(w:World){o:Oper}{a:Act}{K:Act→World→Prop}{Q:Exit→Act→World→Prop}(d s:Operand)(t t':TypeId)
  (ho:o.op = .call { callee:=.builtin .copy,args:=#[d,s],argTypes:=#[t,t'] }) (v u:Value) (hd:a.eval d=v) (hs:a.eval s=u) {v':Value} {w':World}
  (hr:(Builtin.copy_ #[t,t'] o.type #[v,u]).run P w = .ok v' w') (h:K (a.put o.dst v') w'):o.wp P a w K Q:=by
 unfold Oper.wp execOp;simp only[ho,resolve,invoke,builtin,LM,MO,L8,QeF,K7,LG,hd,hs,hr];exact h
theorem bv(w:World){ops:Array Oper}{rest:List Oper}{o:Oper}{a:Act}{Q:Exit→Act→World→Prop}(hgd:o.guard=none)(d s:Operand)(t t':TypeId)
  (ho:o.op = .call { callee:=.builtin .copy,args:=#[d,s],argTypes:=#[t,t'] }) (v u:Value) (hd:a.eval d=v) (hs:a.eval s=u) {v':Value} {w':World}
  (hr:(Builtin.copy_ #[t,t'] o.type #[v,u]).run P w = .ok v' w') (h:wpList P ops Q rest (a.put o.dst v') w'):wpList P ops Q (o::rest) a w:=
 wpList_plain hgd λ_ hK=>uM w d s t t' ho v u hd hs hr (hK _ _ h)
theorem b9{ops:Array Oper}{o:Oper}{a:Act}{w:World}{K:Act→World→Prop}{Q:Exit→Act→World→Prop}{E:Prop}
  (hg:o.guard=none) (d x:Operand) (dT sT:TypeId) (hop:o.op=Op.call { callee:=Callee.builtin Builtin.copy,args:=#[d,x],argTypes:=#[dT,sT] })
  (v u:Value) (hd:a.eval d=v) (hx:a.eval x=u) {v':Value} {w':World} (hr:(Builtin.copy_ #[dT,sT] o.type #[v,u]).run P w = .ok v' w') (hK:K (a.put o.dst v') w') :
  if Region.wanted o (yielded ops a.tmps)=true then Oper.wp P o a w K Q else E:=by
 rw[if_pos (by simp[Region.wanted,hg])]
 exact uM w d x dT sT hop v u hd hx hr hK
end
theorem o_{P:Program}{w:World}{t t1 ty e:TypeId}{j:TypeInfo}(hu:P.underlying t=some (.slice e))(hj:P.info? e=some j){b q dLen dCap:Nat}{p':Addr}{sLen sCap:Nat}{cur news:List Value}{e':TypeId}
  (hb:w.heap[b]? = some (.cells ⟨cur⟩ e' (0,0))) (hl:news.length=(min sLen dLen)*j.size) (hp:∀(k:Nat)(x:Value),news[k]? = some x→w.cell? (p'.add k)=some x)
  (h1:∀x∈news,x.oneCell'=true) (hfit:q+news.length≤cur.length) :
  (Builtin.copy_ #[t,t1] ty #[.slice (some ⟨b,q,none⟩) dLen dCap,.slice (some p') sLen sCap]).run P w =
    .ok (goInt ((min sLen dLen:Nat):Int)) (w.setRow b (cur.take q++news++cur.drop (q+news.length)).toArray):=by
 have hst:=run_storeCells_at P b q e' news 0 ⟨cur⟩ w hb (by simpa using hfit) h1
 simp only[R4]at hst;have hf:=run_firstCells_some (P:=P) w j.size (min sLen dLen) p' sLen sCap news hl hp;have hm:Nat.min sLen dLen=min sLen dLen:=rfl
 have hc:(((min sLen dLen:Nat)):Int)=min (sLen:Int) (dLen:Int):=by omega
 simp[Builtin.copy_,run_underlying hu,Builtin.lenOf,sizeOf,typeInfo,hj,hf,hm,hst,hc]
def ins{α : Type}(l:List α)(i:Int)(v:List α):Option (List α):=if 0≤i∧i≤l.length∧v.length=1∧l.length≤1000000 then some (l.take i.toNat++v++l.drop i.toNat)else none
def lh(P:Program)(f:FuncId)(ts sz:Nat)(ov:FuncId):Prop:=
 ∀(b n c i vb vc:Nat)(w W1 W2:World),i<n→n+1≤c→c≤9223372036854775807→
  (∀lb cb,(callFunc ov #[.slice (some ⟨vb,0,none⟩) 1 vc,.slice (some ⟨b,(i+1)*sz,none⟩) lb cb]).run P w = .ok (.value (.bool false)) w)→
  (∀ty dc sc,(Builtin.copy_ #[ts,ts] ty #[.slice (some ⟨b,(i+1)*sz,none⟩) (n - i) dc,.slice (some ⟨b,i*sz,none⟩) (n+1 - i) sc]).run P w.drew = .ok (goInt ((n - i:Nat):Int)) W1)→
  (∀ty dc,(Builtin.copy_ #[ts,ts] ty #[.slice (some ⟨b,i*sz,none⟩) (n+1 - i) dc,.slice (some ⟨vb,0,none⟩) 1 vc]).run P W1 = .ok (goInt ((1:Nat):Int)) W2)→
  Calls P f #[.slice (some ⟨b,0,none⟩) n c,.int .i64 i,.slice (some ⟨vb,0,none⟩) 1 vc] w λe w'=>e = .returned (.slice (some ⟨b,0,none⟩) (n+1) c)∧w'=W2
def nI(P:Program)(f:FuncId)(ts tn sz:Nat):Prop:=
 ∀(b n i vb vc nb G:Nat)(w W0 W1 W2:World),i<n→n≤1000000→n+1≤G→G≤9223372036854775807→
  (∀ty,(Builtin.append_ #[ts,tn] ty #[.slice (some ⟨b,0,none⟩) i n,.int .i64 ((n:Int)+1 - (i:Int))]).run P w = .ok (.slice (some ⟨nb,0,none⟩) (n+1) G) W0)→
  (∀ty dc,(Builtin.copy_ #[ts,ts] ty #[.slice (some ⟨nb,i*sz,none⟩) (n+1 - i) dc,.slice (some ⟨vb,0,none⟩) 1 vc]).run P W0 = .ok (goInt ((1:Nat):Int)) W1)→
  (∀ty dc sc,(Builtin.copy_ #[ts,ts] ty #[.slice (some ⟨nb,(i+1)*sz,none⟩) (n - i) dc,.slice (some ⟨b,i*sz,none⟩) (n - i) sc]).run P W1.drew = .ok (goInt ((n - i:Nat):Int)) W2)→
  Calls P f #[.slice (some ⟨b,0,none⟩) n n,.int .i64 i,.slice (some ⟨vb,0,none⟩) 1 vc] w λe w'=>e = .returned (.slice (some ⟨nb,0,none⟩) (n+1) G)∧w'=W2
def xS{α : Type}(b:Nat)(s:List α)(i:Int)(v:List α):Option (List α):=
 (Ms i (s.length:Int) s.length).bind λp=>bif(v.length:Int) == 0 then some s else bif i == (s.length:Int)then(app b s v).bind λl=>some l else none
section
variable{F:Fam}{P:Program}{T:TypeId→Option (TI F)}
theorem Bb{t:Ty}{l:List (ET F t)}{i:Nat}:cells F t (l.take i)=(cells F t l).take (i*Jm F t):=by have:=fy (F:=F) (l:=l) (a:=0) (n:=i);simpa[Fx.sub]using this
theorem B_{t:Ty}{l:List (ET F t)}{i:Nat}:cells F t (l.drop i)=(cells F t l).drop (i*Jm F t):=by
 have:=fy (F:=F) (l:=l) (a:=i) (n:=l.length);unfold Fx.sub at this
 rw[XK (by simp)]at this
 rw[this,XK];rw[Nh,aD,Nat.sub_le_iff_le_add];omega
theorem wE{w:World}{I7:Nat→Prop}{t:Ty}{l:List (ET F t)}{b cap:Nat}{n:Nat×NS}(h:bD w I7 t l (some (b,cap,n))) :
  n=(l.length,[])∧l.length≤cap∧cap≤maxLen∧∃cur e,w.heap[b]? = some (.cells ⟨cur⟩ e (0,0))∧cur.length=cap*Jm F t∧
   ∀(k:Nat)(d:ND F)(x:Value),(cells F t l)[k]? = some d→cur[k]? = some x→Ju w I7 d x:=h
set_option maxHeartbeats 4000000 in
theorem rO(hT:J5 P T){f ts e sz tn ov:Nat}{t:Ty}{te:TI F}{tb:TypeId}(hte:T e=some te)(RI:te.ty=some t)(hsz:te.size=sz)(h0:0<sz)(hbt:te.bytes≤1000)(hts:P.underlying ts=some (.slice e))(htn:P.underlying tn=some (.int .i64))(hent:bc P f)
  (hov:∀(w:World)(a b:Value),(Extern.SlicesOverlaps.overlaps #[ts,ts] #[tb] #[a,b]).run P w = .ok (.bool false) w→(callFunc ov #[a,b]).run P w = .ok (.value (.bool false)) w)
  (h:Lf (F:=F) P f ⟨[.v (.slice t) [0],.v (.int .i64) [],.v (.slice t) [0]],[.v (.slice t) [0]],λa=>xS te.bytes a.1 a.2.1 a.2.2.1⟩)
  (ws:lh P f ts sz ov) (wg:nI P f ts tn sz) (hmp:t.KX=false:=by rfl) :
  Lf (F:=F) P f ⟨[.v (.slice t) [0],.v (.int .i64) [],.v (.slice t) [0]],[.v (.slice t) [0]],λa=>ins a.1 a.2.1 a.2.2.1⟩:=by
 refine⟨hent,?_⟩;intro a r hr I7 w vs Jg Jv KN hpl Kl;obtain⟨l,i,y,u⟩:=a;have hr:ins l i y=some r:=hr;unfold ins at hr;split at hr
 rotate_left
 ·cases hr
 rename_i hc;have c1:(0:Int)≤i:=hc.1;have c2:(i:Int)≤((List.length l:Nat):Int):=hc.2.1;have c3:List.length y=1:=hc.2.2.1;have c4:List.length l≤1000000:=hc.2.2.2;have hr':r=l.take i.toNat++y++l.drop i.toNat:=(Option.some.inj hr).symm;clear hr hc;by_cases hend:(i:Int)=((List.length l:Nat):Int)
 ·
  refine h.2 (l,i,y,u) r ?_ I7 w vs Jg Jv KN hpl Kl;show xS te.bytes l i y=some r;unfold xS Ms
  have hi:i.toNat=List.length l:=by rw[hend];exact Ut _
  rw[if_pos ⟨c1,c2,by omega⟩,IY,show(((List.length y:Nat):Int) == 0)=false by rw[c3];rfl,cond_false,show((i:Int) == ((List.length l:Nat):Int))=true by rw[beq_iff_eq];exact hend,cond_true]
  have happ:app te.bytes l y=some (l++y):=by
   unfold app;have e:(l++y).length=l.length+y.length:=I3;rw[if_pos]
   have:(l++y).length*te.bytes≤1000001*1000:=WW (by omega) hbt
   unfold maxLen;omega
  rw[happ,IY,hr',hi,SL,QeE,XI];rfl
 obtain⟨i',rfl⟩:∃i':Nat,i=i':=⟨Int.toNat i,(QeI c1).symm⟩;rw[Ut]at hr'
 have hlt:i'<List.length l:=by
  have h1:i'≤List.length l:=Int.ofNat_le.1 c2
  have h2:i'≠List.length l:=λe=>hend (by rw[e])
  omega
 obtain⟨v,vs',p1,p2,b1,b2,rfl,rfl,rfl,⟨h1,rfl⟩,v2,vs2,p3,p4,b3,b4,rfl,rfl,rfl,⟨h2,rfl⟩,v3,vs3,p5,p6,b5,b6,rfl,rfl,rfl,⟨h3,rfl⟩,rfl,rfl,rfl⟩:=KN;unfold KG at h1 h2 h3;simp only[Ty.K9,Ni,if_false,Jj,Ke,Jw,Nat.beq,if_true]at h1 h2 h3;obtain⟨pl,rest,rfl,hrow,hv,rfl⟩:=h1;rw[dF hmp]at hrow;rw[go hmp]at hv;obtain⟨h2,rfl⟩:=h2;obtain⟨pl3,rest3,rfl,hrow3,hv3,rfl⟩:=h3;rw[dF hmp]at hrow3;rw[go hmp]at hv3;cases h2
 have held:∀(w':World)(P6:Pl)(v':Value),bD w' I7 t r P6→Ll P6 v'→bF P w' I7 (outs ⟨[.v (.slice t) [0],.v (.int .i64) [],.v (.slice t) [0]],[.v (.slice t) [0]],λa=>ins a.1 a.2.1 a.2.2.1⟩) r [v'] [] [P6]:=by intro w' P6 v' k1 k2;refine⟨v',rfl,rfl,?_,rfl⟩;unfold KG;simp only[Ty.K9,Ni,if_false,Jj,Ke,Jw,Nat.beq,if_true];exact⟨P6,[],rfl,Eq.mpr (dF hmp) k1,Eq.mpr (go hmp) k2,rfl⟩
 cases pl with
 | none=>have:l = []:=hrow;subst this;simp at hlt
 | some q=>
 cases pl3 with
 | none=>have:y = []:=hrow3;subst this;simp at c3
 | some q3=>
 obtain⟨b,cap,n⟩:=q;obtain⟨vb,vc,n3⟩:=q3;obtain⟨rfl,hle,hmx,cur,e0,hb,hcl,hcr⟩:=wE hrow;obtain⟨rfl,hle3,hmx3,R_,e3,hb3,acv,acs⟩:=wE hrow3;cases hv;cases hv3;dsimp only at *;rw[c3]at hle3 ⊢
 have OX:Jm F t=sz:=by rw[← hsz];exact hT.ty e te t hte RI
 rw[OX]at hcl acv;have hblk:b<w.heap.size:=(P_.1 hb).1;have hblk3:vb<w.heap.size:=(P_.1 hb3).1;obtain⟨j0,hj0,hjs,hjb,z,hz,hzs,hzl,WQ⟩:=hT.info e te hte
 have R8:j0.size=sz:=by rw[hjs,hsz]
 have hne:vb≠b:=by have:=hpl.nodup;simp[av,I5,Kr]at this;exactλh=>this h.symm
 have hcells:(cells F t l).length=l.length*sz:=by rw[aD,OX]
 have O_:(cells F t y).length=sz:=by rw[aD,OX,c3,Nat.one_mul]
 have one:∀k x,k<l.length*sz→cur[k]? = some x→x.oneCell'=true:=λk x hk hx=>(hcr k _ x (IZ (by rw[hcells];exact hk)) hx).oneCell
 have amD:∀k x,k<sz→R_[k]? = some x→x.oneCell'=true:=λk x hk hx=>(acs k _ x (IZ (by rw[O_];exact hk)) hx).oneCell
 have aaE:l.length*sz≤cap*sz:=M5 _ hle;have hvcsz:1*sz≤vc*sz:=M5 _ hle3
 have hisz:(i'+1)*sz≤l.length*sz:=M5 _ (by omega)
 have hi1:(i'+1)*sz=i'*sz+sz:=by rw[OQ,Nat.one_mul]
 have hl1:(l.length+1)*sz=l.length*sz+sz:=by rw[OQ,Nat.one_mul]
 have hni:(l.length - i')*sz=l.length*sz - i'*sz:=Nat.sub_mul _ _ _;obtain⟨tl,htl⟩:∃tl,tl=(cur.drop (i'*sz)).take ((l.length - i')*sz):=⟨_,rfl⟩
 have U0:tl.length=(l.length - i')*sz:=by rw[htl,Lj,Nh,hcl];omega
 have TF:∀k x,tl[k]? = some x→cur[i'*sz+k]? = some x∧k<(l.length - i')*sz:=by intro k x hk;have hlt':=(I0.1 hk).1;rw[U0]at hlt';rw[htl,MV,if_pos hlt',OC]at hk;exact⟨hk,hlt'⟩
 have tl1:∀x∈tl,x.oneCell'=true:=by
  intro x hx;obtain⟨k,hk⟩:=RL hx;obtain⟨q1,q2⟩:=TF k x hk
  exact one _ x (by omega) q1
 obtain⟨nw,hnw⟩:∃nw,nw=R_.take sz:=⟨_,rfl⟩
 have Um:nw.length=sz:=by rw[hnw,Lj,acv];omega
 have VY:∀k x,nw[k]? = some x→R_[k]? = some x∧k<sz:=by intro k x hk;have hlt':=(I0.1 hk).1;rw[Um]at hlt';rw[hnw,MV,if_pos hlt']at hk;exact⟨hk,hlt'⟩
 have nw1:∀x∈nw,x.oneCell'=true:=by intro x hx;obtain⟨k,hk⟩:=RL hx;obtain⟨q1,q2⟩:=VY k x hk;exact amD _ x q2 q1
 have row:∀(w':World)(b' cap':Nat)(R:List Value)(e':TypeId),l.length+1≤cap'→cap'≤maxLen→w'.heap[b']? = some (.cells ⟨R⟩ e' (0,0))→R.length=cap'*sz→(∀d x,Ju w I7 d x→Ju (F:=F) w' I7 d x)→
   (∀k,k<i'*sz→R[k]? = cur[k]?)→(∀k,k<sz→R[i'*sz+k]? = nw[k]?)→(∀k,k<(l.length - i')*sz→R[(i'+1)*sz+k]? = tl[k]?)→bD w' I7 t r (some (b',cap',l.length+1,[])):=by
  intro w' b' cap' R e' g1 g2 g3 g4 g5 r1 r2 r3
  have rl:r.length=l.length+1:=by rw[hr',I3,I3,Lj,Nh,c3];omega
  refine⟨by rw[rl],by rw[rl];exact g1,g2,R,e',g3,by rw[OX];exact g4,?_⟩
  intro k d x hd hx;apply g5;rw[hr',dq,dq,Bb,B_,OX]at hd
  have lA:((cells F t l).take (i'*sz)).length=i'*sz:=by rw[Lj,hcells];omega
  by_cases k1:k<i'*sz
  ·rw[r1 k k1]at hx
   rw[MK,ME (by rw[lA];exact k1),MV,if_pos k1]at hd
   exact hcr k d x hd hx
  ·by_cases k2:k<(i'+1)*sz
   ·obtain⟨q,rfl⟩:∃q,k=i'*sz+q:=⟨k - i'*sz,by omega⟩
    rw[r2 q (by omega)]at hx
    rw[MK,Nj (by rw[lA];omega),lA,W9,ME (by rw[O_];omega)]at hd
    exact acs q d x hd (VY q x hx).1
   ·obtain⟨q,rfl⟩:∃q,k=(i'+1)*sz+q:=⟨k - (i'+1)*sz,by omega⟩
    rw[Nj (by rw[I3,lA,O_];omega),I3,lA,O_,show(i'+1)*sz+q - (i'*sz+sz)=q by omega,OC]at hd
    have hq:q<(l.length - i')*sz:=by have:=(I0.1 hd).1;rw[hcells]at this;omega
    rw[r3 q hq]at hx;exact hcr _ d x hd (TF q x hx).1
 have hdb:w.drew.heap[b]? = some (.cells ⟨cur⟩ e0 (0,0)):=hb;have aoe:w.drew.heap[vb]? = some (.cells ⟨R_⟩ e3 (0,0)):=hb3
 have hmax:cap≤9223372036854775807:=by simp only[maxLen]at hmx;omega
 have abQ:∀(W:World),W.heap[vb]? = some (.cells ⟨R_⟩ e3 (0,0))→∀p',some (⟨vb,0,none⟩:Addr)=some p'→∀(k:Nat)(x:Value),nw[k]? = some x→W.cell? (p'.add k)=some x:=by rintro W hW p' hp k x hk;cases hp;rw[Addr.add_lit];simp only[World.cell?,hW];simpa using(VY k x hk).1
 by_cases hroom:l.length+1≤cap
 ·
  have hl1c:(l.length+1)*sz≤cap*sz:=M5 _ hroom
  have m1:min (l.length+1 - i') (l.length - i')=l.length - i':=by omega
  have m2:min 1 (l.length+1 - i')=1:=by omega
  have q1:=λty dc sc=>o_ (P:=P) (w:=w.drew) (t:=ts) (t1:=ts) (ty:=ty) (q:=(i'+1)*sz) (dLen:=l.length - i') (dCap:=dc) (p':=⟨b,i'*sz,none⟩) (sLen:=l.length+1 - i') (sCap:=sc) (news:=tl) hts hj0 hdb (by rw[U0,m1,R8]) (λk x hk=>by
   rw[Addr.add_lit];simp only[World.cell?,hdb]
   simpa using(TF k x hk).1) tl1 (by rw[U0,hcl];omega)
  rw[m1,U0]at q1;obtain⟨R1,WS⟩:∃R1,R1=cur.take ((i'+1)*sz)++tl++cur.drop ((i'+1)*sz+(l.length - i')*sz):=⟨_,rfl⟩;rw[← WS]at q1
  have U7:R1.length=cap*sz:=by rw[WS,I3,I3,Lj,Nh,U0,hcl];omega
  have hb1:(w.drew.setRow b R1.toArray).heap[b]? = some (.cells ⟨R1⟩ e0 (0,0)):=setRow_heap w.drew b _ _ e0 _ hdb
  have aoj:(w.drew.setRow b R1.toArray).heap[vb]? = some (.cells ⟨R_⟩ e3 (0,0)):=by rw[setRow_other _ b vb _ hne];exact aoe
  have q2:=λty dc=>o_ (P:=P) (w:=w.drew.setRow b R1.toArray) (t:=ts) (t1:=ts) (ty:=ty) (q:=i'*sz) (dLen:=l.length+1 - i') (dCap:=dc) (p':=⟨vb,0,none⟩) (sLen:=1) (sCap:=vc) (news:=nw) hts hj0 hb1 (by rw[Um,m2,R8,Nat.one_mul]) (abQ _ aoj _ rfl) nw1 (by rw[Um,U7];omega)
  rw[m2,Um]at q2;obtain⟨R2,hR2⟩:∃R2,R2=R1.take (i'*sz)++nw++R1.drop (i'*sz+sz):=⟨_,rfl⟩;rw[← hR2]at q2
  have R2l:R2.length=cap*sz:=by rw[hR2,I3,I3,Lj,Nh,Um,U7];omega
  have hb2:((w.drew.setRow b R1.toArray).setRow b R2.toArray).heap[b]? = some (.cells ⟨R2⟩ e0 (0,0)):=setRow_heap _ b _ _ e0 _ hb1
  have hfz:∀k,w.frozen? ⟨vb,k,none⟩=false:=λk=>by simp[World.frozen?,hb3]
  have ho:=λlb cb=>hov w _ _ (Lib.run_overlaps_apart w ts tb e hts sz (λw=>by simp[Go.sizeOf,typeInfo,hj0,R8]) ⟨vb,0,none⟩ ⟨b,(i'+1)*sz,none⟩ 1 vc lb cb hne e3 e0 R_.length cur.length (by simp[World.shape?,hb3]) (by simp[World.shape?,hb]) (by rw[hcl];omega) (hfz 0) (hfz R_.length))
  refine(ws b l.length cap i' vb vc w _ _ hlt hroom hmax ho q1 q2).mono ?_;rintro e' w' ⟨rfl,rfl⟩
  have s1:(w.drew.setRow b R1.toArray).heap.size=w.heap.size:=by simp[World.setRow]
  have s2:((w.drew.setRow b R1.toArray).setRow b R2.toArray).heap.size=w.heap.size:=by rw[← s1];simp[World.setRow]
  have oth:∀b',b'≠b→((w.drew.setRow b R1.toArray).setRow b R2.toArray).heap[b']? = w.heap[b']?:=λb' hb'=>by rw[setRow_other _ b b' _ hb',setRow_other _ b b' _ hb'];rfl
  refine⟨[.slice (some ⟨b,0,none⟩) (l.length+1) cap],I7,[some (b,cap,l.length+1,[])],rfl,rfl,rfl,rfl,WT _,by rw[s2];exact KC _,?_,λ_ h=>h,λ_ h=>.inl h,by rw[s2];exact Kl,held _ _ _ (row _ b cap R2 e0 hroom hmx hb2 R2l ?_ ?_ ?_ ?_) rfl,⟨?_,?_,?_⟩,?_⟩
  ·intro b' hlt' hno
   exact oth b' λh=>hno (by simp[av,I5,Kr,h])
  ·intro d x hd;refine hd.mono (λ_ h=>h) λb' hb'=>oth b' ?_;rintro rfl
   exact hpl.I7 b' (by simp[av,I5,Kr]) hb'
  ·intro k hk
   rw[hR2,MK,ME (by rw[Lj,U7];omega),MV,if_pos hk,WS,MK,ME (by rw[Lj,hcl];omega),MV,if_pos (by omega)]
  ·intro k hk
   have lT:(R1.take (i'*sz)).length=i'*sz:=by rw[Lj,U7];omega
   rw[hR2,MK,Nj (by rw[lT];omega),lT,W9,ME (by rw[Um];exact hk)]
  ·intro k hk
   have lT:(R1.take (i'*sz)).length=i'*sz:=by rw[Lj,U7];omega
   have lU:(cur.take ((i'+1)*sz)).length=(i'+1)*sz:=by rw[Lj,hcl];omega
   rw[hR2,Nj (by rw[I3,lT,Um];omega),I3,lT,Um,OC,show i'*sz+sz+((i'+1)*sz+k - (i'*sz+sz))=(i'+1)*sz+k by omega,WS,MK,Nj (by rw[lU];omega),lU,W9,ME (by rw[U0];exact hk)]
  ·simp[I5,Kr]
  ·intro b' hb'
   have:b'=b:=by simpa[I5,Kr]using hb'
   subst this
   exact hpl.I7 b' (by simp[av,I5,Kr])
  ·intro b' hb'
   have:b'=b:=by simpa[I5,Kr]using hb'
   subst this;rw[s2];exact hblk
  ·intro b' hb'
   have:b'=b:=by simpa[I5,Kr]using hb'
   subst this
   exact .inl (by simp[av,I5,Kr])
 ·
  have hcap:cap=l.length:=by omega
  subst hcap
  have hkk:(l.length:Int)+1 - (i':Int)=((l.length+1 - i':Nat):Int):=by omega
  have hik:i'+(l.length+1 - i')=l.length+1:=by omega
  have hold:(Builtin.firstCells j0.size i' (.slice (some ⟨b,0,none⟩) i' l.length)).run P w.drew = .ok (cur.take (i'*sz)).toArray w.drew:=by
   refine run_firstCells_some w.drew j0.size i' ⟨b,0,none⟩ i' l.length (cur.take (i'*sz)) (by rw[Lj,hcl,R8];omega) λj v hj=>?_
   rw[Addr.add_lit];simp only[World.cell?,hdb];rw[MV]at hj;split at hj
   ·simpa using hj
   ·cases hj
  have hbig:(l.length+1)*j0.bytes≤140737488355328:=by
   have:(l.length+1)*j0.bytes≤1000001*1000:=WW (by omega) (by rw[hjb];exact hbt)
   omega
  have hkb:(l.length+1 - i')*j0.bytes≤281474976710656:=by
   have:(l.length+1 - i')*j0.bytes≤1000001*1000:=WW (by omega) (by rw[hjb];exact hbt)
   omega
  have q0:=λty=>Lib.run_append_grow_zeros w ts tn ty e j0 z .i64 .i64 hts htn hj0 hz (some ⟨b,0,none⟩) i' l.length (cur.take (i'*sz)) hold (l.length+1 - i') (by omega) (by rw[R8];exact h0) (by omega) (by omega) hkb (by rw[hik];exact growslice_fits (by omega) hbig)
  rw[hik,← hkk]at q0;obtain⟨G,hG⟩:∃G,G=grownCap w (l.length+1) l.length e:=⟨_,rfl⟩;rw[← hG]at q0
  have hGn:l.length+1≤G:=by rw[hG];exact grownCap_ge w _ _ _
  have hGm:G≤maxLen:=by rw[hG];exact grownCap_le_maxLen w _ _ _ (by unfold maxLen;omega)
  have hG63:G≤9223372036854775807:=by simp only[maxLen]at hGm;omega
  have zcl:z.cells.size=sz:=by rw[hzs,hsz]
  obtain⟨R0,hR0⟩:∃R0:List Value,R0=cur.take (i'*sz)++(Builtin.zeroCells z.cells (l.length+1 - i')).toList++(Builtin.zeroCells z.cells (G - (l.length+1))).toList:=⟨_,rfl⟩
  have aom:((cur.take (i'*sz)).toArray++Builtin.zeroCells z.cells (l.length+1 - i')++Builtin.zeroCells z.cells (G - (l.length+1)))=(⟨R0⟩:Array Value):=by rw[hR0];apply Array.ext';simp
  rw[aom]at q0
  have hsplit:i'*sz+((l.length+1 - i')*sz+(G - (l.length+1))*sz)=G*sz:=by
   rw[← OQ,← OQ]
   congr 1
   omega
  have R0l:R0.length=G*sz:=by
   have zA:∀k,(Builtin.zeroCells z.cells k).toList.length=k*sz:=λk=>by rw[SV,size_zeroCells,zcl]
   have zT:(cur.take (i'*sz)).length=i'*sz:=by rw[Lj,hcl];omega
   rw[hR0,I3,I3,zT,zA,zA];omega
  have hGsz:(l.length+1)*sz≤G*sz:=M5 _ hGn;obtain⟨nb,hnb⟩:∃nb,nb=w.heap.size:=⟨_,rfl⟩;rw[← hnb]at q0
  have hw0:∀b',b'<w.heap.size→(w.drew.alloc (.cells ⟨R0⟩ e)).heap[b']? = w.heap[b']?:=λb' hb'=>by show(w.heap.push _)[b']? = _;rw[Array.getElem?_push_lt hb',QcY hb']
  have hn0:(w.drew.alloc (.cells ⟨R0⟩ e)).heap[nb]? = some (.cells ⟨R0⟩ e (0,0)):=by show(w.heap.push _)[nb]? = _;rw[hnb,Array.getElem?_push_size]
  have hnbb:b≠nb:=by omega
  have hnvb:vb≠nb:=by omega
  have m2:min 1 (l.length+1 - i')=1:=by omega
  have m3:min (l.length - i') (l.length - i')=l.length - i':=by omega
  have q1:=λty dc=>o_ (P:=P) (w:=w.drew.alloc (.cells ⟨R0⟩ e)) (t:=ts) (t1:=ts) (ty:=ty) (q:=i'*sz) (dLen:=l.length+1 - i') (dCap:=dc) (p':=⟨vb,0,none⟩) (sLen:=1) (sCap:=vc) (news:=nw) hts hj0 hn0 (by rw[Um,m2,R8,Nat.one_mul]) (abQ _ ((hw0 vb hblk3).trans hb3) _ rfl) nw1 (by rw[Um,R0l];omega)
  rw[m2,Um]at q1;obtain⟨R1,WS⟩:∃R1,R1=R0.take (i'*sz)++nw++R0.drop (i'*sz+sz):=⟨_,rfl⟩;rw[← WS]at q1
  have U7:R1.length=G*sz:=by rw[WS,I3,I3,Lj,Nh,Um,R0l];omega
  obtain⟨W1,hW1⟩:∃W1,W1=(w.drew.alloc (.cells ⟨R0⟩ e)).setRow nb R1.toArray:=⟨_,rfl⟩;rw[← hW1]at q1
  have hn1:W1.heap[nb]? = some (.cells ⟨R1⟩ e (0,0)):=by rw[hW1];exact setRow_heap _ nb _ _ e _ hn0
  have ho1:∀b',b'<w.heap.size→W1.heap[b']? = w.heap[b']?:=λb' hb'=>by rw[hW1,setRow_other _ nb b' _ (by omega)];exact hw0 b' hb'
  have acj:W1.drew.heap[nb]? = some (.cells ⟨R1⟩ e (0,0)):=hn1;have aok:W1.drew.heap[b]? = some (.cells ⟨cur⟩ e0 (0,0)):=(ho1 b hblk).trans hb
  have q2:=λty dc sc=>o_ (P:=P) (w:=W1.drew) (t:=ts) (t1:=ts) (ty:=ty) (q:=(i'+1)*sz) (dLen:=l.length - i') (dCap:=dc) (p':=⟨b,i'*sz,none⟩) (sLen:=l.length - i') (sCap:=sc) (news:=tl) hts hj0 acj (by rw[U0,m3,R8]) (λk x hk=>by
   rw[Addr.add_lit];simp only[World.cell?,aok]
   simpa using(TF k x hk).1) tl1 (by rw[U0,U7];omega)
  rw[m3,U0]at q2;obtain⟨R2,hR2⟩:∃R2,R2=R1.take ((i'+1)*sz)++tl++R1.drop ((i'+1)*sz+(l.length - i')*sz):=⟨_,rfl⟩;rw[← hR2]at q2
  have R2l:R2.length=G*sz:=by rw[hR2,I3,I3,Lj,Nh,U0,U7];omega
  refine(wg b l.length i' vb vc nb G w _ _ _ hlt c4 hGn hG63 q0 q1 q2).mono ?_;rintro e' w' ⟨rfl,rfl⟩;have hn2:(W1.drew.setRow nb R2.toArray).heap[nb]? = some (.cells ⟨R2⟩ e (0,0)):=setRow_heap _ nb _ _ e _ acj
  have s0:W1.heap.size=w.heap.size+1:=by have a1:(w.drew.alloc (.cells ⟨R0⟩ e)).heap.size=w.heap.size+1:=Array.size_push ..;rw[hW1,← a1];simp[World.setRow]
  have s2:(W1.drew.setRow nb R2.toArray).heap.size=w.heap.size+1:=by rw[← s0];simp[World.setRow]
  have oth:∀b',b'<w.heap.size→(W1.drew.setRow nb R2.toArray).heap[b']? = w.heap[b']?:=λb' hb'=>by
   rw[setRow_other _ nb b' _ (by omega)];exact ho1 b' hb'
  have d1:W1.drawn=w.drawn+1:=by rw[hW1];rfl
  refine⟨[.slice (some ⟨nb,0,none⟩) (l.length+1) G],I7,[some (nb,G,l.length+1,[])],rfl,by rw[hW1];rfl,by rw[hW1];rfl,by rw[hW1];rfl,?_,by rw[s2];omega,λb' hb' _=>oth b' hb',λ_ h=>h,λ_ h=>.inl h,λb' hb'=>by rw[s2];have:=Kl b' hb';omega,held _ _ _ (row _ nb G R2 e hGn hGm hn2 R2l ?_ ?_ ?_ ?_) rfl,⟨?_,?_,?_⟩,?_⟩
  ·show w.drawn≤W1.drawn+1;omega
  ·intro d x hd;exact hd.mono (λ_ h=>h) λb' hb'=>oth b' (Kl b' hb')
  ·intro k hk
   rw[hR2,MK,ME (by rw[Lj,U7];omega),MV,if_pos (by omega),WS,MK,ME (by rw[Lj,R0l];omega),MV,if_pos hk,hR0,MK,ME (by rw[Lj,hcl];omega),MV,if_pos hk]
  ·intro k hk
   have lT:(R0.take (i'*sz)).length=i'*sz:=by rw[Lj,R0l];omega
   rw[hR2,MK,ME (by rw[Lj,U7];omega),MV,if_pos (by omega),WS,MK,Nj (by rw[lT];omega),lT,W9,ME (by rw[Um];exact hk)]
  ·intro k hk
   have lU:(R1.take ((i'+1)*sz)).length=(i'+1)*sz:=by rw[Lj,U7];omega
   rw[hR2,MK,Nj (by rw[lU];omega),lU,W9,ME (by rw[U0];exact hk)]
  ·simp[I5,Kr]
  ·intro b' hb'
   have:b'=nb:=by simpa[I5,Kr]using hb'
   subst this;intro hi;have:=Kl _ hi;omega
  ·intro b' hb'
   have:b'=nb:=by simpa[I5,Kr]using hb'
   subst this;rw[s2];omega
  ·intro b' hb'
   have:b'=nb:=by simpa[I5,Kr]using hb'
   subst this
   exact .inr (by omega)
end
set_option linter.unusedVariables false
set_option linter.unusedSimpArgs false
structure EmC where
 M6:Array Oper
 Mj:Array Oper
 Vg:Array Oper
 t:Nat
def qS{α : Type}:List α→Option (List α×α)
 | []=>none
 | [a]=>some ([],a)
 | a::b::l=>match qS (b::l)with
  | none=>none
  | some (p,x)=>some (a::p,x)
theorem tK{α : Type}:∀{l p:List α}{a:α},qS l=some (p,a)→l=p++[a]
 | [],_,_,h=>by cases h
 | [x],_,_,h=>by cases h;rfl
 | x::y::l,p,a,h=>by
  simp only[qS]at h;split at h
  ·cases h
  ·rename_i p' x' hq;cases h;rw[tK hq];rfl
structure EmB where
 t:Nat
 f:Nat
 x:Nat
def xO:Oper→Option EmB
 | ⟨some t,.call ⟨.value (.func f),⟨[.tmp x]⟩,_⟩,_,_,_,none⟩=>some ⟨t,f,x⟩
 | _=>none
theorem BV{o:Oper}{q:EmB}(h:xO o=some q):o.dst=some q.t∧o.guard=none∧∃ats,o.op = .call { callee:=.value (.func q.f),args:=#[.tmp q.x],argTypes:=ats }:=by
 unfold xO at h;split at h
 ·cases h;exact⟨rfl,rfl,_,rfl⟩
 ·cases h
section
variable{F:Fam}(T:TypeId→Option (TI F))(Γ : Ctx F)(nv:Nat)
end
section
variable{P:Program}{ops:Array Oper}
theorem wX{Q:Exit→Act→World→Prop}(l2:List Nat):∀(l1:List Nat){a:Act}{w:World},wpOps P ops (Exit.then (wpOps P ops Q l2) Q) l1 a w→wpOps P ops Q (l1++l2) a w
 | [],a,w,h=>h
 | i::l1,a,w,h=>by
  simp only[SS];rw[wpOps_cons]at h ⊢;have h:=wpOp_mono (K':=wpOps P ops Q (l1++l2)) (λa w hk=>wX l2 l1 hk) h;unfold wpOp at h ⊢;split
  ·rename_i ho;simp only[ho]at h;exact h
  ·rename_i o ho;simp only[ho]at h;split
   ·rename_i hw;simp only[hw,if_true]at h;rcases h with h | ⟨h1,h2⟩
    ·left;unfold Oper.wp at h ⊢;generalize(execOp a.eval o).run P w=r at h
     cases r with
     | ok n w'=>cases n<;>exact h
     | halt x w'=>cases x<;>exact h
    ·exact .inr ⟨h1,h2⟩
   ·rename_i hw;simp only[hw]at h;exact h
def Act.Nw(a:Act)(ds:List Deferred):Act:={ a with defers:=a.defers++ds }
theorem lB(a:Act)(ds:List Deferred)(d:Option Tmp)(v:Value):Act.Nw (a.put d v) ds=(Act.Nw a ds).put d v:=by cases d<;>rfl
theorem Dq{o:Oper}{a:Act}{ds:List Deferred}{next next':Act→World→Prop}{Q Q':Exit→Act→World→Prop}(hn:∀a w,next a w→next' (Act.Nw a ds) w)(hq:∀e a w,Q e a w→Q' e (Act.Nw a ds) w){r:Result Next}(h:o.upon P a next Q r):o.upon P (Act.Nw a ds) next' Q' r:=by
 have hl:LetsOut Q→LetsOut Q':=λ⟨a,w,k⟩=>⟨_,w,hq _ a w k⟩
 cases r with
 | ok n w'=>
  cases n with
  | value v=>simp only[Oper.upon]at h ⊢;rw[← lB];exact hn _ _ h
  | skip=>simp only[Oper.upon]at h ⊢;rw[← lB];exact hn _ _ h
  | defer d=>
   simp only[Oper.upon]at h ⊢
   have e:({ Act.Nw a ds with defers:=d::(Act.Nw a ds).defers }:Act).put o.dst undef=Act.Nw (({ a with defers:=d::a.defers }:Act).put o.dst undef) ds:=by rw[lB];rfl
   rw[e];exact hn _ _ h
  | enter f args=>
   simp only[Oper.upon]at h ⊢;refine h.mono ?_;intro e w2 he
   cases e with
   | returned v=>simp only at he ⊢;rw[← lB];exact hn _ _ he
   | panicked ch=>exact hq _ _ _ he
   | outgrown=>exact hl he
  | row row args=>
   simp only[Oper.upon]at h ⊢
   exact h.mono (λv w2 he=>by rw[← lB];exact hn _ _ he)
  | _=>exact h.elim
 | halt x w'=>
  cases x with
  | panic v=>exact hq _ _ _ h
  | _=>exact h.elim
theorem m9{ds:List Deferred}{Q Q':Exit→Act→World→Prop}(hq:∀e a w,Q e a w→Q' e (Act.Nw a ds) w):∀(l:List Nat){a:Act}{w:World},wpOps P ops Q l a w→wpOps P ops Q' l (Act.Nw a ds) w
 | [],a,w,h=>hq _ _ _ h
 | i::l,a,w,h=>by
  rw[wpOps_cons]at h ⊢;unfold wpOp at h ⊢;split
  ·rename_i ho;simp only[ho]at h;exact m9 hq l h
  ·rename_i o ho;simp only[ho]at h;have ht:(Act.Nw a ds).tmps=a.tmps:=rfl;rw[ht];split
   ·rename_i hw;simp only[hw,if_true]at h;rcases h with h | ⟨h1,a2,w2,h2⟩
    ·left
     have he:(Act.Nw a ds).eval=a.eval:=funext λx=>by cases x<;>rfl
     unfold Oper.wp at h ⊢;rw[he];exact Dq (λa w hk=>m9 hq l hk) hq h
    ·right
     have he:(Act.Nw a ds).eval=a.eval:=funext λx=>by cases x<;>rfl
     refine⟨?_,_,w2,hq _ a2 w2 h2⟩;unfold Oper.asks at h1 ⊢;rw[he];exact h1
   ·rename_i hw;simp only[hw]at h;rw[← lB];exact m9 hq l h
end
section
variable{F:Fam}{P:Program}{T:TypeId→Option (TI F)}{Γ : Ctx F}{nv n:Nat}{R:Type}{own:Ow}{W0:World}{a:Act}{w:World}{g:G}
section
variable{ops:List Oper}
theorem uO{Kw:Array Oper}(hops:Kw.toList=ops){Q:Exit→Act→World→Prop}:∀(tr:List (TR F)) (k:Nat) (s s':St F),(∀j t,tr[j]? = some t→Kw[k+j]? = some t.o)→Chain s tr s'→(∀t∈tr,TR.ok P n ops t)→
  ∀{g:G}{a:Act}{w:World},Good P own W0 n s g a w→(∀g' a' w',Good P own W0 n s' g' a' w'→Q .normal a' w')→wpOps P Kw Q (List.range' k tr.length) a w
 | [],k,s,s',_,hc,_,g,a,w,hgood,hQ=>by have hc':s'=s:=hc;subst hc';exact hQ g a w hgood
 | t::tr,k,s,s',ho,hc,hok,g,a,w,hgood,hQ=>by
  obtain⟨hts,hc⟩:=hc;simp only[P8,List.range'_succ];rw[wpOps_cons]
  have hi:Kw[k]? = some t.o:=by have:=ho 0 t rfl;simpa using this
  refine wt (hok t (by simp)) (s:=s) ?_ ?_ ?_ hgood hops hi ?_
  ·intro x _;rw[hts]
  ·intro id _;rw[hts]
  ·intro j hj
   have:=(hok t (by simp)).fresh j hj
   rw[hts]at this;exact this
  ·intro g' a' w' hg'
   refine uO hops tr (k+1) t.next s' ?_ hc (λx hx=>hok x (by simp[hx])) (by unfold TR.next;rw[hts];exact hg') hQ
   intro j t' hj
   have:=ho (j+1) t' (by simpa using hj)
   simpa[PD,XG 1 j]using this
end
theorem A5(hT:J5 P T)(hΓ : Kz P Γ){Kw:Array Oper}{kp:List Nat}{s:TS F}{K:TS F→Option R}{r:R}
  (h:OU T Γ nv n kp Kw.toList false s K=some r) {Q:Exit→Act→World→Prop} (hg:Good P own W0 n s.st g a w)
  (hQ:∀s' g' a' w',K s'=some r→Fr nv s s'→Good P own W0 n s'.st g' a' w'→Q .normal a' w'):wpOps P Kw Q (List.range Kw.size) a w:=by
 unfold OU at h;obtain⟨z,tr,h1,t1,t2,t3,t4,t5⟩:=nE hT hΓ h;obtain⟨PV,h1⟩:=aL h1;obtain⟨E',h2,h3⟩:=jF h1
 have hQ':∀g' a' w',Good P own W0 n z.st g' a' w'→Q .normal a' w':=by
  intro g' a' w' hg';refine hQ _ g' a' w' h2 ⟨λx hx hn=>?_,t5.m,t5.c,t5.dE,t5.dM⟩ (hg'.sub ?_ (λ_ _ h=>h) (λ_ h=>h))
  ·show look E' x=_
   rw[h3,if_pos (by simp[Jw,M4.mpr hx])]
   exact t5.e x hx hn
  ·intro x d hx;simp only[TS.st]at hx ⊢;rw[h3]at hx;split at hx
   ·exact hx
   ·cases hx
 have hlen:Kw.size=tr.length:=by rw[← SV,← t1,OD]
 have:=mD (Kw:=Kw) rfl (Q:=Q) tr 0 s.st z.st (by
  intro j
  have:Kw.toList[j]? = (tr.map (·.o))[j]?:=by rw[t1]
  rw[MU]at this;rw[← this];simp) t2 t3 hg hQ'
 rw[← hlen]at this;rw[QdZ];exact this
theorem Bp(hT:J5 P T)(hΓ : Kz P Γ){id:Nat}{Kw:Array Oper}{kp:List Nat}{s:TS F}{K:TS F→Option R}{r:R}{n:Nat}{a:Act}{w:World}{own:Ow}
  (h:OU T Γ nv n kp Kw.toList false s K=some r) {Q:Exit→Act→World→Prop} (hg:Good P own W0 n s.st g a w)
  (hQ:∀s' g' a' w',K s'=some r→Fr nv s s'→Good P own W0 n s'.st g' a' w'→Q .normal a' w'):(Code.region id Kw false).wp P Q a w:=wp_region (A5 hT hΓ h hg hQ)
end
section
variable{F:Fam}{P:Program}{T:TypeId→Option (TI F)}{Γ : Ctx F}{nv:Nat}
theorem B9{fn:Func}{sp:Spec F}{a:HL F sp.ks}{I7:Nat→Prop}{w:World}{vs:List Value}{Jg Jv:List Pl}(hlen:Nat.ble sp.ks.length fn.ntmps=true)(Sw:yx sp.ks=true)
  (KN:bR P w I7 sp.ks a vs Jg Jv) (hpl:Od w I7 (I5 Jg)) (Kl:∀b,I7 b→b<w.heap.size) :
  ∃g0,Good P ⟨λb=>b∈I5 Jg∨w.heap.size≤b,I7,(G.RZ 0 Jg I7).ids⟩ w fn.ntmps (⟨params 0 (Ph sp.ks a (Lb sp.ks a 0).1),(Lb sp.ks a 0).2.1,(Lb sp.ks a 0).2.2,[],[]⟩:TS F).st g0 { tmps:=(⟨vs⟩:Array Value)++Array.replicate (fn.ntmps - (⟨vs⟩:Array Value).size) undef,defers:=[] } w∧
   (aN sp.ks a 0).map (G.RZ 0 Jg I7).ids=Jv.map some:=by
  obtain⟨L,l1,l2,l3⟩:=sN KN
  let g0:G:=⟨(G.RZ 0 Jg I7).ids,I7,L⟩
  have aai:MG g0 0 Jg:=λj pl hj=>vG (I:=I7) (Jg:=Jg) (c:=0) j pl hj;obtain⟨h1,h2,h3,h4⟩:=qw (g:=g0) (c:=0) KN aai;have h1:=l3 (g:=g0) (λ_ h=>h) h1
  have Uc:∀b,L b→¬ (b∈I5 Jg∨w.heap.size≤b)∧b<w.heap.size:=by
   intro b hb;refine⟨λho=>?_,l1 b hb⟩;rcases PE _ _▸Sw with hs | hs
   ·exact l2 hs b hb
   ·rw[nP hs KN]at ho;rcases ho with ho | ho
    ·simp[I5]at ho
    ·exact absurd (l1 b hb) (Nat.not_lt.2 ho)
  simp only[L_]at h3
  let own:Ow:=⟨λb=>b∈I5 Jg∨w.heap.size≤b,I7,(G.RZ 0 Jg I7).ids⟩
  have hvl:=nC KN;have hlen':sp.ks.length≤fn.ntmps:=P9 hlen
  have hblk:∀{id:Nat}{B:J8 F}{b:Nat},look (Lb sp.ks a 0).2.1 id=some B→g0.blk id b→∃b0 q,Jg[id]? = some (some (b0,q))∧b∈b0::Kr q.2.2:=by rintro id B b _ ⟨b0,q,hq,hbb⟩;simp only[g0,G.RZ]at hq;rw[if_pos (U8 _),QeY]at hq;exact⟨b0,q,hq,hbb⟩
  have hgood:Good P own w fn.ntmps (⟨params 0 (Ph sp.ks a (Lb sp.ks a 0).1),(Lb sp.ks a 0).2.1,(Lb sp.ks a 0).2.2,[],[]⟩:TS F).st g0 { tmps:=(⟨vs⟩:Array Value)++Array.replicate (fn.ntmps - (⟨vs⟩:Array Value).size) undef,defers:=[] } w:=by
   refine⟨rfl,?_,?_,⟨?_,?_,?_,Kl,λb hb=>.inl hb,Uc⟩,?_,λ_ h=>h,⟨rfl,rfl,rfl,KC _,λb hb=>.inr hb,λ_ _ _=>rfl,KC _⟩,λ_ _ h=>h⟩
   ·simp[hvl];omega
   ·intro x d hx;obtain⟨j,rfl,hj⟩:=pG _ 0 x d hx
    have hlt:j<vs.length:=by rw[h1.1];exact(I0.1 hj).1
    have:((⟨vs⟩:Array Value)++Array.replicate (fn.ntmps - (⟨vs⟩:Array Value).size) undef).getD (0+j) undef=vs[j]:=by
     rw[L_,Q_,ZG (by simpa using hlt)]
     simp[hlt]
    rw[this];exact h1.2 j d _ hj (IZ hlt)
   ·intro id B hB;obtain⟨j,_,_,_,q⟩:=h2 _ (lI hB);exact q
   ·intro id id' B B' b hB hB' _ _ hb hb';obtain⟨b0,q,hq,hx⟩:=hblk hB hb;obtain⟨b0',q',hq',hx'⟩:=hblk hB' hb';exact iM hpl.nodup hq hx hq' hx'
   ·intro id B b hB _ hb;obtain⟨b0,q,hq,hx⟩:=hblk hB hb;have:=bQ.2 ⟨id,b0,q,hq,hx⟩;exact⟨.inl this,hpl.I7 b this⟩
   ·intro id hid;simp only[TS.st,br,decide_eq_false_iff_not,h3]at hid;simp only[g0,G.RZ]
    rw[if_pos (U8 _),QeY,QdG (by omega)]
  exact⟨g0,hgood,h4⟩
theorem Cz(hT:J5 P T)(hΓ : Kz P Γ){fn:Func}{sp:Spec F}{a:HL F sp.ks}{r:TL F (outs sp)}{I7:Nat→Prop}{w w':World}{Jg Jv:List Pl}{g':G}{s':TS F}{a':Act}{m:Nat}(hrs:sp.rs.all (λk=>!k.KT)=true)
  (h4:(aN sp.ks a 0).map (G.RZ 0 Jg I7).ids=Jv.map some) (k4:Good P ⟨λb=>b∈I5 Jg∨w.heap.size≤b,I7,(G.RZ 0 Jg I7).ids⟩ w m s'.st g' a' w') (k2:OI T Γ fn sp.ks sp.rs a s'=some r) :
  ∃M0,(results fn a'.tmps).run P w' = .ok (PK M0) w'∧∃(Jo:Nat→Prop)(Kg:List Pl),
   w'.os=w.os∧w'.tape=w.tape∧w'.output=w.output∧w.drawn≤w'.drawn∧w.heap.size≤w'.heap.size∧(∀b,b<w.heap.size→b∉I5 Jg→w'.heap[b]? = w.heap[b]?)∧
   (∀b,I7 b→Jo b)∧(∀b,Jo b→I7 b∨b∈I5 Jg∨w.heap.size≤b)∧(∀b,Jo b→b<w'.heap.size)∧
   bF P w' Jo (outs sp) r M0 Jv Kg∧Od w' Jo (I5 Jv++I5 Kg)∧∀b∈I5 Jv++I5 Kg,b∈I5 Jg∨w.heap.size≤b:=by
   unfold OI at k2;split at k2
   ·cases k2
   ·rename_i rd hrd;split at k2
    ·cases k2
    ·rename_i p hp;obtain⟨hc,k2⟩:=aL k2;simp only[KV]at hc;cases k2;obtain⟨M0,q1,q2⟩:=ul hT k4 hrd
     have Wm:(aN sp.ks a 0).map g'.ids=Jv.map some:=by rw[← h4];refine QdP λid hid=>?_;obtain⟨q,_,hq⟩:=jc h4 hid;rw[hq];exact k4.N8 id _ hq
     have hcnt:((sp.rs++sp.ks.filter Kd.KT).filter Kd.KT).length=(aN sp.ks a 0).length:=by
      rw[bP,XH,List.filter_filter]
      have:sp.rs.filter Kd.KT = []:=by rw[QfF];intro k hk;have:=Oe.1 hrs k hk;simpa using this
      rw[this];simp
     obtain⟨Kg,p1,p2,p3,p4⟩:=rD hΓ k4.mem (λ_ _ h=>h) hp (I7:=(g'.Nq p.fz).I7) ⟨λ_ h=>.inl h,λid hid b hb=>.inr ⟨id,hid,hb⟩⟩ q2 Wm hcnt;have hfr:=freeze k4.mem (λ_ _ h=>h) p3
     have hL:∀b∈I5 Jv++I5 Kg,∃id B,some id∈p.os∧look s'.M id=some B∧B.owned=true∧g'.blk id b:=by intro b hb;obtain⟨id,r1,r2⟩:=bC.1 (p2.mem_iff.2 hb);obtain⟨B,r3,r4⟩:=p4 id r1;exact⟨id,B,r1,r3,r4,r2⟩
     refine⟨M0,tR q1,(g'.Nq p.fz).I7,Kg,k4.Lc.os,k4.Lc.tape,k4.Lc.output,k4.Lc.drawn,k4.Lc.size,?_,λb hb=>.inl (k4.O5 b hb),?_,hfr.I7,p1,⟨?_,?_,?_⟩,?_⟩
     ·intro b hb hno
      exact k4.Lc.block b hb (λho=>ho.elim hno (λh=>by omega))
     ·intro b hb;exact hfr.io b hb
     ·exact p2.nodup_iff.1 (fg k4.mem (eC hc.1) p4)
     ·intro b hb;obtain⟨id,B,r1,r2,r3,r4⟩:=hL b hb;have hno:id∉p.fz:=jN hc.2 id (dn.2 r1)
      exact(hfr.own id B b (by rw[gb,if_neg hno];exact r2) r3 r4).2
     ·intro b hb;obtain⟨id,B,r1,r2,r3,r4⟩:=hL b hb;exact(k4.mem.ok id B r2).place k4.mem.I7 (J8.MX r3) r4
     ·intro b hb;obtain⟨id,B,r1,r2,r3,r4⟩:=hL b hb;exact(k4.mem.own id B b r2 r3 r4).1
end
set_option linter.unusedVariables false
set_option linter.unusedSimpArgs false
def vm(o:Oper):Bool:=match o.op with
 | .defer _=>false
 | _=>true
def Mw:Code→Bool
 | .region _ ops _=>ops.toList.all vm
 | .seq a b=>Mw a&&Mw b
 | .cond _ a b=>Mw a&&Mw b
 | .block _ a=>Mw a
 | .skip=>true
 | .exit _=>true
 | .ret=>true
 | .label _=>true
 | _=>false
abbrev Rnd(l:Nat):Fence:=Fence.wide.inRound l
section
variable{P:Program}{lr m:Nat}
theorem CS{f:FuncId}{args:Array Value}{w:World}{R:Ending→World→Prop}(h:Calls P f args w R):CallsIn (Rnd lr) m P f args w R:=callsIn_wide.2 h
theorem Fb{row:String}{args:Array Value}{w:World}{R:Value→World→Prop}(h:Rows P row args w R):RowsIn (Rnd lr) m P row args w R:=
 λc cs _=>let⟨v,w',r,s⟩:=h c cs;⟨v,w',r,stepsIn_wide.2 s⟩
theorem d_{ops:Array Oper}{Q:Exit→Act→World→Prop}(hd:ops.toList.all vm=true)(hQ:∀a w,¬ Q .outgrown a w):∀(l:List Nat){a:Act}{w:World},wpOps P ops Q l a w→wpOpsIn (Rnd lr) m P ops Q l a w
 | [],a,w,h=>h
 | i::rest,a,w,h=>by
  simp only[wpOps]at h;simp only[wpOpsIn]
  cases ho:ops[i]? with
  | none=>simp only[ho]at h ⊢;exact d_ hd hQ rest h
  | some o=>
   simp only[ho]at h ⊢;split
   ·rename_i hw;simp only[hw,if_true]at h;rcases h with h | ⟨_,a',w',h⟩
    ·refine⟨λ_ _=>trivial,?_⟩
     have hnd:∀c,o.op≠.defer c:=by
      intro c hc
      have h1:o∈ops.toList:=by rw[← ZF]at ho;exact Rq ho
      have:=Oe.1 hd o h1;simp[vm,hc]at this
     rw[Oper.semAt_eq _ _ _ hnd];unfold Oper.wp at h;generalize(execOp a.eval o).run P w=r at h ⊢;have hl:¬ LetsOut Q:=λ⟨a,w,k⟩=>hQ a w k
     cases r with
     | ok n w'=>
      cases n with
      | value v=>exact d_ hd hQ rest h
      | skip=>exact d_ hd hQ rest h
      | defer d=>exact d_ hd hQ rest h
      | enter f args=>
       refine⟨(by intro h;cases h),CS (h.mono ?_)⟩
       intro e w2 he
       cases e with
       | returned v=>exact d_ hd hQ rest he
       | panicked c=>exact he
       | outgrown=>exact he
      | row row args=>
       exact⟨(by intro h;cases h),Fb (h.mono λv w2 he=>d_ hd hQ rest he)⟩
      | _=>exact h.elim
     | halt x w'=>
      cases x with
      | panic v=>exact h
      | _=>exact h.elim
    ·exact absurd h (hQ _ _)
   ·rename_i hw;simp only[hw]at h;exact⟨λ_ _=>trivial,d_ hd hQ rest h⟩
end
section
variable{F:Fam}{P:Program}{T:TypeId→Option (TI F)}{Γ : Ctx F}{nv n:Nat}{own:Ow}{W0:World}{lr m:Nat}
theorem Cr{s:TS F}{R:Type}{K:Nat→TS F→Option R}{r:R}{a:Act}{w:World}:¬ U_ P own W0 n nv s K r .outgrown a w:=by
 rintro⟨k,s',g',h,_⟩
 match k,h with
 | 0,h=>cases h
 | 1,h=>cases h
 | k+2,h=>cases h
def cO(P:Program)(own:Ow)(W0:World)(n nv lr m:Nat)(c:Code)(run:TS F→{R:Type}→(Nat→TS F→Option R)→Option R):Prop:=
 ∀(s:TS F){R:Type}(K:Nat→TS F→Option R)(r:R),run s K=some r→∀(g:G)(a:Act)(w:World),Good P own W0 n s.st g a w→c.wpIn (Rnd lr) m P (U_ P own W0 n nv s K r) a w
theorem Dr{x y:Code}{f k:TS F→{R:Type}→(Nat→TS F→Option R)→Option R}(hx:cO P own W0 n nv lr m x f)(hy:cO P own W0 n nv lr m y k) :
  cO P own W0 n nv lr m (x.seq y) (λs R K=>f s λe s'=>match e with | 0=>k s' K | e=>K e s'):=by
 intro s R K r h g a w hg;refine wpIn_seq (wpIn_mono (hx s _ r h g a w hg) ?_);rintro e a' w' ⟨i,s',g',rfl,h2,h3,h4⟩
 match i,h2 with
 | 0,h2=>exact wpIn_mono (hy s' K r h2 g' a' w' h4) (λe a w hq=>hq.back h3)
 | 1,h2=>exact⟨1,s',g',rfl,h2,h3,h4⟩
 | i+2,h2=>exact⟨i+2,s',g',rfl,h2,h3,h4⟩
theorem Ah{t:Nat}{x y:Code}{f k:TS F→{R:Type}→(Nat→TS F→Option R)→Option R}(hx:cO P own W0 n nv lr m x f)(hy:cO P own W0 n nv lr m y k) :
  cO P own W0 n nv lr m (.cond (.tmp t) x y) (λs R K=>match look s.E t with
  | some (.c (.im (.b b)))=>cond b (f s K) (k s K)
  | _=>none):=by
 intro s R K r h g a w hg;dsimp only at h;split at h
 ·rename_i b hb;refine wpIn_cond_split (nc (hg.env t _ hb)) (λe=>?_) (λe=>?_)
  ·subst e;exact hx s K r h g a w hg
  ·subst e;exact hy s K r h g a w hg
 ·cases h
theorem zF{b:Bool}{x y:Code}{f k:TS F→{R:Type}→(Nat→TS F→Option R)→Option R}(hx:cO P own W0 n nv lr m x f)(hy:cO P own W0 n nv lr m y k) :
  cO P own W0 n nv lr m (.cond (.const (.bool b)) x y) (λs R K=>cond b (f s K) (k s K)):=by
 intro s R K r h g a w hg;refine wpIn_cond_split (t:=b) rfl (λe=>?_) (λe=>?_)
 ·subst e;exact hx s K r h g a w hg
 ·subst e;exact hy s K r h g a w hg
theorem zH{i:Nat}{x:Code}{f:TS F→{R:Type}→(Nat→TS F→Option R)→Option R}(hx:cO P own W0 n nv lr m x f) :
  cO P own W0 n nv lr m (.block i x) (λs R K=>f s λe s'=>if Nat.beq e (i+2)then K 0 s' else K e s'):=by
 intro s R K r h g a w hg;refine wpIn_block (wpIn_mono (hx s _ r h g a w hg) ?_);rintro e a' w' ⟨j,s',g',rfl,h2,h3,h4⟩
 match j,h2 with
 | 0,h2=>exact⟨0,s',g',rfl,h2,h3,h4⟩
 | 1,h2=>exact⟨1,s',g',rfl,h2,h3,h4⟩
 | j+2,h2=>
  simp only at h2;show Exit.inBlock i _ (.exit j) a' w';simp only[Exit.inBlock];by_cases hij:j=i
  ·subst hij;rw[ba,if_pos rfl]at h2;rw[if_pos rfl];exact⟨0,s',g',rfl,h2,h3,h4⟩
  ·rw[aj (by omega)]at h2
   rw[if_neg hij];exact⟨j+2,s',g',rfl,h2,h3,h4⟩
theorem wF(hT:J5 P T)(hΓ : Kz P Γ)(K5:P.follows .mixedOrders=true){id:Nat}{Kw:Array Oper}{draw:Bool}{kp:List Nat}(hd:Kw.toList.all vm=true) :
  cO P own W0 n nv lr m (.region id Kw draw) (λs R K=>OU T Γ nv n kp Kw.toList draw s (K 0)):=by
 intro s R K r h g a w hg;unfold OU at h;obtain⟨z,tr,h1,t1,t2,t3,t4,t5⟩:=nE hT hΓ h;obtain⟨PV,h1⟩:=aL h1;obtain⟨E',h2,h3⟩:=jF h1
 have hQ':∀g' a' w',Good P own W0 n z.st g' a' w'→U_ P own W0 n nv s K r .normal a' w':=by
  intro g' a' w' hg';refine⟨0,_,g',rfl,h2,⟨λx hx hn=>?_,t5.m,t5.c,t5.dE,t5.dM⟩,hg'.sub ?_ (λ_ _ h=>h) (λ_ h=>h)⟩
  ·show look E' x=_
   rw[h3,if_pos (by simp[Jw,M4.mpr hx])]
   exact t5.e x hx hn
  ·intro x d hx;simp only[TS.st]at hx ⊢;rw[h3]at hx;split at hx
   ·exact hx
   ·cases hx
 cases draw with
 | false=>
  have hlen:Kw.size=tr.length:=by rw[← SV,← t1,OD]
  refine wpIn_region (d_ hd (λ_ _=>Cr) _ ?_)
  have:=mD (Kw:=Kw) rfl (Q:=U_ P own W0 n nv s K r) tr 0 s.st z.st (by
   intro j
   have:Kw.toList[j]? = (tr.map (·.o))[j]?:=by rw[t1]
   rw[MU]at this;rw[← this];simp) t2 t3 hg hQ'
  rw[← hlen]at this;rw[QdZ];exact this
 | true=>simp only[if_true,KV,O7]at PV;refine wpIn_region_draw λt=>d_ hd (λ_ _=>Cr) _ ?_;simp only[Region.schedule,K5,Bool.true_or,if_true];exact wpAny_sound Kw.size t _ a _ (vv (Kw:=Kw) rfl t1 t2 t3 t4 PV.1 PV.2 (rG hg) hQ')
theorem Dz{c:Code}{f:TS F→{R:Type}→(Nat→TS F→Option R)→Option R}(hf:cO P own W0 n nv lr m c f)(kp:List Nat):cO P own W0 n nv lr m c (λs R K=>f (jB kp s) K):=by intro s R K r h g a w hg;obtain⟨⟨g',h1⟩,h2⟩:=ja (nv:=nv) kp hg;exact wpIn_mono (hf _ K r h g' a w h1) (λe a' w' hq=>hq.back h2)
theorem L6(hT:J5 P T)(hΓ : Kz P Γ)(K5:P.follows .mixedOrders=true):∀(c:Code),Mw c=true→cO P own W0 n nv lr m c (KE T Γ nv n c)
 | .skip=>λhd s R K r h g a w hg=>wpIn_skip ⟨0,s,g,rfl,by simpa[KE]using h,.refl _ _,hg⟩
 | .exit i=>λhd s R K r h g a w hg=>wpIn_exit ⟨i+2,s,g,rfl,by simpa[KE]using h,.refl _ _,hg⟩
 | .ret=>λhd s R K r h g a w hg=>wpIn_ret ⟨1,s,g,rfl,by simpa[KE]using h,.refl _ _,hg⟩
 | .region id ops draw=>λhd s R K r h g a w hg=>wF (id:=id) (kp:=[]) hT hΓ K5 hd s K r (by simp only[KE]at h;exact h) g a w hg
 | .seq x y=>λhd s R K r h g a w hg=>by
  simp only[Mw,KV]at hd
  exact Dr (L6 hT hΓ K5 x hd.1) (L6 hT hΓ K5 y hd.2) s K r (by simp only[KE]at h;exact h) g a w hg
 | .cond (.tmp t) x y=>λhd s R K r h g a w hg=>by
  simp only[Mw,KV]at hd
  exact Ah (L6 hT hΓ K5 x hd.1) (L6 hT hΓ K5 y hd.2) s K r (by simp only[KE]at h;exact h) g a w hg
 | .cond (.const v) x y=>by
  cases v with
  | bool b=>
   intro hd s R K r h g a w hg;simp only[Mw,KV]at hd
   exact zF (L6 hT hΓ K5 x hd.1) (L6 hT hΓ K5 y hd.2) s K r (by simp only[KE]at h;exact h) g a w hg
  | _=>exactλhd s R K r h g a w hg=>by simp[KE]at h
 | .cond (.global _) x y=>λhd s R K r h g a w hg=>by simp[KE]at h
 | .cond (.func _) x y=>λhd s R K r h g a w hg=>by simp[KE]at h
 | .block i x=>λhd s R K r h g a w hg=>zH (L6 hT hΓ K5 x hd) s K r (by simp only[KE]at h;exact h) g a w hg
 | .loop x=>λhd s R K r h g a w hg=>by simp[KE]at h
 | .goto x=>λhd s R K r h g a w hg=>by simp[KE]at h
 | .label x=>λhd s R K r h g a w hg=>wpIn_label ⟨0,s,g,rfl,by simpa[KE]using h,.refl _ _,hg⟩
 | .rangeFunc _ _ _ _=>λhd s R K r h g a w hg=>by simp[KE]at h
 | .refuse _=>λhd s R K r h g a w hg=>by simp[KE]at h
 | .scope x=>λhd=>by cases hd
theorem Hh(hΓ : Kz P Γ){c:Code}{f:TS F→{R:Type}→(Nat→TS F→Option R)→Option R}(hf:cO P own W0 n nv lr m c f){dr:List Nat}{xs:List (Nat×Ks)}(hx:∀y∈MZ xs,y∈dr) :
  cO P own W0 n nv lr m c (λs R K=>(f (clean s) λe s'=>Pg Γ s dr s.c (aM s dr) xs e s').bind λv=>OM (λe ks x=>K e (merge nv dr (aM s dr) s ks x)) xs v):=by
 intro s R K r h g a w hg;rw[UW]at h;obtain⟨v,hv,he⟩:=h;refine wpIn_mono (hf (clean s) _ v hv g a w hg) ?_;rintro e a' w' ⟨i,s',g',rfl,h2,h3,h4⟩;obtain⟨ks,x,hp,hsub,hel⟩:=sM h2;rw[hel]at he;obtain⟨⟨g2,k1⟩,k2,_⟩:=nf hΓ hg h4 (λx hx _ hn=>h3.e x hx hn) (λid hi _ hn=>h3.m id hi hn) (λy hy=>hx y (hsub y hy)) hp;exact⟨i,_,g2,rfl,he,k2,k1⟩
def NG:Hint→Bool
 | .z=>true
 | .r _=>true
 | .s a b=>NG a&&NG b
 | .c a b=>NG a&&NG b
 | .b a=>NG a
 | .j _ _ a=>NG a
 | _=>false
theorem Hk(hT:J5 P T)(hΓ : Kz P Γ)(K5:P.follows .mixedOrders=true):∀(h:Hint),NG h=true→∀(c:Code),Mw c=true→cO P own W0 n nv lr m c (KP T Γ nv n h c):=by
 intro h
 induction h with
 | z=>intro _ c hd s R K r hr;exact L6 hT hΓ K5 c hd s K r (by simp only[KP]at hr;exact hr)
 | r kp=>
  intro _ c hd s R K r hr
  cases c with
  | region id ops draw=>exact Dz (wF (id:=id) (kp:=kp) hT (rU hΓ) K5 hd) kp s K r (by simp only[KP]at hr;exact hr)
  | _=>simp[KP]at hr
 | s h k ih ik=>
  intro hh c hd s R K r hr;simp only[NG,KV]at hh
  cases c with
  | seq x y=>
   simp only[Mw,KV]at hd
   exact Dr (ih hh.1 x hd.1) (ik hh.2 y hd.2) s K r (by simp only[KP]at hr;exact hr)
  | _=>simp[KP]at hr
 | c h k ih ik=>
  intro hh c hd s R K r hr;simp only[NG,KV]at hh
  cases c with
  | cond t x y=>
   simp only[Mw,KV]at hd
   cases t with
   | tmp t=>exact Ah (ih hh.1 x hd.1) (ik hh.2 y hd.2) s K r (by simp only[KP]at hr;exact hr)
   | const v=>cases v with
    | bool b=>exact zF (ih hh.1 x hd.1) (ik hh.2 y hd.2) s K r (by simp only[KP]at hr;exact hr)
    | _=>simp[KP]at hr
   | _=>simp[KP]at hr
  | _=>simp[KP]at hr
 | b h ih=>
  intro hh c hd s R K r hr
  cases c with
  | block i x=>exact zH (ih hh x hd) s K r (by simp only[KP]at hr;exact hr)
  | scope x=>cases hd
  | _=>simp[KP]at hr
 | j dr xs h ih=>
  intro hh c hd s R K r hr
  exact Hh (dr:=dr++MZ xs) (xs:=xs) hΓ (ih hh c hd) (λy hy=>by simp[hy]) s K r (by simp only[KP]at hr;exact hr)
 | _=>intro hh;cases hh
end
set_option linter.unusedVariables false
set_option linter.unusedSimpArgs false
def WL{τ α : Type}(step:α→τ→Option τ):List α→τ→Option τ
 | [],t=>some t
 | x::r,t=>(WL step r t).bind (step x)
theorem x_{τ α : Type}{step:α→τ→Option τ}(x:α):∀(l:List α)(t:τ),WL step (l++[x]) t=(step x t).bind (WL step l)
 | [],t=>by
  show step x t=(step x t).bind λt=>some t
  cases step x t<;>rfl
 | y::l,t=>by simp only[SS,WL];rw[x_ x l t,Option.bind_assoc]
structure RfC where
 M6:Array Oper
 Mj:Array Oper
 Vg:Array Oper
 t:Nat
 pi:Nat
 px:Nat
 assign:Code
 body:Code
def yt:Code→Option RfC
 | .seq (.region _ M6 false) (.seq (.seq (.region _ Mj false) (.block _ (.rangeFunc (.tmp t) ⟨[pi,px]⟩ assign body))) (.seq (.region _ Vg false) .ret))=>some ⟨M6,Mj,Vg,t,pi,px,assign,body⟩
 | _=>none
theorem BW{c:Code}{q:RfC}(h:yt c=some q):∃i0 i1 ib i8,c = .seq (.region i0 q.M6 false) (.seq (.seq (.region i1 q.Mj false) (.block ib (.rangeFunc (.tmp q.t) #[q.pi,q.px] q.assign q.body))) (.seq (.region i8 q.Vg false) .ret)):=by
 unfold yt at h;split at h
 ·cases h;exact⟨_,_,_,_,rfl⟩
 ·cases h
section
variable{F:Fam}
def zf:Option (Dat F)→Bool
 | some (.c (.ptr _ _))=>true
 | _=>false
def T9:Kv F→Bool
 | .ln _=>false
 | .UN _ _=>false
 | _=>true
def Sn:J8 F→Bool
 | .box cs=>cs.all T9
 | _=>true
def Sl:Dat F→Bool
 | .c x=>T9 x
 | .agg cs=>cs.all T9
 | .fv _ _ _=>true
 | _=>false
def Ot(s:TS F):Bool:=s.M.all λp=>Sn p.2
def VZ(s:TS F):Bool:=s.E.all (λp=>Sl p.2)&&Ot s
def sY(t:Nat)(E:List (Nat×Dat F)):List (Nat×Dat F):=E.filter λp=>!(Nat.beq t p.1)&&zf (look E p.1)
def RS(s:TS F)(t id:Nat)(tt:Ty)(l:List (ET F tt)):TS F:=⟨sY t s.E,(id,.OG tt l)::s.M.filter (λp=>!(Nat.beq id p.1)),s.c,[],[]⟩
def Xe(m:TS F)(px:Nat)(d:Dat F):TS F:=⟨(px,d)::m.E,m.M,m.c,[],[]⟩
def rfZ(s:TS F):TS F:=⟨sY 1000000 s.E,s.M,s.c,s.dE,s.dM⟩
variable(T:TypeId→Option (TI F))(Γ : Ctx F)(nv n:Nat)
noncomputable def vr(q:RfC)(h:Hint)(te:TypeId)(sB:TS F)(Mh kill:List Nat)(Ls:Ks)(tt:Ty)(x:ET F tt)(t:TLS F Ls):Option (TLS F Ls):=
 match T te with
 | none=>none
 | some ti=>match dh ti ((Jj F tt x).map .im) 0 with
  | none=>none
  | some d=>KE T Γ nv n q.assign (Xe (merge nv Mh kill sB Ls t) q.px d) λe s1=>
    if Nat.beq e 0&&VZ s1 then KP T Γ nv n h q.body s1 λe s'=>
     if Nat.beq e 0 then match LA Γ sB Mh sB.c kill Ls s' with
      | none=>none
      | some t'=>if Ot (merge nv Mh kill sB Ls t')then some t' else none
     else none
    else none
noncomputable def zB(fn:Func)(fB:FuncId)(te:TypeId)(Ls:Ks)(SK:List Nat)(h:Hint)(ks rs:List Kd)(a:HL F ks):Option (TL F (rs++ks.filter Kd.KT)):=
 match fn.body with
 | none=>none
 | some body=>match yt body with
  | none=>none
  | some q=>match qS q.Mj.toList with
   | none=>none
   | some (pre,oB)=>match xO oB with
    | none=>none
    | some e=>if Nat.beq e.t q.t&&Nat.beq e.f fB&&Nat.blt q.t fn.ntmps&&Nat.blt q.pi fn.ntmps&&Nat.blt q.px fn.ntmps&&!(Nat.beq q.pi q.px)&&Mw q.assign&&Mw q.body&&NG h then
      match Lb ks a 0 with
      | (ds,bs,c)=>if yx ks then
        OU T Γ nv fn.ntmps [] q.M6.toList false ⟨params 0 (Ph ks a ds),bs,c,[],[]⟩ λs1=>
        Td T Γ nv fn.ntmps q.Mj.toList pre s1 [] λs2 _=>match look s2.E e.x with
         | some (.c (.KU id))=>match look s2.M id,T te with
          | some (.row tt l),some ti=>
           if Nat.beq (Jm F tt) ti.size&&!(Jw id (aM (RS s2 q.t id tt l) (SK++keysOf Ls)))&&(Ls.all λk=>(dH k.2 (look (RS s2 q.t id tt l).E k.1)).isSome)&&(look (RS s2 q.t id tt l).E q.pi).isNone&&(look (RS s2 q.t id tt l).E q.px).isNone&&Nat.blt id s2.c&&Ot (RS s2 q.t id tt l)&&Jw q.px (SK++keysOf Ls)&&da ti.desc then
            match LA Γ (RS s2 q.t id tt l) (SK++keysOf Ls) s2.c (aM (RS s2 q.t id tt l) (SK++keysOf Ls)) Ls (RS s2 q.t id tt l)with
            | none=>none
            | some t0=>if Ot (merge nv (SK++keysOf Ls) (aM (RS s2 q.t id tt l) (SK++keysOf Ls)) (RS s2 q.t id tt l) Ls t0)then
              (WL (vr T Γ nv fn.ntmps q h te (RS s2 q.t id tt l) (SK++keysOf Ls) (aM (RS s2 q.t id tt l) (SK++keysOf Ls)) Ls tt) l t0).bind λv=>
               OU T Γ nv fn.ntmps [] q.Vg.toList false (merge nv (SK++keysOf Ls) (aM (RS s2 q.t id tt l) (SK++keysOf Ls)) (RS s2 q.t id tt l) Ls v) λs8=>
                if Ot s8 then OI T Γ fn ks rs a (rfZ s8)else none
              else none
           else none
          | _,_=>none
         | _=>none
       else none
     else none
end
section
variable{F:Fam}{P:Program}{own own':Ow}{W0 W1:World}{n n':Nat}{s s':St F}{g:G}{a a':Act}{w w':World}
def G.Lg(g:G):G:=⟨g.ids,g.I7,λ_=>False⟩
theorem qG{c:Kv F}{x:Value}(hn:T9 c=true)(h:Ka g w c x):Ka g.Lg w c x:=by
 cases h with
 | ln h=>cases hn
 | UN _ _ _ _ _ _ _ _=>cases hn
 | im h=>exact .im h
 | pt cs off b o f hb hc hr=>exact .pt cs off b o f hb hc hr
 | ptr h=>exact .ptr h
 | Mg h=>exact .Mg h
 | MR p h=>exact .MR p h
 | KU h h1 h2=>exact .KU h h1 h2
 | OW p h=>exact .OW p h
 | Ny h h1 h2 h3 h4=>exact .Ny h h1 h2 h3 h4
 | O4 h h1 h2=>exact .O4 h h1 h2
 | Px h h1=>exact .Px h h1
 | O6 h hm=>exact .O6 h hm
 | Og h=>exact .Og h
 | P5 cs b o b2 o2 f hb hv hb2 hc hr=>exact .P5 cs b o b2 o2 f hb hv hb2 hc hr
 | any=>exact .any
 | one h=>exact .one h
theorem BH{d:Dat F}{x:Value}(hn:Sl d=true)(h:J4 P g w d x):J4 P g.Lg w d x:=by
 cases h with
 | c h=>exact .c (qG hn h)
 | agg hl h=>exact .agg hl (λk c x a b=>qG (Oe.1 hn c (Rq a)) (h k c x a b))
 | MI _ _=>cases hn
 | NM _ _ _ _=>cases hn
 | fv h=>exact .fv h
 | gh h=>exact .gh h
theorem Do{id:Nat}{B:J8 F}(hn:Sn B=true)(h:KQ g w id B):KQ g.Lg w id B:=by
 cases B with
 | box cs=>obtain⟨b,c,arr,t,h1,h2,h3,h4⟩:=h;exact⟨b,c,arr,t,h1,h2,h3,λk c x a b=>qG (Oe.1 hn c (Rq a)) (h4 k c x a b)⟩
 | _=>exact h
theorem Good.Lg(h:Good P own W0 n s g a w)(hE:∀x d,s.e x=some d→Sl d=true)(hM:∀id B,s.m id=some B→Sn B=true):Good P own W0 n s g.Lg a w:=
 ⟨h.Py,h.OP,λx d hx=>BH (hE x d hx) (h.env x d hx),⟨λid B hB=>Do (hM id B hB) (h.mem.ok id B hB),h.mem.OB,h.mem.own,h.mem.I7,h.mem.io,λb hb=>hb.elim⟩,h.dom,h.O5,h.Lc,h.N8⟩
theorem Good.world(h:Good P own W0 n s g a w)(hl:∀b,¬ g.len b)(hsz:w.heap.size≤w'.heap.size)(hd:w.drawn≤w'.drawn)(X:Nat→Prop)(hX:∀b,X b→¬ own.o b∧¬ own.i b)(hs:∀b,b<w.heap.size→¬ X b→w'.heap[b]? = w.heap[b]?)(hf:∀b,w'.heap.size≤b→own.o b) :
  Good P own w' n s g a w':=by
 have hle:Le g w g w':=by
  refine⟨λ_ _ h=>h,λ_ h=>h,λb hb=>?_,λ_ h=>h,λb hb=>(hl b hb).elim⟩;refine hs b (h.mem.I7 b hb) (λhx=>?_);rcases h.mem.io b hb with hi | ho
  ·exact(hX b hx).2 hi
  ·exact(hX b hx).1 ho
 refine⟨h.Py,h.OP,λx d hx=>(h.env x d hx).le hle,⟨λid B hB=>(h.mem.ok id B hB).le hle λho b hb=>?_,h.mem.OB,h.mem.own,λb hb=>O8 (h.mem.I7 b hb) hsz,h.mem.io,λb hb=>(hl b hb).elim⟩,h.dom,h.O5,⟨rfl,rfl,rfl,KC _,hf,λ_ _ _=>rfl,KC _⟩,h.N8⟩;exact hs b ((h.mem.ok id B hB).place h.mem.I7 (J8.MX ho) hb) (λhx=>(hX b hx).1 (h.mem.own id B b hB ho hb).1)
theorem Good.env'(h:Good P own W0 n s g a w)(hd:a'.defers = [])(ht:a'.tmps.size=n')(he:∀x d,s'.e x=some d→J4 P g w d (a'.tmps.getD x undef))(hm:∀id B,s'.m id=some B→s.m id=some B)(hu:∀id,s'.u id=false→s.u id=false):Good P own W0 n' s' g a' w:=
 ⟨hd,ht,he,h.mem.sub hm,λid hi=>h.dom id (hu id hi),h.O5,h.Lc,h.N8⟩
def Ow.aside(own:Ow)(g:G)(X:Nat→Prop):Ow:=⟨λb=>own.o b∧¬ X b,own.i,g.ids⟩
theorem Good.aside(h:Good P own W0 n s g a w)(hl:∀b,¬ g.len b)(X:Nat→Prop)(hX:∀b,X b→(∀id B,s.m id=some B→B.owned=true→¬ g.blk id b)∧¬ g.I7 b)(hXs:∀b,X b→b<w.heap.size):Good P (own.aside g X) w n s g a w:=by
 refine⟨h.Py,h.OP,h.env,⟨h.mem.ok,h.mem.OB,λid B b hB ho hb=>⟨⟨(h.mem.own id B b hB ho hb).1,λhx=>(hX b hx).1 id B hB ho hb⟩,(h.mem.own id B b hB ho hb).2⟩,h.mem.I7,λb hb=>?_,λb hb=>(hl b hb).elim⟩,h.dom,h.O5,⟨rfl,rfl,rfl,KC _,λb hb=>⟨h.Lc.fresh b (MP h.Lc.size hb),λhx=>by have:=hXs b hx;omega⟩,λ_ _ _=>rfl,KC _⟩,λid p hp=>hp⟩
 rcases h.mem.io b hb with hi | ho
 ·exact .inl hi
 ·exact .inr ⟨ho,λhx=>(hX b hx).2 hb⟩
theorem Good.back{gB:G}{X:Nat→Prop}(h:Good P (own.aside gB X) W1 n s g a w)(hl:∀b,¬ g.len b)(hf:RO own W0 w)(hn:∀id p,own.nm id=some p→gB.ids id=some p):Good P own W0 n s g a w:=
 ⟨h.Py,h.OP,h.env,⟨h.mem.ok,h.mem.OB,λid B b hB ho hb=>⟨(h.mem.own id B b hB ho hb).1.1,(h.mem.own id B b hB ho hb).2⟩,h.mem.I7,λb hb=>(h.mem.io b hb).imp id λhh=>hh.1,λb hb=>(hl b hb).elim⟩,h.dom,h.O5,hf,λid p hp=>h.N8 id p (hn id p hp)⟩
theorem RO.aside{gB:G}{X:Nat→Prop}(h:RO own W0 w)(h2:RO (own.aside gB X) w w'):RO own W0 w':=
 ⟨h2.os.trans h.os,h2.tape.trans h.tape,h2.output.trans h.output,MP h.size h2.size,h.fresh,λb hb ho=>(h2.block b (O8 hb h.size) (λhh=>ho hh.1)).trans (h.block b hb ho),MP h.drawn h2.drawn⟩
theorem yH{t x:Nat}{E:List (Nat×Dat F)}:look (sY t E) x=if !(Nat.beq t x)&&zf (look E x)then look E x else none:=aI (λy=>!(Nat.beq t y)&&zf (look E y)) x E
theorem km{t x:Nat}{E:List (Nat×Dat F)}{d:Dat F}(h:look (sY t E) x=some d):x≠t∧look E x=some d∧∃id off,d = .c (.ptr id off):=by
 rw[yH]at h;split at h
 ·rename_i hc;obtain⟨h1,h2⟩:=(KV _ _).mp hc;refine⟨λe=>?_,h,?_⟩
  ·rw[e,ba]at h1;cases h1
  ·rw[h]at h2
   match d,h2 with
   | .c (.ptr id off),_=>exact⟨id,off,rfl⟩
 ·cases h
end
set_option linter.unusedVariables false
set_option linter.unusedSimpArgs false
def xM(P:Program)(fC:FuncId)(te:TypeId)(sz:Nat):Prop:=
 ∀(l bx n cap:Nat)(p:Option Addr)(J:Nat→World→Prop)(W:World),n≤maxLen→(n=0∨∃b,p=some ⟨b,0,none⟩)→
  (∀k w,J k w→w.heap[bx]? = W.heap[bx]?)→W.cell? ⟨bx,0,none⟩=some (.slice p n cap)→
  (∀k w,J (k+1) w→k<n→∀b,p=some ⟨b,0,none⟩→∃f:Nat→Value,(∀j,j<sz→w.cell? ⟨b,k*sz+j,none⟩=some (f j))∧YieldAt Fence.wide 0 P l #[.int .i64 (k:Nat),.agg ⟨(List.range sz).map f⟩] w λe w'=>e = .returned (.bool true)∧J k w')→
  J n W→CallsIn Fence.wide 1 P fC #[.func (.yield l) #[] #[],.pointer (some ⟨bx,0,none⟩)] W λe w'=>(∃v,e = .returned v)∧J 0 w'
section
variable{F:Fam}{P:Program}
theorem Fg{T:TypeId→Option (TI F)}(hT:J5 P T){t:TypeId}{ti:TI F}(ht:T t=some ti)(hag:da ti.desc=true){b q:Nat}{w:World}{f:Nat→Value}(hc:∀j,j<ti.size→w.cell? ⟨b,q+j,none⟩=some (f j)) :
  (loadVar t ⟨b,q,none⟩).run P w = .ok (.agg ⟨(List.range ti.size).map f⟩) w:=by
 have hrun:=run_loadCells (P:=P) w ⟨b,q,none⟩ ti.size f (by intro j hj;rw[Addr.add_lit];exact hc j hj)
 simp only[loadVar,LM,nj hT ht w,L8,hag,if_true,bA hT ht w,hrun,MO]
theorem rA{E:List (Nat×Dat F)}:∀{ks:Ks}{v:TLS F ks}{c:Nat},(ks.all λk=>(dH k.2 (look E k.1)).isSome)=true→∀y d,look (KO E ks v c).1 y=some d→look E y=some d
 | [],v,c,h,y,d,hy=>by simp[KO,look]at hy
 | [k],v,c,h,y,d,hy=>by
  simp only[TB,List.all_nil,Bool.and_true,QeZ]at h;obtain⟨id,hid⟩:=h;simp only[KO,NW,hid]at hy;rcases ep hid with⟨t,ow,hk,hl⟩ | ⟨t,arr,hk,hl⟩
  ·obtain⟨x,kk⟩:=k;simp only at hk hl hid hy;subst hk;simp only[Uy,ar]at hy;by_cases hxy:x=y
   ·subst hxy;rw[ba]at hy;simp only[if_true,K3]at hy;rw[← hy];exact hl
   ·rw[aj hxy]at hy;simp[look]at hy
  ·obtain⟨x,kk⟩:=k;simp only at hk hl hid hy;subst hk;simp only[Uy,ar]at hy;by_cases hxy:x=y
   ·subst hxy;rw[ba]at hy;simp only[if_true,K3]at hy;rw[← hy];exact hl
   ·rw[aj hxy]at hy;simp[look]at hy
 | k::l::r,v,c,h,y,d,hy=>by
  rw[TB,KV]at h;obtain⟨h1,h2⟩:=h;rw[QeZ]at h1;obtain⟨id,hid⟩:=h1;simp only[KO,NW,hid]at hy
  have key:∀(x:Nat)(dd:Dat F)(rest:List (Nat×Dat F)),look E x=some dd→(∀y d,look rest y=some d→look E y=some d)→look ((x,dd)::rest) y=some d→look E y=some d:=by
   intro x dd rest e1 e2 e3;rw[ar]at e3;split at e3
   ·rename_i hb;have:=M_ hb;subst this;cases e3;exact e1
   ·exact e2 y d e3
  obtain⟨x,kk⟩:=k;simp only at hid hy;rcases ep hid with⟨t,ow,hk,hl⟩ | ⟨t,arr,hk,hl⟩
  ·subst hk;simp only[Uy]at hy;exact key x _ _ hl (λy d=>rA h2 y d) hy
  ·subst hk;simp only[Uy]at hy;exact key x _ _ hl (λy d=>rA h2 y d) hy
theorem sf{nv:Nat}{Mh kill:List Nat}{s:TS F}{ks:Ks}{v:TLS F ks}(hs:(ks.all λk=>(dH k.2 (look s.E k.1)).isSome)=true){y:Nat}{d:Dat F}(h:look (merge nv Mh kill s ks v).E y=some d):look s.E y=some d:=by
 have h:look ((KO s.E ks v s.c).1++s.E.filter λp=>Nat.blt p.1 nv&&!(Jw p.1 Mh)) y=some d:=h;rw[aZ]at h
 cases hl:look (KO s.E ks v s.c).1 y with
 | some d'=>rw[hl]at h;cases h;exact rA hs y _ hl
 | none=>
  rw[hl,TD,aI (λy=>Nat.blt y nv&&!(Jw y Mh))]at h;split at h
  ·exact h
  ·cases h
theorem na{s:TS F}(h:Ot s=true):∀id B,look s.M id=some B→Sn B=true:=λid B hB=>Oe.1 h (id,B) (lI hB)
theorem BU{s:TS F}(h:VZ s=true):(∀x d,look s.E x=some d→Sl d=true)∧∀id B,look s.M id=some B→Sn B=true:=by simp only[VZ,KV]at h;exact⟨λx d hx=>Oe.1 h.1 (x,d) (lI hx),na h.2⟩
theorem RO.foreign{own:Ow}{W0 w w':World}(h:RO own W0 w)(hos:w'.os=w.os)(ht:w'.tape=w.tape)(ho:w'.output=w.output)(hd:w.drawn≤w'.drawn)(hsz:w.heap.size≤w'.heap.size)(X:Nat→Prop)(hX:∀b,X b→own.o b)(hs:∀b,b<w.heap.size→¬ X b→w'.heap[b]? = w.heap[b]?):RO own W0 w':=
 ⟨hos.trans h.os,ht.trans h.tape,ho.trans h.output,MP h.size hsz,h.fresh,λb hb hn=>(hs b (O8 hb h.size) (λhx=>hn (hX b hx))).trans (h.block b hb hn),MP h.drawn hd⟩
structure RfI(P:Program)(own:Ow)(Wc:World)(n nv:Nat)(gB:G)(X:Nat→Prop)(a3:Act)(sB:TS F)(Mh kill:List Nat)(Ls:Ks)(t:TLS F Ls)(w:World):Prop where
 good:∃g,Good P (own.aside gB X) w n (merge nv Mh kill sB Ls t).st g a3 w∧∀b,¬ g.len b
 Lc:RO own Wc w
 m:∀q∈(KO sB.E Ls t sB.c).2.1,sB.c≤q.1∨q.1∈kill
 e:∀y,y∉keysOf Ls→look (KO sB.E Ls t sB.c).1 y=none
 c:sB.c≤(KO sB.E Ls t sB.c).2.2
variable{T:TypeId→Option (TI F)}{Γ : Ctx F}{nv n:Nat}{own:Ow}{Wc WB:World}{gB:G}{X:Nat→Prop}{a3:Act}{sB:TS F}{Mh kill:List Nat}{Ls:Ks}{w:World}
theorem G3(hbase:Good P (own.aside gB X) WB n sB.st gB a3 WB)(UO:∀x d,look sB.E x=some d→∃i off,d = .c (.ptr i off)){g:G}{w:World}(hn:∀id p,gB.ids id=some p→g.ids id=some p){x:Nat}{d:Dat F}(h:look sB.E x=some d):J4 P g w d (a3.tmps.getD x undef):=by obtain⟨i,off,rfl⟩:=UO x d h;obtain⟨b,c,h1,h2⟩:=bo (hbase.env x _ h);rw[h2];exact .c (.ptr (hn _ _ h1))
theorem yX(UO:∀x d,look sB.E x=some d→∃i off,d = .c (.ptr i off)){x:Nat}{d:Dat F}(h:look sB.E x=some d):Sl d=true:=by obtain⟨i,off,rfl⟩:=UO x d h;rfl
theorem Av(hΓ : Kz P Γ)(hbase:Good P (own.aside gB X) WB n sB.st gB a3 WB)(hd3:a3.defers = [])(ht3:a3.tmps.size=n)(UO:∀x d,look sB.E x=some d→∃i off,d = .c (.ptr i off))(hsame:(Ls.all λk=>(dH k.2 (look sB.E k.1)).isSome)=true)(hk:∀y∈keysOf Ls,y∈Mh)
  {z:TS F} {g:G} {a:Act} {w w':World} {W2:World} (hz:Good P (own.aside gB X) W2 n z.st g a w) (hE:∀x,x<nv→x∉Mh→x∉z.dE→look z.E x=look sB.E x) (hM:∀id,id<sB.c→id∉kill→id∉z.dM→look z.M id=look sB.M id)
  {t:TLS F Ls} (hp:LA Γ sB Mh sB.c kill Ls z=some t) (hnl:Ot (merge nv Mh kill sB Ls t)=true)
  (hsz:w.heap.size≤w'.heap.size) (hd:w.drawn≤w'.drawn) (L:Nat→Prop) (hL:∀b,L b→X b∧¬ own.i b) (hs:∀b,b<w.heap.size→¬ L b→w'.heap[b]? = w.heap[b]?) (hf:∀b,w'.heap.size≤b→(own.aside gB X).o b) (Nz:RO own Wc w') :
  RfI P own Wc n nv gB X a3 sB Mh kill Ls t w':=by
 obtain⟨⟨g',k1⟩,q1,q2,q3⟩:=vI (nv:=nv) hΓ hbase hz hE hM hp;have k2:=k1.Lg (λx d hx=>yX UO (sf hsame hx)) (na hnl);have k3:Good P (own.aside gB X) _ n (merge nv Mh kill sB Ls t).st g'.Lg a3 w:=k2.env' hd3 ht3 (λx d hx=>G3 hbase UO (λid p h=>k2.N8 id p h) (sf hsame hx)) (λ_ _ h=>h) (λ_ h=>h);exact⟨⟨g'.Lg,k3.world (λ_ h=>h) hsz hd L (λb hb=>⟨λhh=>hh.2 (hL b hb).1,(hL b hb).2⟩) hs hf,λ_ h=>h⟩,Nz,q1,q2,q3⟩
end
set_option linter.unusedVariables false
set_option linter.unusedSimpArgs false
section
variable{F:Fam}{P:Program}{T:TypeId→Option (TI F)}{Γ : Ctx F}{nv n:Nat}{own:Ow}{Wc WB:World}{gB:G}{X:Nat→Prop}{a3:Act}{sB:TS F}{Mh kill:List Nat}{Ls:Ks}{w:World}
theorem tH{t:TLS F Ls}(hm:∀q∈(KO sB.E Ls t sB.c).2.1,sB.c≤q.1∨q.1∈kill){id:Nat}(hi:id<sB.c)(hk:id∉kill):look (merge nv Mh kill sB Ls t).M id=look sB.M id:=by
 show look ((KO sB.E Ls t sB.c).2.1++sB.M.filter λp=>!(Jw p.1 kill)) id=_;rw[aZ,sR hi hk hm,TD,aI (λy=>!(Jw y kill)),if_pos]
 cases h:Jw id kill with
 | true=>exact absurd (aK.1 h) hk
 | false=>rfl
theorem zQ{t:TLS F Ls}(he:∀y,y∉keysOf Ls→look (KO sB.E Ls t sB.c).1 y=none)(hk:∀y∈keysOf Ls,y∈Mh){x:Nat}(hx:x<nv)(hn:x∉Mh):look (merge nv Mh kill sB Ls t).E x=look sB.E x:=by
 show look ((KO sB.E Ls t sB.c).1++sB.E.filter λp=>Nat.blt p.1 nv&&!(Jw p.1 Mh)) x=_;rw[aZ,he x (λh=>hn (hk x h)),TD,aI (λy=>Nat.blt y nv&&!(Jw y Mh)),if_pos];rw[M4.mpr hx]
 cases h:Jw x Mh with
 | true=>exact absurd (aK.1 h) hn
 | false=>rfl
theorem D6(hT:J5 P T)(hΓ : Kz P Γ)(K5:P.follows .mixedOrders=true)(hbase:Good P (own.aside gB X) WB n sB.st gB a3 WB)(hd3:a3.defers = [])(ht3:a3.tmps.size=n)(UO:∀x d,look sB.E x=some d→∃i off,d = .c (.ptr i off))
  (hsame:(Ls.all λk=>(dH k.2 (look sB.E k.1)).isSome)=true) (hk:∀y∈keysOf Ls,y∈Mh) {q:RfC} {h:Hint} {te:TypeId} {ti:TI F} (hti:T te=some ti) (hag:da ti.desc=true) {tt:Ty} {l:List (ET F tt)} {x:ET F tt} {k:Nat} (hx:l[k]? = some x) {t t':TLS F Ls}
  (hstep:vr T Γ nv n q h te sB Mh kill Ls tt x t=some t') (hdA:Mw q.assign=true) (hdB:Mw q.body=true) (hh:NG h=true) (hpi:look sB.E q.pi=none) (hpx:look sB.E q.px=none) (hpd:q.px∈Mh) (ab_:q.pi≠q.px) (hpn:q.px<n)
  {id b cap:Nat} {nn:Nat×NS} (aam:look sB.M id=some (.OG tt l)) (aal:id∉kill) (Ry:id<sB.c) (aak:gB.ids id=some (some (b,cap,nn))) (Xl:Jm F tt=ti.size)
  {L D fnn:Nat} {rec:LoopState→Loop} (hrec:rec = λst=>{ state:=st,pending:=none,fn:=fnn,tmps:=a3.tmps,params:=#[q.pi,q.px],assign:=q.assign,body:=q.body,defers:=D })
  (UQ:X L) (hiL:¬ own.i L) (hoX:∀b,X b→own.o b) {wk:World} (hI:RfI P own Wc n nv gB X a3 sB Mh kill Ls t wk) (hL:wk.heap[L]? = some (.loop (rec .ready))) :
  ∃fv:Nat→Value,(∀j,j<ti.size→wk.cell? ⟨b,k*Jm F tt+j,none⟩=some (fv j))∧YieldAt Fence.wide 0 P L #[.int .i64 (k:Nat),.agg ⟨(List.range ti.size).map fv⟩] wk λe w'=>e = .returned (.bool true)∧RfI P own Wc n nv gB X a3 sB Mh kill Ls t' w'∧w'.heap[L]? = some (.loop (rec .ready))∧∀y,X y→y≠L→y<wk.heap.size→w'.heap[y]? = wk.heap[y]?:=by
 obtain⟨⟨g,hg,hgl⟩,Nz,hm,he,hc⟩:=hI
 have aon:look (merge nv Mh kill sB Ls t).M id=some (.OG tt l):=by rw[tH hm Ry aal];exact aam
 have an4:g.ids id=some (some (b,cap,nn)):=hg.N8 _ _ aak;obtain⟨_,_,_,_,_,hcells⟩:=mo hg.mem aon an4;unfold vr at hstep;rw[hti]at hstep;dsimp only at hstep;split at hstep
 ·cases hstep
 rename_i d hd
 obtain⟨xv,hxv,hrep⟩:=cE (P:=P) (g:=g) (w:=wk) hT hti hd (b:=b) (q:=k*Jm F tt) (by intro j c hj;obtain⟨dd,hdd,rfl⟩:=fD hj;obtain⟨y,y1,y2⟩:=hcells _ _ (aS hx hdd);exact⟨y,y1,.im y2⟩)
 rw[R4]at hxv
 have hfv:∀j,j<ti.size→wk.cell? ⟨b,k*Jm F tt+j,none⟩=some ((wk.cell? ⟨b,k*Jm F tt+j,none⟩).getD undef):=by
  intro j hj
  have hjl:j<(Jj F tt x).length:=by rw[aT,Xl];exact hj
  obtain⟨y,y1,_⟩:=hcells _ _ (aS hx (IZ hjl));rw[y1];rfl
 have hxe:=Fg (P:=P) hT hti hag (b:=b) (q:=k*Jm F tt) (w:=wk) hfv;rw[hxv]at hxe
 injection hxe with hxe _
 refine⟨_,hfv,?_⟩;rw[← hxe]
 refine⟨fnn,_,q.assign,q.body,by have:=run_yield (P:=P) (args:=#[.int .i64 (k:Nat),xv]) hL (by rw[hrec];rfl);rw[hrec]at this;exact this,?_⟩
 have hLs:L<wk.heap.size:=(P_.1 hL).1;refine roundIn_of_wpIn (F:=Fence.wide) (n:=0) trivial ?_;generalize haR:({ tmps:=_,defers:=[] }:Act)=aR
 have haR:aR=({ tmps:=(a3.tmps.setIfInBounds q.pi (.int .i64 (k:Nat))).setIfInBounds q.px xv,defers:=[] }:Act):=by rw[← haR];simp
 have hsR:aR.tmps.size=n:=by rw[haR];simp[ht3]
 have hgR:Good P (own.aside gB X) wk n (Xe (merge nv Mh kill sB Ls t) q.px d).st g aR wk:=by
  refine hg.env' (by rw[haR]) hsR (λy e hy=>?_) (λ_ _ h=>h) (λ_ h=>h)
  simp only[TS.st,Xe,ar]at hy;rw[haR];dsimp only;rw[Q_,XL];by_cases hyx:q.px=y
  ·subst hyx;rw[ba]at hy;simp only[if_true,K3]at hy;subst hy
   rw[if_pos rfl,if_pos (by simpa[ht3]using hpn)]
   exact hrep
  ·rw[aj hyx]at hy;rw[if_neg hyx,XL]
   have hy':look (merge nv Mh kill sB Ls t).E y=some e:=by simpa using hy
   have hys:=sf hsame hy'
   have hyi:q.pi≠y:=by rintro rfl;rw[hpi]at hys;cases hys
   rw[if_neg hyi,← Q_];exact hg.env y e hy'
 refine wpIn_mono (L6 (lr:=L) (m:=0) hT hΓ K5 q.assign hdA _ _ t' hstep g aR wk hgR) ?_;rintro e1 a1 w1 ⟨i,s1,g1,rfl,h2,h3,h4⟩;obtain⟨hc1,h2b⟩:=aL h2;simp only[KV]at hc1;have hi0:=M_ hc1.1;subst hi0;obtain⟨anY,anX⟩:=BU hc1.2;simp only[exC,Exit.then];have WA:∀y,X y→¬ (own.aside gB X).o y:=λy hy hh=>hh.2 hy;have hX1:∀y,X y→y<wk.heap.size→w1.heap[y]? = wk.heap[y]?:=λy hy hlt=>h4.Lc.block y hlt (WA y hy);have hL1:w1.heap[L]? = some (.loop (rec .ready)):=(hX1 L UQ hLs).trans hL
 refine⟨_,run_beginRound hL1 (by rw[hrec]),?_⟩
 generalize hW2:w1.putObj L (.loop { rec .ready with state:=.busy })=w2
 have hs2:w2.heap.size=w1.heap.size:=by rw[← hW2];simp only[World.putObj,Qf_]
 have aaf:∀y,y≠L→w2.heap[y]? = w1.heap[y]?:=λy hy=>by rw[← hW2,World.putObj_heap_other hy]
 have aop:L<w1.heap.size:=(P_.1 hL1).1
 have hL2:w2.heap[L]? = some (.loop { rec .ready with state:=.busy }):=by rw[← hW2];exact World.putObj_heap_same aop
 have hg2:Good P (own.aside gB X) w2 n s1.st g1.Lg a1 w2:=by
  refine(h4.Lg anY anX).world (λ_ h=>h) (XF hs2.symm) (by rw[← hW2];exact KC _) (λy=>y=L) (λy hy=>⟨by rw[hy];exact WA L UQ,by rw[hy];exact hiL⟩) (λy hy hn=>aaf y hn) (λy hy=>h4.Lc.fresh y ?_)
  exact MP (h4.Lc.size) (by rw[← hs2];exact hy)
 have hf2:RO own Wc w2:=(Nz.aside h4.Lc).foreign (by rw[← hW2];rfl) (by rw[← hW2];rfl) (by rw[← hW2];rfl) (by rw[← hW2];exact KC _) (XF hs2.symm) (λy=>y=L) (λy hy=>by rw[hy];exact hoX L UQ) (λy _ hn=>aaf y hn)
 refine wpIn_mono (Hk (lr:=L) (m:=0) hT hΓ K5 h hh q.body hdB _ _ t' h2b _ _ _ hg2) ?_;rintro e5 a5 w5 ⟨i,s5,g5,rfl,k2,k3,k4⟩;obtain⟨hc5,k2b⟩:=aL k2;have hi0:=M_ hc5;subst hi0;split at k2b
 ·cases k2b
 rename_i t2 hp;obtain⟨hnl,k2c⟩:=aL k2b;cases k2c;simp only[exC,roundPost];have hX5:∀y,X y→y<w2.heap.size→w5.heap[y]? = w2.heap[y]?:=λy hy hlt=>k4.Lc.block y hlt (WA y hy)
 have hL5:w5.heap[L]? = some (.loop { rec .ready with state:=.busy }):=(hX5 L UQ (by omega)).trans hL2
 refine⟨_,_,run_endRound none hL5,rfl,?_⟩
 have Zv:({ { rec .ready with state:=.busy }with state:=if(none:Option Code).isNone then .ready else .done,pending:=none }:Loop)=rec .ready:=by rw[hrec];rfl
 rw[Zv];generalize XD:w5.putObj L (.loop (rec .ready))=w6
 have hs6:w6.heap.size=w5.heap.size:=by rw[← XD];simp only[World.putObj,Qf_]
 have aad:∀y,y≠L→w6.heap[y]? = w5.heap[y]?:=λy hy=>by rw[← XD,World.putObj_heap_other hy]
 have aoo:L<w5.heap.size:=(P_.1 hL5).1
 refine⟨?_,by rw[← XD];exact World.putObj_heap_same aoo,λy hy hne hlt=>?_⟩
 ·refine Av hΓ hbase hd3 ht3 UO hsame hk k4 (λy hy hn hd=>?_) (λy hy hn hd=>?_) hp hnl (XF hs6.symm) (by rw[← XD];exact KC _) (λy=>y=L) (λy hy=>⟨by rw[hy];exact UQ,by rw[hy];exact hiL⟩) (λy _ hn=>aad y hn) (λy hy=>k4.Lc.fresh y (MP k4.Lc.size (by rw[← hs6];exact hy))) ?_
  ·rw[k3.e y hy hd,h3.e y hy (λhh=>hd (k3.dE y hh))];simp only[Xe,ar];rw[aj (λ(e:q.px=y)=>hn (e▸hpd))];exact zQ he hk hy hn
  ·have hc1:sB.c≤s1.c:=MP hc h3.c
   rw[k3.m y (by omega) hd,h3.m y (O8 hy hc) (λhh=>hd (k3.dM y hh))]
   exact tH (nv:=nv) (Mh:=Mh) hm hy hn
  ·exact(hf2.aside k4.Lc).foreign (by rw[← XD];rfl) (by rw[← XD];rfl) (by rw[← XD];rfl) (by rw[← XD];exact KC _) (XF hs6.symm) (λy=>y=L) (λy hy=>by rw[hy];exact hoX L UQ) (λy _ hn=>aad y hn)
 ·have h1lt:y<w1.heap.size:=O8 hlt h4.Lc.size
  rw[aad y hne,hX5 y hy (by omega),aaf y hne,hX1 y hy hlt]
end
set_option linter.unusedVariables false
set_option linter.unusedSimpArgs false
section
variable{F:Fam}{P:Program}{T:TypeId→Option (TI F)}{Γ : Ctx F}{nv:Nat}
theorem IJ (hT : J5 P T) (hΓ : Kz P Γ) (K5 : P.follows .mixedOrders = true) {f fB fC : FuncId} {fn : Func} {sp : Spec F} {te Zo : TypeId} {Ls : Ks} {SK : List Nat} {h : Hint} (hf : P.funcs[f]? = some fn) (hnm : (fn.name == "runtime.NumGoroutine") = false) (hbn : fn.body.isNone = false) (hlen : Nat.ble sp.ks.length fn.ntmps = true)
  (hrs:sp.rs.all (λk=>!k.KT)=true) (Wi:bc P fB) (Wh:bc P fC)
  (hB:∀(p:Option Addr)(n cap:Nat)(w:World),Calls P fB #[.slice p n cap] w λe w'=>e = .returned (.func (.func fC) #[] #[.pointer (some ⟨w.heap.size,0,none⟩)])∧w'=w.alloc (.cells #[.slice p n cap] Zo (0,0)))
  (hC:∀ti,T te=some ti→xM P fC te ti.size)
  (hD:∀a r,sp.D a=some r→zB T Γ nv fn fB te Ls SK h sp.ks sp.rs a=some r):Lf P f sp:=by
 refine⟨⟨fn,hf,hnm,hbn⟩,?_⟩;intro a r hr I7 w vs Jg Jv KN hpl Kl;have hd:=hD a r hr;unfold zB at hd;split at hd
 ·cases hd
 rename_i body hbody;split at hd
 ·cases hd
 rename_i q hq;obtain⟨i0,i1,ib,i8,rfl⟩:=BW hq;split at hd
 ·cases hd
 rename_i pre oB hil;have V8:=tK hil;split at hd
 ·cases hd
 rename_i e he;obtain⟨od,og,ats,oo⟩:=BV he;obtain⟨hc,hd⟩:=aL hd;simp only[KV,M4,Rp,and_assoc]at hc;obtain⟨hc1,hc2,hlt,hlti,hltx,hne,hdA,hdB,hhN⟩:=hc;have hc1:=M_ hc1;have hc2:=M_ hc2
 have ab_:q.pi≠q.px:=λe=>by rw[e,ba]at hne;cases hne
 dsimp only at hd;obtain⟨Sw,hd⟩:=aL hd;obtain⟨g0,hgood,h4⟩:=B9 (fn:=fn) hlen Sw KN hpl Kl;generalize hown:(⟨λb=>b∈I5 Jg∨w.heap.size≤b,I7,(G.RZ 0 Jg I7).ids⟩:Ow)=own at hgood;refine callsIn_wide.1 (callsIn_of_wp_marks (F:=Fence.wide) (n:=1) hf hbody trivial ((wpIn_wide).2 ?_));refine wp_seq (Bp (id:=i0) hT hΓ hd hgood ?_);intro s1 g1 a1 w1 hd1 _ hg1;simp only[Exit.then];refine wp_seq (wp_seq (wp_region ?_));obtain⟨z,tr,hd2,t1,t2,t3,t4,t5⟩:=nE hT hΓ hd1;split at hd2
 rotate_left
 ·cases hd2
 rename_i id hx;split at hd2
 rotate_left
 ·cases hd2
 rename_i tt l ti hrow hti;obtain⟨hc3,hd3⟩:=aL hd2;simp only[KV,and_assoc,Option.isNone_iff_eq_none,M4]at hc3;obtain⟨e1,e2,e3,e4,e5,e6,e7,e8,e9⟩:=hc3;have Xl:=M_ e1;generalize aoc:SK++keysOf Ls=Mh at *
 have hkd:∀y∈keysOf Ls,y∈Mh:=λy hy=>by rw[← aoc];simp[hy]
 generalize hsB:RS z q.t id tt l=sB at *;generalize ajg:aM sB Mh=kill at *
 have aal:id∉kill:=λhm=>by rw[aK.2 hm]at e2;cases e2
 have hpd:q.px∈Mh:=aK.1 e8
 have hcB:sB.c=z.c:=by rw[← hsB];rfl
 split at hd3
 ·cases hd3
 rename_i t0 ht0;obtain⟨anU,hd3⟩:=aL hd3;obtain⟨v,hv,hd4⟩:=UW.1 hd3
 have hlen1:q.Mj.size=tr.length+1:=by rw[← SV,V8,← t1];simp
 rw[hlen1,List.range_succ,QdZ];refine wX _ _ ?_;refine uO (Kw:=q.Mj) rfl tr 0 _ z.st (λj t0 hj=>?_) t2 t3 hg1 ?_
 ·have hjl:=(I0.1 hj).1
  rw[L_,← ZF,V8,← t1,ME (by simpa using hjl),MU,hj]
  rfl
 intro g2 a2 w2 hg2;simp only[Exit.then]
 have hval:∃p cap,a2.eval (.tmp e.x) = .slice p l.length cap∧l.length≤maxLen∧((l = [])∨∃b,p=some ⟨b,0,none⟩∧g2.ids id=some (some (b,cap,l.length,[]))):=by
  rcases a_ (aV (hg2.env _ _ hx))with⟨hi,p,hvv⟩ | ⟨b,cap,n',hi,h1,h2,hvv⟩
  ·rcases hg2.mem.ok id _ hrow with⟨r1,r2⟩ | ⟨b',cap',cur,ee,r1,_⟩
   ·subst r2;exact⟨p,_,hvv,U8 _,.inl rfl⟩
   ·rw[hi]at r1;cases r1
  ·rcases hg2.mem.ok id _ hrow with⟨r1,_⟩ | ⟨b',cap',cur,ee,r1,_⟩
   ·rw[hi]at r1;cases r1
   ·rw[hi]at r1;cases r1;exact⟨_,_,hvv,MP h1 h2,.inr ⟨_,rfl,hi⟩⟩
 obtain⟨p,cap,hval,hmax,ace⟩:=hval
 have aaA:q.Mj[tr.length]? = some oB:=by rw[← ZF,V8,← t1];simp
 rw[wpOps_cons];unfold wpOp;rw[aaA];dsimp only
 rw[show Region.wanted oB (yielded q.Mj a2.tmps)=true by simp[Region.wanted,og],if_pos rfl]
 left;unfold Oper.wp
 have hcr:=qx (P:=P) (a:=a2) (w:=w2) (f:=fB) (fs:=[]) (cs:=[]) oo (by rw[← hc2];rfl) Wi
 rw[hcr];simp only[Oper.upon,K7,LG,O7,XI,hval];refine(hB p l.length cap w2).mono ?_;rintro e3' w3 ⟨rfl,rfl⟩;simp only[wpOps,od];generalize hw3:w2.alloc (.cells #[.slice p l.length cap] Zo (0,0))=w3
 have hs3:w3.heap.size=w2.heap.size+1:=by rw[← hw3,World.size_alloc]
 have hb3:w3.heap[w2.heap.size]? = some (.cells #[.slice p l.length cap] Zo (0,0)):=by rw[← hw3];exact heap_alloc_new w2 _
 have Y6:∀b,b<w2.heap.size→w3.heap[b]? = w2.heap[b]?:=λb hb=>by rw[← hw3];exact heap_alloc_old w2 _ hb
 generalize ha3:a2.put (some e.t) (.func (.func fC) #[] #[.pointer (some ⟨w2.heap.size,0,none⟩)])=a3
 have Xo:a3.defers = []:=by rw[← ha3];exact hg2.Py
 have Z9:a3.tmps.size=fn.ntmps:=by rw[← ha3];simp[Act.put,hg2.OP]
 simp only[Exit.then];refine wp_block ((wpIn_wide (n:=1)).1 (wpIn_rangeFunc ?_));intro fnn _
 have hga:a3.eval (.tmp q.t) = .func (.func fC) #[] #[.pointer (some ⟨w2.heap.size,0,none⟩)]:=by
  rw[← ha3,hc1,nK (by rw[hg2.OP];exact hlt)]
 obtain⟨rec,hrec⟩:∃rec:LoopState→Loop,rec = λst=>{ state:=st,pending:=none,fn:=fnn,tmps:=a3.tmps,params:=#[q.pi,q.px],assign:=q.assign,body:=q.body,defers:=w3.heap.size }:=⟨_,rfl⟩;obtain⟨W1,hW1⟩:∃W1,(w3.alloc (.deferred (some []))).alloc (.loop (rec .ready))=W1:=⟨_,rfl⟩
 have hsW:W1.heap.size=w3.heap.size+2:=by rw[← hW1,World.size_alloc,World.size_alloc]
 have hL1:W1.heap[w3.heap.size+1]? = some (.loop (rec .ready)):=by
  rw[← hW1];have:=heap_alloc_new (w3.alloc (.deferred (some []))) (.loop (rec .ready))
  rwa [World.size_alloc]at this
 have hD1:W1.heap[w3.heap.size]? = some (.deferred (some [])):=by
  rw[← hW1,heap_alloc_old _ _ (by rw[World.size_alloc];omega)]
  exact heap_alloc_new w3 _
 have V9:∀b,b<w3.heap.size→W1.heap[b]? = w3.heap[b]?:=by
  intro b hb
  rw[← hW1,heap_alloc_old _ _ (by rw[World.size_alloc];omega)]
  exact heap_alloc_old w3 _ hb
 refine⟨w3.heap.size+1,[{ target:=.collected w3.heap.size,args:=#[] }],W1,{ target:=.fn (.func fC) #[.pointer (some ⟨w2.heap.size,0,none⟩)],args:=#[.func (.yield (w3.heap.size+1)) #[] #[]] },W1,fC,
  #[.func (.yield (w3.heap.size+1)) #[] #[]]++#[.pointer (some ⟨w2.heap.size,0,none⟩)],W1,?_,?_,?_,?_,?_,?_⟩
 ·rw[← hW1,hrec];exact run_enterLoop_outer _ _ _ _ _
 ·simp only[resolve,hga];simp[go_sem]
 ·intro f' _;trivial
 ·simp[invoke,go_sem,sj Wh]
 ·intro h;cases h
 have hfz:=freeze hg2.mem (λ_ _ h=>h) (ids:=[id]) (λid' Ld=>by rw[I4]at Ld;subst Ld;exact .inl ⟨tt,l,.inl hrow⟩)
 have UO:∀x d,look sB.E x=some d→∃i off,d = .c (.ptr i off):=λx d hxd=>by rw[← hsB]at hxd;exact(km hxd).2.2
 have aam:look sB.M id=some (.OG tt l):=by rw[← hsB];simp[RS,ar]
 have hgB:Good P own w fn.ntmps sB.st (g2.Nq [id]).Lg a3 w2:=by
  have h1:Good P own w fn.ntmps sB.st (g2.Nq [id]) a3 w2:=by
   refine⟨Xo,Z9,λx d hxd=>?_,hfz.sub λy B hy=>?_,λy hy=>hg2.dom y (by simp only[TS.st,hcB]at hy;exact hy),λb hb=>.inl (hg2.O5 b hb),hg2.Lc,hg2.N8⟩
   ·rw[← hsB]at hxd;obtain⟨h1,h2,_⟩:=km hxd
    rw[← ha3,Rv,if_neg (λe'=>h1 (by rw[← e',hc1]))]
    exact(hg2.env x d h2).le (mg _ _ _)
   ·rw[← hsB]at hy;simp only[TS.st,RS,ar]at hy;rw[gb];by_cases hyi:id=y
    ·subst hyi;rw[ba]at hy;simp only[if_true,K3]at hy
     rw[if_pos (by simp),show PY z.st.m _ id=some (.OG tt l)from uD hrow,hy]
    ·rw[aj hyi,aI (λy=>!(Nat.beq id y))]at hy;simp only[Ni,if_false]at hy
     rw[if_neg (by simp;exactλe=>hyi e.symm)]
     split at hy
     ·exact hy
     ·cases hy
  exact h1.Lg (λx d hxd=>yX UO hxd) (na e7)
 have ajj:RO own w W1:=hg2.Lc.foreign (by rw[← hW1,← hw3];rfl) (by rw[← hW1,← hw3];rfl) (by rw[← hW1,← hw3];rfl) (by rw[← hW1,← hw3];exact KC _) (by omega) (λ_=>False) (λ_ h=>h.elim) (λb hb _=>by rw[V9 b (by omega),Y6 b hb])
 have an5:Good P own W1 fn.ntmps sB.st (g2.Nq [id]).Lg a3 W1:=hgB.world (λ_ h=>h) (by omega) (by rw[← hW1,← hw3];exact KC _) (λ_=>False) (λ_ h=>h.elim) (λb hb _=>by rw[V9 b (by omega),Y6 b hb]) (λb hb=>hg2.Lc.fresh b (MP hg2.Lc.size (by omega)))
 generalize hXd:(λb=>b=w2.heap.size∨b=w3.heap.size∨b=w3.heap.size+1)=X
 have UC:∀b,X b→w2.heap.size≤b∧b<W1.heap.size:=λb hb=>by
  rw[← hXd]at hb
  rcases hb with rfl | rfl | rfl<;>omega
 have Wz:∀b,(g2.Nq [id]).Lg.I7 b→b<w2.heap.size:=λb hb=>hgB.mem.I7 b hb
 have hbase:Good P (own.aside (g2.Nq [id]).Lg X) W1 fn.ntmps sB.st (g2.Nq [id]).Lg a3 W1:=an5.aside (λ_ h=>h) X (λb hb=>⟨λid' B hB ho hbb=>by
   have:=(hgB.mem.ok id' B hB).place hgB.mem.I7 (J8.MX ho) hbb;have:=(UC b hb).1
   omega,λhh=>by have:=Wz b hh;have:=(UC b hb).1;omega⟩) (λb hb=>(UC b hb).2)
 have hiX:∀b,X b→¬ own.i b:=λb hb hi=>by have:=Wz b (.inl (hg2.O5 b hi));have:=(UC b hb).1;omega
 have hoX:∀b,X b→own.o b:=λb hb=>hg2.Lc.fresh b (MP hg2.Lc.size (UC b hb).1)
 have hXb:X w2.heap.size:=by rw[← hXd];exact .inl rfl
 have hXD:X w3.heap.size:=by rw[← hXd];exact .inr (.inl rfl)
 have UQ:X (w3.heap.size+1):=by rw[← hXd];exact .inr (.inr rfl)
 have hI0:RfI P own w fn.ntmps nv (g2.Nq [id]).Lg X a3 sB Mh kill Ls t0 W1:=by
  refine Av hΓ hbase Xo Z9 UO e3 hkd hbase (λ_ _ _ _=>rfl) (λ_ _ _ _=>rfl) (by rw[hcB];exact ht0) anU (KC _) (KC _) (λ_=>False) (λ_ h=>h.elim) (λ_ _ _=>rfl) (λb hb=>hbase.Lc.fresh b hb) ajj
 have ajp:W1.heap[w2.heap.size]? = some (.cells #[.slice p l.length cap] Zo (0,0)):=by rw[V9 _ (by omega)];exact hb3
 refine callsIn_wide.2 ((callsIn_wide (n:=1)).1 ((hC ti hti (w3.heap.size+1) w2.heap.size l.length cap p (λk wk=>∃t,WL (vr T Γ nv fn.ntmps q h te sB Mh kill Ls tt) (l.take k) t=some v∧RfI P own w fn.ntmps nv (g2.Nq [id]).Lg X a3 sB Mh kill Ls t wk∧wk.heap[w3.heap.size+1]? = some (.loop (rec .ready))∧(∀y,X y→y≠w3.heap.size+1→wk.heap[y]? = W1.heap[y]?)) W1 hmax ?_ ?_ ?_ ?_ ?_).mono ?_))
 ·rcases ace with hh | ⟨b,hh,_⟩
  ·left;rw[hh];rfl
  ·exact .inr ⟨b,hh⟩
 ·rintro k wk ⟨t,_,_,_,hx4⟩
  exact hx4 _ hXb (by omega)
 ·simp[World.cell?,ajp]
 ·rintro k wk ⟨t,hr1,hI,hLk,hXk⟩ hkl b hpb;have hlk:l[k]? = some l[k]:=IZ hkl;rw[← List.take_append_getElem hkl,x_,UW]at hr1;obtain⟨t',hst,hr2⟩:=hr1
  have aak:g2.ids id=some (some (b,cap,l.length,[])):=by
   rcases ace with hh | ⟨b',hh,hi⟩
   ·rw[hh]at hkl;simp at hkl
   ·rw[hpb]at hh;cases hh;exact hi
  obtain⟨xv,q1,fq,tq,aq,bq,q2,q3⟩:=D6 (k:=k) hT hΓ K5 hbase Xo Z9 UO e3 hkd hti e9 hlk hst hdA hdB hhN e4 e5 hpd ab_ hltx aam aal (by rw[hcB];exact e6) (b:=b) (cap:=cap) (nn:=(l.length,[])) aak Xl hrec UQ (hiX _ UQ) hoX hI hLk
  refine⟨xv,by rw[← Xl]at q1 ⊢;exact q1,fq,tq,aq,bq,q2,q3.mono ?_⟩
  rintro e' w' ⟨h1,h2,h3,h5⟩;refine⟨h1,t',hr2,h2,h3,λy hy hn=>?_⟩;rw[h5 y hy hn ?_,hXk y hy hn];obtain⟨⟨gg,hgg,_⟩,_⟩:=hI;have h7:wk.heap[y]? = W1.heap[y]?:=hXk y hy hn;have h8:=(UC y hy).2;rw[QcY h8]at h7;exact(P_.1 h7).1
 ·exact⟨t0,by rw[SL];exact hv,hI0,hL1,λ_ _ _=>rfl⟩
 rintro e4' w4' ⟨⟨v4,rfl⟩,t,hr1,hI,hLk,hXk⟩
 have htv:t=v:=by simpa[WL]using hr1
 subst htv
 refine⟨none,_,by have:=run_endLoop (P:=P) hLk (by rw[hrec];simp);rw[hrec]at this;exact this,?_⟩
 simp only[Exit.inBlock,Exit.then,SS,O7];generalize hw4:w4'.putObj (w3.heap.size+1) _=w4
 have hs4:w4.heap.size=w4'.heap.size:=by rw[← hw4];simp only[World.putObj,Qf_]
 have aae:∀y,y≠w3.heap.size+1→w4.heap[y]? = w4'.heap[y]?:=λy hy=>by rw[← hw4,World.putObj_heap_other hy]
 obtain⟨⟨g4,hg4,an3⟩,aaB,_,_,_⟩:=hI
 have aji:RO own w w4:=aaB.foreign (by rw[← hw4];rfl) (by rw[← hw4];rfl) (by rw[← hw4];rfl) (by rw[← hw4];exact KC _) (XF hs4.symm) (λy=>y=w3.heap.size+1) (λy hy=>by rw[hy];exact hoX _ UQ) (λy _ hn=>aae y hn)
 have WA:∀y,X y→¬ (own.aside (g2.Nq [id]).Lg X).o y:=λy hy hh=>hh.2 hy
 have an9:Good P (own.aside (g2.Nq [id]).Lg X) w4 fn.ntmps (merge nv Mh kill sB Ls t).st g4 a3 w4:=hg4.world an3 (XF hs4.symm) (by rw[← hw4];exact KC _) (λy=>y=w3.heap.size+1) (λy hy=>⟨by rw[hy];exact WA _ UQ,by rw[hy];exact hiX _ UQ⟩) (λy _ hn=>aae y hn) (λy hy=>hg4.Lc.fresh y (by rw[← hs4];exact hy))
 have hD4:w4.heap[w3.heap.size]? = some (.deferred (some [])):=by rw[aae _ (by omega),hXk _ hXD (by omega)];exact hD1
 have hadd:({ tmps:=a3.tmps,defers:={ target:=.collected w3.heap.size,args:=#[] }::a3.defers }:Act)=Act.Nw a3 [{ target:=.collected w3.heap.size,args:=#[] }]:=by unfold Act.Nw;rw[Xo];rfl
 rw[hadd];refine wp_seq (wp_region ?_)
 refine m9 (Q:=λe a w'=>match e with | .normal=>∃s8 g8,(if Ot s8 then OI T Γ fn sp.ks sp.rs _ (rfZ s8)else none)=some r∧Good P (own.aside (g2.Nq [id]).Lg X) w4 fn.ntmps s8.st g8 a w' | _=>False) ?_ _ (A5 (Q:=λe a w'=>match e with | .normal=>∃s8 g8,(if Ot s8 then OI T Γ fn sp.ks sp.rs _ (rfZ s8)else none)=some r∧Good P (own.aside (g2.Nq [id]).Lg X) w4 fn.ntmps s8.st g8 a w' | _=>False) hT hΓ hd4 an9 (λs' g' a' w' h1 h2 h3=>⟨s',g',h1,h3⟩))
 intro e8 a8 w8 h8
 cases e8 with
 | normal=>
  obtain⟨s8,g8,hd8,hg8⟩:=h8;obtain⟨anT,hd8⟩:=aL hd8;simp only[Exit.then];refine wp_ret ?_
  have hD8:w8.heap[w3.heap.size]? = some (.deferred (some [])):=by
   rw[hg8.Lc.block _ ?_ (WA _ hXD)]
   ·exact hD4
   ·exact(P_.1 hD4).1
  have hDs8:w3.heap.size<w8.heap.size:=(P_.1 hD8).1;have acf:∀y,y≠w3.heap.size→(NT w8 w3.heap.size (.deferred none)).heap[y]? = w8.heap[y]?:=λy hy=>rL _ _ _ hy
  have hs9:(NT w8 w3.heap.size (.deferred none)).heap.size=w8.heap.size:=by simp[NT]
  have an6:Good P (own.aside (g2.Nq [id]).Lg X) w4 fn.ntmps (rfZ s8).st g8 a8 w8:=hg8.sub (λx d hxd=>(km hxd).2.1) (λ_ _ h=>h) (λ_ h=>h)
  have an7:=an6.Lg (λx d hxd=>by obtain⟨_,_,i,off,rfl⟩:=km hxd;rfl) (na (s:=rfZ s8) anT)
  have hg9:=an7.world (w':=NT w8 w3.heap.size (.deferred none)) (λ_ h=>h) (XF hs9.symm) (KC _) (λy=>y=w3.heap.size) (λy hy=>⟨by rw[hy];exact WA _ hXD,by rw[hy];exact hiX _ hXD⟩) (λy _ hn=>acf y hn) (λy hy=>hg8.Lc.fresh y (MP hg8.Lc.size (by rw[← hs9];exact hy)))
  have hf9:RO own w (NT w8 w3.heap.size (.deferred none)):=(aji.aside hg8.Lc).foreign rfl rfl rfl (KC _) (XF hs9.symm) (λy=>y=w3.heap.size) (λy hy=>by rw[hy];exact hoX _ hXD) (λy _ hn=>acf y hn)
  have aco:=hg9.back (λ_ h=>h) hf9 (λid' p' hp'=>hg2.N8 id' p' hp');rw[← hown]at aco;obtain⟨M0,hres,Jo,Kg,hrest⟩:=Cz hT hΓ hrs h4 aco hd8
  have hdf:(Act.Nw a8 [{ target:=.collected w3.heap.size,args:=#[] }]).defers = [{ target:=.collected w3.heap.size,args:=#[] }]:=by unfold Act.Nw;rw[hg8.Py];rfl
  show LeavesInM Fence.wide 1 P fn _ _ (Act.Nw a8 _).defers .returning w8;rw[hdf]
  refine⟨by simp,.inl ⟨w3.heap.size,_,rfl,run_takeDeferred hD8,?_⟩⟩
  exact⟨PK M0,hres,M0,Jo,Kg,rfl,hrest⟩
 | _=>exact h8.elim
theorem ajz (hT : J5 P T) (hΓ : Kz P Γ) (K5 : P.follows .mixedOrders = true) {f fB fC : FuncId} {fn : Func} {sp : Spec F} {te Zo : TypeId} {Ls : Ks} {SK : List Nat} {h : Hint} (hf : P.funcs[f]? = some fn) (hnm : (fn.name == "runtime.NumGoroutine") = false) (hbn : fn.body.isNone = false) (hlen : Nat.ble sp.ks.length fn.ntmps = true)
  (hrs:sp.rs.all (λk=>!k.KT)=true) (Wi:bc P fB) (Wh:bc P fC)
  (hB:∀(p:Option Addr)(n cap:Nat)(w:World),Calls P fB #[.slice p n cap] w λe w'=>e = .returned (.func (.func fC) #[] #[.pointer (some ⟨w.heap.size,0,none⟩)])∧w'=w.alloc (.cells #[.slice p n cap] Zo (0,0)))
  (hC:∀ti,T te=some ti→xM P fC te ti.size)
  (hD:(λa=>zB T Γ nv fn fB te Ls SK h sp.ks sp.rs a)=sp.D):Lf P f sp:=
 IJ hT hΓ K5 hf hnm hbn hlen hrs Wi Wh hB hC (λa r h=>by rw[← hD]at h;exact h)
end
set_option linter.unusedVariables false
set_option linter.unusedSimpArgs false
section
variable{F:Fam}{P:Program}
theorem pX{f:FuncId}{sp:Spec F}(hent:bc P f)
  (h:∀(a:HL F sp.ks)(r:TL F (outs sp)),sp.D a=some r→∀(I7:Nat→Prop)(w:World)(vs:List Value)(Jg Jv:List Pl),bR P w I7 sp.ks a vs Jg Jv→(∀b,I7 b→b<w.heap.size)→
   Jg = []∧Jv = []∧Calls P f ⟨vs⟩ w λe w'=>∃M0,e = .returned (PK M0)∧RowKit.Below w.heap.size w w'∧w.drawn≤w'.drawn∧bF P w' I7 (outs sp) r M0 [] []):Lf P f sp:=by
 refine⟨hent,?_⟩;intro a r hr I7 w vs Jg Jv KN hpl Kl;obtain⟨rfl,rfl,hc⟩:=h a r hr I7 w vs Jg Jv KN Kl;refine hc.mono ?_;rintro e w' ⟨M0,rfl,hb,hdr,ho⟩
 refine⟨M0,I7,[],rfl,hb.os,hb.tape,hb.output,hdr,hb.size,λb hlt _=>hb.block b hlt,λ_ h=>h,λ_ h=>.inl h,λb hb'=>O8 (Kl b hb') hb.size,ho,⟨by simp[I5],by simp[I5],by simp[I5]⟩,by simp[I5]⟩
theorem oM{w:World}{I7:Nat→Prop}{x:List UInt8}{v:Value}{Jg:List Pl}(h:KG (F:=F) w I7 .str [] x v Jg):v = .string ⟨⟨x⟩⟩∧Jg = []:=by unfold KG at h;simp only[Ty.K9,Ni,if_false,Jj,Ke,Jw]at h;obtain⟨h,rfl⟩:=h;cases h;exact⟨rfl,rfl⟩
theorem E5{w:World}{I7:Nat→Prop}{k:IntKind}{x:Int}{v:Value}{Jg:List Pl}(h:KG (F:=F) w I7 (.int k) [] x v Jg):v = .int k x∧Jg = []:=by unfold KG at h;simp only[Ty.K9,Ni,if_false,Jj,Ke,Jw]at h;obtain⟨h,rfl⟩:=h;cases h;exact⟨rfl,rfl⟩
theorem tY{w:World}{I7:Nat→Prop}{k:IntKind}{x:Int}:bF (F:=F) P w I7 [.v (.int k) []] x [.int k x] [] []:=by refine⟨_,rfl,rfl,?_,rfl⟩;unfold KG;simp only[Ty.K9,Ni,if_false,Jj,Ke,Jw];exact⟨.i _ _,trivial⟩
theorem ou{w:World}{I7:Nat→Prop}{x:Bool}:bF (F:=F) P w I7 [.v .bool []] x [.bool x] [] []:=by refine⟨_,rfl,rfl,?_,rfl⟩;unfold KG;simp only[Ty.K9,Ni,if_false,Jj,Ke,Jw];exact⟨.b _,trivial⟩
def cnt1(s sub:List UInt8):Option Int:=match sub with
 | [c]=>some ((Lib.countByte s c:Nat):Int)
 | _=>none
theorem Ge{f:FuncId}(hent:bc P f)(hw:∀(s:ByteArray)(c:UInt8)(w:World),Calls P f #[.string s,.string ⟨#[c]⟩] w λe w'=>e = .returned (.int .i64 (Lib.countByte s.data.toList c))∧w'=w) :
  Lf (F:=F) P f ⟨[.v .str [],.v .str []],[.v (.int .i64) []],λa=>cnt1 a.1 a.2.1⟩:=by
 refine pX hent ?_;intro a r hr I7 w vs Jg Jv KN Kl;obtain⟨s,sub,u⟩:=a;obtain⟨v,vs',p1,p2,b1,b2,rfl,rfl,rfl,⟨h1,rfl⟩,v2,vs2,p3,p4,b3,b4,rfl,rfl,rfl,⟨h2,rfl⟩,rfl,rfl,rfl⟩:=KN;obtain⟨rfl,rfl⟩:=oM h1;obtain⟨rfl,rfl⟩:=oM h2;have hr:cnt1 s sub=some r:=hr
 match sub,hr with
 | [c],hr=>
  cases hr;refine⟨rfl,rfl,(hw ⟨⟨s⟩⟩ c w).mono ?_⟩
  rintro e w' ⟨rfl,rfl⟩;exact⟨[_],rfl,.refl _ _,KC _,tY⟩
 | [],hr=>cases hr
 | _::_::_,hr=>cases hr
def ixb(s:List UInt8)(c:Int):Option Int:=some (Lib.indexByte s c.toNat.toUInt8)
theorem IU{f:FuncId}(hent:bc P f)(hw:∀(s:ByteArray)(c:Int)(w:World),Calls P f #[.string s,.int .u8 c] w λe w'=>e = .returned (.int .i64 (Lib.indexByte s.data.toList c.toNat.toUInt8))∧w'=w) :
  Lf (F:=F) P f ⟨[.v .str [],.v (.int .u8) []],[.v (.int .i64) []],λa=>ixb a.1 a.2.1⟩:=by
 refine pX hent ?_;intro a r hr I7 w vs Jg Jv KN Kl;obtain⟨s,c,u⟩:=a;obtain⟨v,vs',p1,p2,b1,b2,rfl,rfl,rfl,⟨h1,rfl⟩,v2,vs2,p3,p4,b3,b4,rfl,rfl,rfl,⟨h2,rfl⟩,rfl,rfl,rfl⟩:=KN;obtain⟨rfl,rfl⟩:=oM h1;obtain⟨rfl,rfl⟩:=E5 h2;have hr:ixb s c=some r:=hr;cases hr;refine⟨rfl,rfl,(hw ⟨⟨s⟩⟩ c w).mono ?_⟩;rintro e w' ⟨rfl,rfl⟩;exact⟨[_],rfl,.refl _ _,KC _,tY⟩
def UM(b:UInt8):Bool:=(Nat.ble 97 b.toNat&&Nat.ble b.toNat 122)||(Nat.ble 48 b.toNat&&Nat.ble b.toNat 57)||Nat.beq b.toNat 45
def Sq(most:Nat)(s:List UInt8):Option Bool:=cond (s.all λb=>Nat.blt b.toNat 128) (some (s.all UM&&!s.isEmpty&&Nat.ble s.length most)) none
def Zt(most:Nat)(s:ByteArray):Bool:=s.data.toList.all UM&&!s.data.toList.isEmpty&&Nat.ble s.data.toList.length most
theorem HD{f:FuncId}{most:Nat}(hent:bc P f) (hw:∀(s:ByteArray)(w:World),(∀(j:Nat) b,s.data.toList[j]? = some b→b.toNat<128)→
   Calls P f #[.string s] w λe w'=>e = .returned (.bool (Zt most s))∧∃k,w'=w.iter s k) :
  Lf (F:=F) P f ⟨[.v .str []],[.v .bool []],λa=>Sq most a.1⟩:=by
 refine pX hent ?_;intro a r hr I7 w vs Jg Jv KN Kl;obtain⟨s,u⟩:=a;obtain⟨v,vs',p1,p2,b1,b2,rfl,rfl,rfl,⟨h1,rfl⟩,rfl,rfl,rfl⟩:=KN;obtain⟨rfl,rfl⟩:=oM h1;have hr:Sq most s=some r:=hr;unfold Sq at hr
 cases ha:s.all λb=>Nat.blt b.toNat 128 with
 | false=>rw[ha]at hr;cases hr
 | true=>
  rw[ha]at hr;cases hr;refine⟨rfl,rfl,(hw ⟨⟨s⟩⟩ w ?_).mono ?_⟩
  ·intro j b hj
   have hb:=Rq (l:=s) (by simpa using hj)
   have:=Oe.1 ha b hb;have:b.toNat+1≤128:=P9 this;omega
  ·rintro e w' ⟨rfl,k,rfl⟩;exact⟨[_],rfl,(RowKit.Below.refl _ w).alloc (KC _) _,KC _,ou⟩
theorem AE{b:UInt8}:UM b=true↔(97≤b.toNat∧b.toNat≤122)∨(48≤b.toNat∧b.toNat≤57)∨b.toNat=45:=by simp[UM,or_assoc]
theorem ID{s:ByteArray}(h:∀(j:Nat) b,s.data.toList[j]? = some b→j<s.size→UM b=true):s.data.toList.all UM=true:=by rw[Oe];intro b hb;obtain⟨j,hj⟩:=RL hb;exact h j b hj (I0.1 hj).1
theorem vZ{s:ByteArray}{i:Nat}(hi:i<s.size)(h:∀(j:Nat) b,s.data.toList[j]? = some b→j<i→UM b=true){c:Nat}(hc:c=(s[i]'hi).toNat)(hb:(97≤c∧c≤122)∨(48≤c∧c≤57)∨c=45) :
  ∀(j:Nat) b,s.data.toList[j]? = some b→j<i+1→UM b=true:=by
 intro j b hj hlt;by_cases e:j=i
 ·subst e;rw[Lib.data_getElem? s j hi]at hj;cases hj;rw[AE,← hc];exact hb
 ·exact h j b hj (by omega)
theorem GW{s:ByteArray}{i:Nat}(hi:i<s.size){c:Nat}(hc:c=(s[i]'hi).toNat)(hb:¬ ((97≤c∧c≤122)∨(48≤c∧c≤57)∨c=45)):s.data.toList.all UM=false:=by rw[QfB];intro h;rw[Oe]at h;have:=h _ (Rq (Lib.data_getElem? s i hi));rw[AE,← hc]at this;exact hb this
theorem H6(s:ByteArray)(n:Nat):decide ((s.size:Int)≤(n:Int))=Nat.ble s.data.toList.length n:=by rw[Bool.eq_iff_iff];have:s.data.toList.length=s.size:=rfl;rw[this,WG,decide_eq_true_eq];omega
def SG(P:Program)(fe fc f1:FuncId)(tf:TypeId):Prop:=
 ∀(p:Option Addr)(n cap:Nat)(fid:Nat)(bound captured:List Value) (w:World) (R:World→Prop) (b:Bool),
  Calls P fc #[.slice p n cap,.func (.func f1) #[] #[.pointer (some ⟨w.heap.size,0,none⟩)]] (w.alloc (.cells #[.func (.func fid) ⟨bound⟩ ⟨captured⟩] tf (0,0))) (λe w'=>e = .returned (.bool b)∧R w')→
  Calls P fe #[.slice p n cap,.func (.func fid) ⟨bound⟩ ⟨captured⟩] w λe w'=>e = .returned (.bool (!b))∧R w'
def SF(P:Program)(f1:FuncId)(tf te sz:Nat):Prop:=
 ∀(vs:List Value)(fid:Nat)(bound captured:List Value)(bx:Nat) (w:World) (R:World→Prop) (b:Bool),vs.length=sz→(∀v∈vs,v.oneCell'=true)→bc P fid→
  bx<w.heap.size→w.heap[bx]? = some (.cells #[.func (.func fid) ⟨bound⟩ ⟨captured⟩] tf (0,0))→
  Calls P fid ⟨bound++[.agg ⟨vs⟩]++captured⟩ (w.alloc (.cells ⟨vs⟩ te (0,0))) (λe w'=>e = .returned (.bool b)∧R w')→
  Calls P f1 #[.agg ⟨vs⟩,.pointer (some ⟨bx,0,none⟩)] w λe w'=>e = .returned (.bool (!b))∧R w'
def Ws{α β : Type}(c:α→(β→Option Bool)→Option Bool)(l:α)(φ : β→Option Bool):Option Bool:=(c l λx=>(φ x).bind λr=>some (!r)).bind λr=>some (!r)
theorem sH{fe fc f1:FuncId}{n:Nat}{tf te sz:Nat}{c:List (F.S n)→(Js F [.st n]→Option Bool)→Option Bool}(hc:Lf (F:=F) P fc ⟨[.v (.slice (.st n)) [],.fn [.st n] .bool],[.v .bool []],λa=>c a.1 a.2.1⟩)(hent:bc P fe)(ajm:bc P f1)
  (hsz:Jm F (.st n)=sz) (wB:SG P fe fc f1 tf) (wC:SF P f1 tf te sz) :
  Lf (F:=F) P fe ⟨[.v (.slice (.st n)) [],.fn [.st n] .bool],[.v .bool []],λa=>Ws c a.1 a.2.1⟩:=by
 refine⟨hent,?_⟩;intro a r hr I7 w vs Jg Jv KN hpl Kl;obtain⟨l,φ,u⟩:=a;obtain⟨v,vs',p1,p2,b1,b2,rfl,rfl,rfl,⟨h1,rfl⟩,v2,vs2,p3,p4,b3,b4,rfl,rfl,rfl,⟨h2,h3,fid,bound,captured,rfl,hbd,hfe,hfn⟩,rfl,rfl,rfl⟩:=KN;subst h2 h3;have hn:=h1.LD;subst hn;have hr:Ws c l φ = some r:=hr;unfold Ws at hr
 cases hcv:c l λx=>(φ x).bind λr=>some (!r)with
 | none=>rw[hcv]at hr;cases hr
 | some rb=>
 rw[hcv]at hr;have hr:r=(!rb:Bool):=(Option.some.inj hr).symm;subst hr
 have hsl:∃p n cap,v = .slice p n cap:=by
  have h1':=h1;unfold KG at h1';simp only[Ty.K9,Ni,if_false,Jj,Ke,Jw]at h1';obtain⟨h1',_⟩:=h1'
  cases h1' with
  | sl0=>exact⟨_,_,_,rfl⟩
  | sl=>exact⟨_,_,_,rfl⟩
 obtain⟨p,m,cap,rfl⟩:=hsl;obtain⟨w1,hw1⟩:∃w1,w1=w.alloc (.cells #[.func (.func fid) ⟨bound⟩ ⟨captured⟩] tf (0,0)):=⟨_,rfl⟩
 have hold:∀b,b<w.heap.size→w1.heap[b]? = w.heap[b]?:=λb hb=>by rw[hw1];exact heap_alloc_old w _ hb
 have hnew:w1.heap[w.heap.size]? = some (.cells #[.func (.func fid) ⟨bound⟩ ⟨captured⟩] tf (0,0)):=by rw[hw1];exact heap_alloc_new w _
 have hs1:w1.heap.size=w.heap.size+1:=by rw[hw1,World.size_alloc]
 obtain⟨XB,Xn⟩:∃XB:Nat→Prop,XB = λb=>I7 b∨b=w.heap.size:=⟨_,rfl⟩
 have hfv:PZ P F w1 XB [.st n] .bool (λx=>(φ x).bind λr=>some (!r)) (.func (.func f1) ⟨[]⟩ ⟨[.pointer (some ⟨w.heap.size,0,none⟩)]⟩):=by
  refine⟨f1,[],_,rfl,.inl rfl,ajm,?_⟩;intro w' Jo hw hlt a x vs hφ ht;obtain⟨q,hq,hqx⟩:=UW.1 hφ;cases hqx
  obtain⟨v0,hv0⟩:∃v0,vs = [v0]:=by
   match vs,ht.1 with
   | [v0],_=>exact⟨v0,rfl⟩
   | [],h=>simp[MB]at h
   | _::_::_,h=>simp[MB]at h
  subst hv0
  have hb:XB w.heap.size:=by rw[Xn];exact .inr rfl
  obtain⟨i1,i2⟩:=hw _ hb;have hrt:Md w' Jo (Jj F (.st n) a.1,true) v0:=ht.2 0 _ v0 rfl rfl
  have hag:∃ws,v0 = .agg ⟨ws⟩∧ws.length=(Jj F (.st n) a.1).length∧∀(k:Nat)(c:ND F)(x:Value),(Jj F (.st n) a.1)[k]? = some c→ws[k]? = some x→Ju w' Jo c x:=by
   generalize Jj F (.st n) a.1=ds at hrt
   cases hrt with
   | agg hl hh=>exact⟨_,rfl,hl,hh⟩
  obtain⟨ws,rfl,hl,hh⟩:=hag
  have one:∀y∈ws,y.oneCell'=true:=by
   intro y hy;obtain⟨k,hk⟩:=RL hy
   have hk2:k<(Jj F (.st n) a.1).length:=by rw[← hl];exact(I0.1 hk).1
   exact(hh k _ y (IZ hk2) hk).oneCell
  obtain⟨w2,hw2⟩:∃w2,w2=w'.alloc (.cells ⟨ws⟩ te (0,0)):=⟨_,rfl⟩
  have V_:∀b,b<w'.heap.size→w2.heap[b]? = w'.heap[b]?:=λb hb=>by rw[hw2];exact heap_alloc_old w' _ hb
  have hs2:w2.heap.size=w'.heap.size+1:=by rw[hw2,World.size_alloc]
  have an0:∀b,I7 b→Jo b∧w2.heap[b]? = w.heap[b]?:=by
   intro b hb
   have hb1:XB b:=by rw[Xn];exact .inl hb
   obtain⟨j1,j2⟩:=hw b hb1
   exact⟨j1,by rw[V_ b (hlt b j1),j2,hold b (Kl b hb)]⟩
  have key:=hfn w2 Jo an0 (λb hb=>by have:=hlt b hb;omega) a q [.agg ⟨ws⟩] hq ⟨by simp[MB],λk d x a1 a2=>by
   cases k with
   | zero=>
    cases a1;cases a2
    exact(Md.agg hl hh).mono (λ_ h=>h) (λb hb=>V_ b (hlt b hb))
   | succ k=>simp[MB]at a1⟩
  have key2:Calls P fid ⟨bound++[.agg ⟨ws⟩]++captured⟩ w2 (λe w''=>e = .returned (.bool q)∧(RowKit.Below w2.heap.size w2 w''∧w2.drawn≤w''.drawn)):=by
   refine key.mono ?_;rintro e w'' ⟨v,rfl,k1,k2,k3⟩
   cases k2 with
   | one h=>cases h;exact⟨rfl,k1,k3⟩
  have hwc:=wC ws fid bound captured w.heap.size w' _ q (by rw[hl,aT,hsz]) one hfe (by have:=hlt _ i1;exact this) (by rw[i2];exact hnew) (by rw[← hw2];exact key2)
  refine hwc.mono ?_;rintro e w'' ⟨rfl,k1,k3⟩
  have e1:w2.os=w'.os∧w2.tape=w'.tape∧w2.output=w'.output∧w2.drawn=w'.drawn:=by rw[hw2];exact⟨rfl,rfl,rfl,rfl⟩
  refine⟨_,rfl,⟨by rw[k1.os,e1.1],by rw[k1.tape,e1.2.1],by rw[k1.output,e1.2.2.1],by have:=k1.size;omega,λb hb=>by rw[k1.block b (by omega),V_ b hb]⟩,.one (.b _),by rw[← e1.2.2.2];exact k3⟩
 have hh1:KG (F:=F) w1 XB (.slice (.st n)) [] l (.slice p m cap) []:=h1.lift (λb hb=>⟨by rw[Xn];exact .inl hb,hold b (Kl b hb)⟩)
 have an1:∀b,XB b→b<w1.heap.size:=by
  intro b hb;rw[Xn]at hb;rcases hb with hb | rfl
  ·have:=Kl b hb;omega
  ·omega
 have hcc:=hc.2 (l,(λx=>(φ x).bind λr=>some (!r)),()) rb hcv XB w1 [.slice p m cap,.func (.func f1) ⟨[]⟩ ⟨[.pointer (some ⟨w.heap.size,0,none⟩)]⟩] [] []
  ⟨_,_,[],[],[],[],rfl,rfl,rfl,⟨hh1,rfl⟩,_,_,[],[],[],[],rfl,rfl,rfl,⟨rfl,rfl,hfv⟩,rfl,rfl,rfl⟩ ⟨by simp[I5],by simp[I5],by simp[I5]⟩ an1
 have acw:Calls P fc #[.slice p m cap,.func (.func f1) #[] #[.pointer (some ⟨w.heap.size,0,none⟩)]] w1 (λe w'=>e = .returned (.bool rb)∧(w'.os=w1.os∧w'.tape=w1.tape∧w'.output=w1.output∧w1.drawn≤w'.drawn∧w1.heap.size≤w'.heap.size∧∀b,b<w1.heap.size→w'.heap[b]? = w1.heap[b]?)):=by
  refine hcc.mono ?_;rintro e w' ⟨M0,Jo,Kg,rfl,k1,k2,k3,k4,k5,k6,k7,k8,k9,k10,_⟩;obtain⟨v,rfl,_,hv,_⟩:=k10;unfold KG at hv;simp only[Ty.K9,Ni,if_false,Jj,Ke,Jw]at hv;obtain⟨hv,_⟩:=hv;cases hv
  exact⟨rfl,k1,k2,k3,k4,k5,λb hb=>k6 b hb (by simp[I5])⟩
 rw[hw1]at acw;refine(wB p m cap fid bound captured w _ rb acw).mono ?_;rw[← hw1];rintro e w' ⟨rfl,k1,k2,k3,k4,k5,k6⟩
 have e1:w1.os=w.os∧w1.tape=w.tape∧w1.output=w.output∧w1.drawn=w.drawn:=by rw[hw1];exact⟨rfl,rfl,rfl,rfl⟩
 refine⟨[_],I7,[],rfl,by rw[k1,e1.1],by rw[k2,e1.2.1],by rw[k3,e1.2.2.1],by rw[← e1.2.2.2];exact k4,by omega,λb hb _=>by rw[k6 b (by omega),hold b hb],λ_ h=>h,λ_ h=>.inl h,λb hb=>by have:=Kl b hb;omega,ou,⟨by simp[I5],by simp[I5],by simp[I5]⟩,by simp[I5]⟩
def acG(P:Program)(f:FuncId)(sz ku k:Nat):Prop:=
 ∀(vs:List Value)(u now:Int)(b1 b2:Nat)(w:World),vs.length=sz→(∀v∈vs,v.oneCell'=true)→vs[ku]? = some (.int .i64 u)→b1<w.heap.size→b2<w.heap.size→
  w.cell? ⟨b1,0,none⟩=some (.pointer (some ⟨b2,0,none⟩))→w.cell? ⟨b2,k,none⟩=some (.int .i64 now)→
  Calls P f #[.agg ⟨vs⟩,.pointer (some ⟨b1,0,none⟩)] w λe w'=>e = .returned (.bool (decide (u≤now)))∧RowKit.Below w.heap.size w w'∧w.drawn≤w'.drawn
theorem IW{f:FuncId}{n sz ku k:Nat}{u:F.S n→Int}(hent:bc P f)(hsz:Jm F (.st n)=sz)(hu:∀p,(Jj F (.st n) p)[ku]? = some (.i .i64 (u p)))(hw:acG P f sz ku k) :
  Lf (F:=F) P f ⟨[.v (.st n) [],.pk k (.int .i64)],[.v .bool []],λa=>some (decide (u a.1≤a.2.1))⟩:=by
 refine pX hent ?_;intro a r hr I7 w vs Jg Jv KN Kl;obtain⟨p,now,un⟩:=a;obtain⟨v,vs',p1,p2,b1,b2,rfl,rfl,rfl,⟨h1,rfl⟩,v2,vs2,p3,p4,b3,b4,rfl,rfl,rfl,⟨rfl,rfl,c1,c2,y,rfl,i1,i2,h3,h4,h5⟩,rfl,rfl,rfl⟩:=KN;have hn:=h1.LD;subst hn;have hr:some (decide (u p≤now))=some r:=hr;cases hr
 have hy:y = .int .i64 now:=by
  cases h5 with
  | one h=>cases h;rfl
 subst hy;have hrt:=nW h1
 have hag:∃ws,v = .agg ⟨ws⟩∧ws.length=(Jj F (.st n) p).length∧∀(k:Nat)(c:ND F)(x:Value),(Jj F (.st n) p)[k]? = some c→ws[k]? = some x→Ju w I7 c x:=by
  have hrt:Md w I7 (Jj F (.st n) p,true) v:=hrt;generalize Jj F (.st n) p=ds at hrt
  cases hrt with
  | agg hl hh=>exact⟨_,rfl,hl,hh⟩
 obtain⟨ws,rfl,hl,hh⟩:=hag
 have hlt:ku<ws.length:=by rw[hl];exact(I0.1 (hu p)).1
 have hk:ws[ku]? = some (.int .i64 (u p)):=by have:=hh ku _ _ (hu p) (IZ hlt);rw[IZ hlt];generalize ws[ku]=z at this;cases this;rfl
 have one:∀y∈ws,y.oneCell'=true:=by
  intro y hy;obtain⟨k,hk⟩:=RL hy
  have hk2:k<(Jj F (.st n) p).length:=by rw[← hl];exact(I0.1 hk).1
  exact(hh k _ y (IZ hk2) hk).oneCell
 refine⟨rfl,rfl,(hw ws (u p) now c1 c2 w (by rw[hl,aT,hsz]) one hk (Kl _ i1) (Kl _ i2) h3 h4).mono ?_⟩
 rintro e w' ⟨rfl,hb,hd⟩;exact⟨[_],rfl,hb,hd,ou⟩
end
end Go.Fx
namespace Go.Fx
open Go Go.RowKit
set_option linter.unusedVariables false
set_option linter.unusedSimpArgs false
section
variable{F:Fam}{P:Program}
def Ol(b:UInt8):Bool:=Nat.ble 48 b.toNat&&Nat.ble b.toNat 57
def isNum(s:List UInt8):Bool:=match s with
 | []=>false
 | b::r=>Nat.ble r.length 6&&(r.isEmpty||!(Nat.beq b.toNat 48))&&Ol b&&r.all Ol
def Vl(s:List UInt8):Option (Int×Bool):=cond (isNum s) ((Lib.atoi s).bind λn=>some (n,true)) (some (0,false))
def acE(P:Program)(f:FuncId):Prop:=∀(b:UInt8)(r:List UInt8)(n:Int)(w:World),r.length≤6→(r = []∨b.toNat≠48)→(b::r).all Ol=true→Lib.atoi (b::r)=some n→
 Calls P f #[.string ⟨⟨b::r⟩⟩] w λe w'=>e = .returned (.tuple #[.int .i64 n,.bool true])∧Below w.heap.size w w'∧w.drawn≤w'.drawn
def Mq:ByteArray:=⟨#[48,49,50,51,52,53,54,55,56,57]⟩
theorem tN:∀(j:Nat) b,Mq.data.toList[j]? = some b→b.toNat<128:=by
 intro j b h;have h:[48,49,50,51,52,53,54,55,56,(57:UInt8)][j]? = some b:=h;have:=Rq h;simp only[Lr,ZB,or_false]at this
 rcases this with rfl | rfl | rfl | rfl | rfl | rfl | rfl | rfl | rfl | rfl<;>decide
theorem DP{b:UInt8}(h:Ol b=true):Mq.data.toList.contains b=true:=by
 have:(48≤b.toNat∧b.toNat≤57):=by simpa[Ol]using h
 have hb:b=UInt8.ofNat b.toNat:=by simp
 rw[hb]
 rcases(by omega:b.toNat=48∨b.toNat=49∨b.toNat=50∨b.toNat=51∨b.toNat=52∨b.toNat=53∨b.toNat=54∨b.toNat=55∨b.toNat=56∨b.toNat=57)with e | e | e | e | e | e | e | e | e | e<;>rw[e]<;>rfl
theorem zt{p:UInt8→Bool}:∀{l:List UInt8},(∀b∈l,p b=true)→l.dropWhile p = []
 | [],_=>rfl
 | b::l,h=>by rw[List.dropWhile_cons_of_pos (h b WY)];exact zt λx hx=>h x (PG _ hx)
theorem Ae{l:List UInt8}(h:l.all Ol=true):Lib.trimS l Mq.data.toList = []:=by have h':∀b∈l,Mq.data.toList.contains b=true:=λb hb=>DP (Oe.1 h b hb);unfold Lib.trimS Lib.trimRightS Lib.trimLeftS;rw[zt (λb hb=>h' b (List.mem_reverse.1 hb))];rfl
theorem BN{p:UInt8→Bool}{b:UInt8}(hp:p b=false):∀{l:List UInt8},b∈l→b∈l.dropWhile p
 | a::l,h=>by
  rw[List.dropWhile_cons];split
  ·rcases Lr.1 h with rfl | h
   ·simp_all
   ·exact BN hp h
  ·exact h
theorem E7{b:UInt8}(h:Ol b=false):Mq.data.toList.contains b=false:=by
 rw[QfB];intro hc;rw[List.contains_iff_mem]at hc;have hc:b∈([48,49,50,51,52,53,54,55,56,57]:List UInt8):=hc;simp only[Lr,ZB,or_false]at hc
 rcases hc with rfl | rfl | rfl | rfl | rfl | rfl | rfl | rfl | rfl | rfl<;>cases h
theorem Hl{l:List UInt8}(h:l.all Ol=false):Lib.trimS l Mq.data.toList≠[]:=by
 obtain⟨b,hb,hd⟩:=List.all_eq_false.1 h
 have hd:Mq.data.toList.contains b=false:=E7 (by simpa using hd)
 unfold Lib.trimS Lib.trimRightS Lib.trimLeftS;intro e;have h1:=BN (p:=λb=>Mq.data.toList.contains b) hd (List.mem_reverse.2 hb);have h2:=BN (p:=λb=>Mq.data.toList.contains b) hd (List.mem_reverse.2 h1);rw[e]at h2;cases h2
def acF(P:Program)(f:FuncId):Prop:=∀(s:List UInt8)(w:World),isNum s=false→Calls P f #[.string ⟨⟨s⟩⟩] w λe w'=>e = .returned (.tuple #[.int .i64 0,.bool false])∧Below w.heap.size w w'∧w.drawn≤w'.drawn
theorem su{B:Nat}{a w:World}(h:Below B a w)(n:Nat):Below B a (w.drewN n):=h.trans ⟨rfl,rfl,rfl,KC _,λ_ _=>rfl⟩
theorem yW(w:World)(e:TypeId)(s:ByteArray):Below w.heap.size w (Lib.bytesWorld w e s)∧w.drawn≤(Lib.bytesWorld w e s).drawn:=by
 unfold Lib.bytesWorld World.freeze
 rw[if_neg (by decide)]
 refine⟨⟨rfl,rfl,rfl,?_,?_⟩,WT _⟩
 ·show w.heap.size≤((w.heap.push _).modify w.heap.size _).size;rw[Array.size_modify,Array.size_push];omega
 ·intro k hk;show((w.heap.push _).modify w.heap.size _)[k]? = _
  rw[QdE,if_neg (by omega)]
  simp[Array.getElem?_push,Zx hk]
theorem Ij{f:FuncId}(hent:bc P f)(hw:acE P f)(hno:acF P f):Lf (F:=F) P f ⟨[.v .str []],[.v (.int .i64) [],.v .bool []],λa=>Vl a.1⟩:=by
 refine pX hent ?_;intro a r hr I7 w vs Jg Jv KN Kl;obtain⟨s,u⟩:=a;obtain⟨v,vs',p1,p2,b1,b2,rfl,rfl,rfl,⟨h1,rfl⟩,rfl,rfl,rfl⟩:=KN;obtain⟨rfl,rfl⟩:=oM h1;have hr:Vl s=some r:=hr;unfold Vl at hr
 cases hs:isNum s with
 | false=>
  rw[hs]at hr;cases hr;refine⟨rfl,rfl,(hno s w hs).mono ?_⟩;rintro e w' ⟨rfl,k1,k2⟩;refine⟨[_,_],rfl,k1,k2,_,[_],[],[],rfl,rfl,?_,_,rfl,rfl,?_⟩
  ·refine⟨?_,rfl⟩;unfold KG;simp only[Ty.K9,Ni,if_false,Jj,Ke,Jw];exact⟨.i _ _,trivial⟩
  ·refine⟨?_,rfl⟩;unfold KG;simp only[Ty.K9,Ni,if_false,Jj,Ke,Jw];exact⟨.b _,trivial⟩
 | true=>
  rw[hs]at hr;obtain⟨n,hn,hrr⟩:=UW.1 hr;cases hrr
  match s,hs,hn with
  | b::l,hs,hn=>
   simp only[isNum,KV,PE,WG,QeG,Rp]at hs;obtain⟨⟨⟨h6,h0⟩,hb⟩,hl⟩:=hs
   have h0':l = []∨b.toNat≠48:=h0.imp_right λh e=>by rw[e]at h;cases h
   refine⟨rfl,rfl,(hw b l n w h6 h0' (by rw[TB,hb,hl];rfl) hn).mono ?_⟩
   rintro e w' ⟨rfl,k1,k2⟩;refine⟨[_,_],rfl,k1,k2,_,[_],[],[],rfl,rfl,?_,_,rfl,rfl,?_⟩
   ·refine⟨?_,rfl⟩;unfold KG;simp only[Ty.K9,Ni,if_false,Jj,Ke,Jw];exact⟨.i _ _,trivial⟩
   ·refine⟨?_,rfl⟩;unfold KG;simp only[Ty.K9,Ni,if_false,Jj,Ke,Jw];exact⟨.b _,trivial⟩
  | [],hs,_=>cases hs
end
end Go.Fx
