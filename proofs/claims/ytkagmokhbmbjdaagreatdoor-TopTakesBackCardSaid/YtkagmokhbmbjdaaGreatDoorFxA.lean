/-
  The framework, first part: what is known of a frame as typed data;that each operation that makes no call does what the evaluator says. Conditions: none.
-/
import Derived.Calls
import Derived.Orders
import Derived.Below
import Derived.Laws.MakeOwn
import Derived.Laws.Rows
import Derived.Laws.CopyRow
import Derived.Laws.CopyOwn
import Derived.Tactics
import Derived.KernelRfl
import Derived.Laws.StructEq
import Derived.Laws.Strings
import Derived.Laws.BytesString
namespace Go.Fx
open Go
set_option linter.unusedVariables false
set_option linter.unusedSimpArgs false
theorem LO.{u, v} {α : Type u} {β : Type v} (a:α) (f:α→Option β):(some a).bind f=f a:= rfl
theorem LP.{u} {α : Type u} {l:List α} {i:Nat} (h:i<l.length):l[i]? = some l[i]:= List.getElem?_eq_getElem h
theorem LQ.{u} {α : Type u} {l:List α} {i:Nat} {a:α}:l[i]? = some a↔∃h:i<l.length, l[i]=a:= List.getElem?_eq_some_iff
theorem LR.{u} {α : Type u} {as bs:List α}:(as++bs).length=as.length+bs.length:= List.length_append
theorem LS.{u} {α : Type u} {a b:α}:a∈[b]↔a=b:= List.mem_singleton
inductive Ty where
 | int (k:IntKind)
 | bool
 | str
 | slice (t:Ty)
 | st (n:Nat)
 deriving DecidableEq
def Ty.isMp:Ty→Bool
 | .st n=>Nat.ble 500 n
 | _=>false
def Ty.mpS:Ty→Bool
 | .st n=>Nat.beq (n % 2) 1
 | _=>false
@[reducible] def El(S:Nat→Type):Ty→Type
 | .int _=>Int
 | .bool=>Bool
 | .str=>List UInt8
 | .slice t=>List (El S t)
 | .st n=>S n
inductive NID(S:Nat→Type) where
 | i (k:IntKind) (n:Int)
 | b (x:Bool)
 | s (l:List UInt8)
 | nl
 | sl (t:Ty) (l:List (El S t))
 | v (x:Value)
@[reducible] def TupS(S:Nat→Type):List Ty→Type
 | []=>Unit
 | t::r=>El S t×TupS S r
structure Fam where
 S:Nat→Type
 fs:Nat→List Ty
 un:(n:Nat)→S n→TupS S (fs n)
 up:(n:Nat)→TupS S (fs n)→S n
 um:∀n a,un n (up n a)=a
abbrev ND(F:Fam):=NID F.S
abbrev ET(F:Fam)(t:Ty):=El F.S t
abbrev TupT(F:Fam)(ts:List Ty):=TupS F.S ts
def enc1(F:Fam):(t:Ty)→ET F t→ND F
 | .int k,n=>.i k n
 | .bool,x=>.b x
 | .str,l=>.s l
 | .slice t,l=>.sl t l
 | .st _,_=>.nl
def dec1(F:Fam):(t:Ty)→ND F→Option (ET F t)
 | .int k,.i k' n=>if k'=k then some n else none
 | .bool,.b x=>some x
 | .str,.s l=>some l
 | .slice t,.sl t' l=>if h:t'=t then some (h▸l)else none
 | .slice t,.nl=>cond t.isMp none (some [])
 | _,_=>none
def encF(F:Fam):(ts:List Ty)→TupT F ts→List (ND F)
 | [],_=>[]
 | t::r,a=>enc1 F t a.1::encF F r a.2
def decF(F:Fam):(ts:List Ty)→List (ND F)→Option (TupT F ts)
 | [],[]=>some ()
 | t::r,c::cs=>match dec1 F t c with
  | none=>none
  | some x=>match decF F r cs with
   | none=>none
   | some y=>some (x,y)
 | _,_=>none
def encT(F:Fam):(t:Ty)→ET F t→List (ND F)
 | .st n,x=>encF F (F.fs n) (F.un n x)
 | .int k,n=>[.i k n]
 | .bool,x=>[.b x]
 | .str,l=>[.s l]
 | .slice t,l=>[.sl t l]
def szT(F:Fam):Ty→Nat
 | .st n=>(F.fs n).length
 | _=>1
def Ty.isSt:Ty→Bool
 | .st _=>true
 | _=>false
def decT(F:Fam):(t:Ty)→List (ND F)→Option (ET F t)
 | .st n,cs=>match decF F (F.fs n) cs with
  | none=>none
  | some a=>some (F.up n a)
 | .int k,[c]=>dec1 F (.int k) c
 | .bool,[c]=>dec1 F .bool c
 | .str,[c]=>dec1 F .str c
 | .slice t,[c]=>dec1 F (.slice t) c
 | _,_=>none
inductive NLe{S:Nat→Type}:NID S→NID S→Prop where
 | refl (d:NID S):NLe d d
 | nl (t:Ty) (h:t.isMp=false):NLe .nl (.sl t [])
def Les{S:Nat→Type}(cs ds:List (NID S)):Prop:=cs.length=ds.length∧∀(k:Nat)(c d:NID S),cs[k]? = some c→ds[k]? = some d→NLe c d
theorem Dh(F:Fam):∀(ts:List Ty)(a:TupT F ts),(encF F ts a).length=ts.length
 | [],_=>rfl
 | t::r,a=>by simp[encF,Dh F r a.2]
theorem aN(F:Fam)(t:Ty)(x:ET F t):(encT F t x).length=szT F t:=by
 cases t<;>simp[encT,szT,Dh]
theorem rA(F:Fam){t:Ty}{c:ND F}{x:ET F t}(h:dec1 F t c=some x):NLe c (enc1 F t x):=by
 unfold dec1 at h;split at h
 ·split at h
  ·rename_i hk;cases h;subst hk;exact .refl _
  ·cases h
 ·cases h;exact .refl _
 ·cases h;exact .refl _
 ·split at h
  ·rename_i hk;cases h;subst hk;exact .refl _
  ·cases h
 ·rename_i t
  cases ht:t.isMp with
  | true=>rw[ht]at h;cases h
  | false=>rw[ht]at h;cases h;exact .nl _ ht
 ·cases h
theorem C5(F:Fam):∀{ts:List Ty}{cs:List (ND F)} {a:TupT F ts},decF F ts cs=some a→Les cs (encF F ts a)
 | [],cs,a,h=>by
  cases cs with
  | nil=>exact⟨rfl,by simp⟩
  | cons c cs=>simp[decF]at h
 | t::r,cs,a,h=>by
  cases cs with
  | nil=>simp[decF]at h
  | cons c cs=>
   simp only[decF]at h;split at h
   ·cases h
   ·rename_i x hx;split at h
    ·cases h
    ·rename_i y hy;cases h;obtain⟨h1,h2⟩:=C5 F hy
     refine⟨by simp[encF,h1],?_⟩
     intro k c' d' hc hd
     cases k with
     | zero=>simp only[encF,List.getElem?_cons_zero,Option.some.injEq]at hc hd;subst hc;subst hd;exact rA F hx
     | succ k=>simp only[encF,List.getElem?_cons_succ]at hc hd;exact h2 k c' d' hc hd
theorem yc{S:Nat→Type}{c d:NID S}(h:NLe c d):Les [c] [d]:=by
 refine⟨rfl,?_⟩;intro k c' d' hc hd
 cases k with
 | zero=>simp only[List.getElem?_cons_zero,Option.some.injEq]at hc hd;subst hc;subst hd;exact h
 | succ k=>simp at hc
theorem bG(F:Fam){t:Ty}{cs:List (ND F)}{x:ET F t}(h:decT F t cs=some x):Les cs (encT F t x):=by
 unfold decT at h;split at h
 ·split at h
  ·cases h
  ·rename_i a ha;cases h;simp only[encT,F.um];exact C5 F ha
 ·exact yc (rA F h)
 ·exact yc (rA F h)
 ·exact yc (rA F h)
 ·exact yc (rA F h)
 ·cases h
def cells(F:Fam)(t:Ty)(l:List (ET F t)):List (ND F):=(l.map (encT F t)).flatten
inductive RepI{F:Fam}(w:World)(imm:Nat→Prop):ND F→Value→Prop where
 | i (k:IntKind) (n:Int):RepI w imm (.i k n) (.int k n)
 | b (x:Bool):RepI w imm (.b x) (.bool x)
 | s (l:List UInt8):RepI w imm (.s l) (.string ⟨⟨l⟩⟩)
 | nl (p:Option Addr):RepI w imm .nl (.slice p 0 0)
 | v (x:Value) (h:x.oneCell'=true):RepI w imm (.v x) x
 | sl0 (t:Ty) (p:Option Addr):RepI w imm (.sl t []) (.slice p 0 0)
 | sl (t:Ty) (l:List (ET F t)) (b o cap:Nat) (f:Nat→Value) (hb:imm b) (hcap:l.length≤cap) (hm:cap≤maxLen)
   (hc:∀k d,(cells F t l)[k]? = some d→w.cell? ⟨b,o+k,none⟩=some (f k))
   (hr:∀k d,(cells F t l)[k]? = some d→RepI w imm d (f k)) :
   RepI w imm (.sl t l) (.slice (some ⟨b,o,none⟩) l.length cap)
theorem cell?_of_heap{w w':World}{a:Addr}(h:w'.heap[a.block]? = w.heap[a.block]?):w'.cell? a=w.cell? a:=by simp[World.cell?,h]
section
variable{F:Fam}
theorem RepI.mono{w w':World}{imm imm':Nat→Prop}(hi:∀b,imm b→imm' b)(hw:∀b,imm b→w'.heap[b]? = w.heap[b]?)
  {d:ND F} {x:Value} (h:RepI w imm d x):RepI w' imm' d x:=by
 induction h with
 | i=>exact .i _ _
 | b=>exact .b _
 | s=>exact .s _
 | nl=>exact .nl _
 | v x h=>exact .v x h
 | sl0=>exact .sl0 _ _
 | sl t l b o cap f hb hcap hm hc hr ih=>
  exact .sl t l b o cap f (hi b hb) hcap hm (λk d hk=>by rw[cell?_of_heap (hw b hb)];exact hc k d hk) ih
theorem RepI.nle{w:World}{imm:Nat→Prop}{d d':ND F}{x:Value}(hl:NLe d d')(h:RepI w imm d x):RepI w imm d' x:=by
 cases hl with
 | refl=>exact h
 | nl t ht=>cases h with | nl p=>exact .sl0 t p
theorem RepI.oneCell{w:World}{imm:Nat→Prop}{d:ND F}{x:Value}(h:RepI w imm d x):x.oneCell'=true:=by
 cases h<;>first | rfl | assumption
def NID.flat:NID F.S→Bool
 | .i _ _ | .b _ | .s _ | .v _=>true
 | _=>false
theorem RepI.flat{w w':World}{imm imm':Nat→Prop}{d:ND F}{x:Value}(hf:d.flat=true)(h:RepI w imm d x):RepI w' imm' d x:=by
 cases h with
 | i=>exact .i _ _
 | b=>exact .b _
 | s=>exact .s _
 | v x h=>exact .v x h
 | _=>simp[NID.flat]at hf
def encTs(F:Fam):(ts:List Ty)→TupT F ts→List (List (ND F)×Bool)
 | [],_=>[]
 | t::r,x=>(encT F t x.1,t.isSt)::encTs F r x.2
inductive RepT(w:World)(imm:Nat→Prop):List (ND F)×Bool→Value→Prop where
 | one {d:ND F} {v:Value} (h:RepI w imm d v):RepT w imm ([d],false) v
 | agg {cs:List (ND F)} {vs:List Value} (hl:vs.length=cs.length) (h:∀(k:Nat)(c:ND F)(x:Value),cs[k]? = some c→vs[k]? = some x→RepI w imm c x):RepT w imm (cs,true) (.agg ⟨vs⟩)
theorem RepT.mono{w w':World}{imm imm':Nat→Prop}(hi:∀b,imm b→imm' b)(hw:∀b,imm b→w'.heap[b]? = w.heap[b]?)
  {d:List (ND F)×Bool} {x:Value} (h:RepT w imm d x):RepT w' imm' d x:=by
 cases h with
 | one h=>exact .one (h.mono hi hw)
 | agg hl h=>exact .agg hl (λk c x a b=>(h k c x a b).mono hi hw)
def RepTs(w:World)(imm:Nat→Prop)(ds:List (List (ND F)×Bool))(vs:List Value):Prop:=
 vs.length=ds.length∧∀(k:Nat)(d:List (ND F)×Bool) (x:Value),ds[k]? = some d→vs[k]? = some x→RepT w imm d x
def bc (P : Program) (f : FuncId) : Prop:=∃ fn,P.funcs[f]? = some fn ∧ (fn.name == "runtime.NumGoroutine") = false ∧ fn.body.isNone = false
def FvOk(P:Program)(F:Fam)(w:World)(imm:Nat→Prop)(ks:List Ty)(r:Ty)(φ : TupT F ks→Option (ET F r))(v:Value):Prop:=
 ∃fid bound captured,v = .func (.func fid) ⟨bound⟩ ⟨captured⟩∧(bound = []∨ks.length=1)∧bc P fid∧
  ∀(w':World)(imm':Nat→Prop),(∀b,imm b→imm' b∧w'.heap[b]? = w.heap[b]?)→(∀b,imm' b→b<w'.heap.size)→∀a x vs,φ a=some x→RepTs w' imm' (encTs F ks a) vs→
   Calls P fid ⟨bound++vs++captured⟩ w' λe w''=>∃v,e = .returned v∧RowKit.Below w'.heap.size w' w''∧RepT w'' imm' (encT F r x,r.isSt) v∧w'.drawn≤w''.drawn
inductive Cel(F:Fam) where
 | im (d:ND F)
 | pt (cs:List (ND F)) (off:Nat)
 | ptr (id off:Nat)
 | pel (id sz i off:Nat)
 | wsl (id:Nat)
 | lsl (id sz off len:Nat)
 | nsl (id sz i off:Nat)
 | nel (id sz i off sz' j off':Nat)
 | bsl (id n:Nat)
 | mpc (id:Nat)
 | ppt (cs:List (ND F))
 | ln (d:ND F)
 | lpt (cs:List (ND F)) (off:Nat)
 | any
 | one
abbrev NS:=List (Option (Nat×Nat×Nat))
def nbl:NS→List Nat
 | []=>[]
 | some (b,_)::l=>b::nbl l
 | none::l=>nbl l
abbrev Pl:=Option (Nat×Nat×Nat×NS)
structure G where
 ids:Nat→Option Pl
 imm:Nat→Prop
 len:Nat→Prop
abbrev G.al(g:G)(b:Nat):Prop:=g.imm b∨g.len b
def G.blk(g:G)(id b:Nat):Prop:=∃b0 c,g.ids id=some (some (b0,c))∧b∈b0::nbl c.2.2
theorem G.blk_main{g:G}{id b:Nat}{c:Nat×Nat×NS}(h:g.ids id=some (some (b,c))):g.blk id b:=⟨b,c,h,List.mem_cons_self⟩
theorem G.blk_one{g:G}{id b b':Nat}{x y:Nat}(h:g.ids id=some (some (b,x,y,[])))(hb:g.blk id b'):b'=b:=by obtain⟨b0,c,h1,h2⟩:=hb;rw[h]at h1;cases h1;simpa[nbl]using h2
theorem G.blk_nil{g:G}{id b':Nat}(h:g.ids id=some none)(hb:g.blk id b'):False:=by obtain⟨b0,c,h1,h2⟩:=hb;rw[h]at h1;cases h1
def bv(w:World)(imm:Nat→Prop)(t:Ty)(l:List (ET F t)):Pl→Prop
 | none=>l = []
 | some (b,cap,n)=>n=(l.length,[])∧l.length≤cap∧cap≤maxLen∧∃cur e,w.heap[b]? = some (.cells ⟨cur⟩ e (0,0))∧cur.length=cap*szT F t∧
   ∀(k:Nat)(d:ND F)(x:Value),(cells F t l)[k]? = some d→cur[k]? = some x→RepI w imm d x
def OwnV:Pl→Value→Prop
 | none,v=>∃p,v = .slice p 0 0
 | some (b,cap,n),v=>v = .slice (some ⟨b,0,none⟩) n.1 cap
def lift1:Option (Nat×Nat×Nat)→Pl
 | none=>none
 | some (b,cap,n)=>some (b,cap,n,[])
def OwnC(w:World)(imm:Nat→Prop):ND F→Value→Option (Nat×Nat×Nat)→Prop
 | .sl t l,x,pl=>bv w imm t l (lift1 pl)∧OwnV (lift1 pl) x
 | d,x,pl=>pl=none∧d.flat=true∧RepI w imm d x
def OwnN(w:World)(imm:Nat→Prop)(t:Ty)(l:List (ET F t)):Pl→Prop
 | none=>l = []
 | some (b,cap,n)=>n.1=l.length∧l.length≤cap∧cap≤maxLen∧n.2.length=(cells F t l).length∧(b::nbl n.2).Nodup∧∃cur e,w.heap[b]? = some (.cells ⟨cur⟩ e (0,0))∧cur.length=cap*szT F t∧
   ∀(k:Nat)(d:ND F)(x:Value)(pl:Option (Nat×Nat×Nat)),(cells F t l)[k]? = some d→cur[k]? = some x→n.2[k]? = some pl→OwnC w imm d x pl
def MapAt(w:World)(imm:Nat→Prop)(t:Ty)(l:List (ET F t))(b:Nat):Prop:=
 ∃es:List MapEntry,w.heap[b]? = some (.map ⟨es⟩ es.length)∧es.length=l.length∧
  ∀(k:Nat)(x:ET F t)(e:MapEntry),l[k]? = some x→es[k]? = some e→e.born=k∧∃kd vds,encT F t x=kd::vds∧RepI w imm kd e.key∧RepT w imm (vds,t.mpS) e.val
def OwnX(w:World)(imm:Nat→Prop)(t:Ty)(l:List (ET F t))(pl:Pl):Prop:=
 if t.isMp=true then∃b,pl=some (b,0,0,[])∧MapAt w imm t l b else bv w imm t l pl
def OwnVX(t:Ty)(pl:Pl)(v:Value):Prop:=
 if t.isMp=true then∃b,pl=some (b,0,0,[])∧v = .map (some b)else OwnV pl v
theorem eU{b:Nat}{c:Nat×Nat}:∀{ns:NS}{k:Nat},ns[k]? = some (some (b,c))→b∈nbl ns
 | [],k,h=>by simp at h
 | q::ns,0,h=>by simp at h;subst h;simp[nbl]
 | q::ns,k+1,h=>by
  have:=eU (ns:=ns) (k:=k) (by simpa using h)
  cases q with
  | none=>exact this
  | some q=>exact List.mem_cons_of_mem _ this
inductive RepC(g:G)(w:World):Cel F→Value→Prop where
 | im {d:ND F} {x:Value} (h:RepI w g.imm d x):RepC g w (.im d) x
 | pt (cs:List (ND F)) (off b o:Nat) (f:Nat→Value) (hb:g.imm b)
   (hc:∀k d,cs[k]? = some d→w.cell? ⟨b,o+k,none⟩=some (f k))
   (hr:∀k d,cs[k]? = some d→RepI w g.imm d (f k)) :
   RepC g w (.pt cs off) (.pointer (some ⟨b,o+off,none⟩))
 | ptr {id off b:Nat} {c:Nat×Nat×NS} (h:g.ids id=some (some (b,c))):RepC g w (.ptr id off) (.pointer (some ⟨b,off,none⟩))
 | pel {id sz i off b:Nat} {c:Nat×Nat×NS} (h:g.ids id=some (some (b,c))):RepC g w (.pel id sz i off) (.pointer (some ⟨b,i*sz+off,none⟩))
 | wsl0 {id:Nat} (p:Option Addr) (h:g.ids id=some none):RepC g w (.wsl id) (.slice p 0 0)
 | wsl {id b c:Nat} {n:Nat×NS} (h:g.ids id=some (some (b,c,n))) (hl:n.1≤c) (hm:c≤maxLen):RepC g w (.wsl id) (.slice (some ⟨b,0,none⟩) n.1 c)
 | lsl0 {id sz:Nat} (p:Option Addr) (h:g.ids id=some none):RepC g w (.lsl id sz 0 0) (.slice p 0 0)
 | lsl {id sz off len b c o:Nat} {n:Nat×NS} (h:g.ids id=some (some (b,c,n))) (hl:off+len≤n.1) (hn:n.1≤c) (ho:(off=c∧0<c)∨o=off*sz) (hm:c≤maxLen):RepC g w (.lsl id sz off len) (.slice (some ⟨b,o,none⟩) len (c - off))
 | nsl {id sz i off b c:Nat} {n:Nat×NS} {pl:Option (Nat×Nat×Nat)} {v:Value} (h:g.ids id=some (some (b,c,n))) (hk:n.2[i*sz+off]? = some pl) (hv:OwnV (lift1 pl) v):RepC g w (.nsl id sz i off) v
 | nel {id sz i off sz' j off' b c b':Nat} {c':Nat×Nat} {n:Nat×NS} (h:g.ids id=some (some (b,c,n))) (hk:n.2[i*sz+off]? = some (some (b',c'))):RepC g w (.nel id sz i off sz' j off') (.pointer (some ⟨b',j*sz'+off',none⟩))
 | bsl {id n b:Nat} {c:Nat×Nat×NS} (h:g.ids id=some (some (b,c))) (hm:n≤maxLen):RepC g w (.bsl id n) (.slice (some ⟨b,0,none⟩) n n)
 | mpc {id b:Nat} {c:Nat×Nat×NS} (h:g.ids id=some (some (b,c))):RepC g w (.mpc id) (.map (some b))
 | ppt (cs:List (ND F)) (b o b2 o2:Nat) (f:Nat→Value) (hb:g.imm b) (hv:w.cell? ⟨b,o,none⟩=some (.pointer (some ⟨b2,o2,none⟩))) (hb2:g.imm b2)
   (hc:∀k d,cs[k]? = some d→w.cell? ⟨b2,o2+k,none⟩=some (f k))
   (hr:∀k d,cs[k]? = some d→RepI w g.imm d (f k)) :
   RepC g w (.ppt cs) (.pointer (some ⟨b,o,none⟩))
 | ln {d:ND F} {x:Value} (h:RepI w g.al d x):RepC g w (.ln d) x
 | lpt (cs:List (ND F)) (off b o:Nat) (f:Nat→Value) (hb:g.al b)
   (hc:∀k d,cs[k]? = some d→w.cell? ⟨b,o+k,none⟩=some (f k))
   (hr:∀k d,cs[k]? = some d→RepI w g.al d (f k)) :
   RepC g w (.lpt cs off) (.pointer (some ⟨b,o+off,none⟩))
 | any {x:Value}:RepC g w .any x
 | one {x:Value} (h:x.oneCell'=true):RepC g w .one x
structure Le(g:G)(w:World)(g':G)(w':World):Prop where
 ids:∀id r,g.ids id=some r→g'.ids id=some r
 imm:∀b,g.imm b→g'.imm b
 heap:∀b,g.imm b→w'.heap[b]? = w.heap[b]?
 len:∀b,g.len b→g'.len b
 heapL:∀b,g.len b→w'.heap[b]? = w.heap[b]?
theorem Le.refl(g:G)(w:World):Le g w g w:=⟨λ_ _ h=>h,λ_ h=>h,λ_ _=>rfl,λ_ h=>h,λ_ _=>rfl⟩
theorem Le.trans{g g' g'':G}{w w' w'':World}(h:Le g w g' w')(k:Le g' w' g'' w''):Le g w g'' w'':=
 ⟨λ_ _ x=>k.ids _ _ (h.ids _ _ x),λ_ x=>k.imm _ (h.imm _ x),λb x=>(k.heap b (h.imm b x)).trans (h.heap b x),λ_ x=>k.len _ (h.len _ x),λb x=>(k.heapL b (h.len b x)).trans (h.heapL b x)⟩
theorem Le.al{g g':G}{w w':World}(hl:Le g w g' w'){b:Nat}(h:g.al b):g'.al b:=h.imp (hl.imm b) (hl.len b)
theorem Le.heapA{g g':G}{w w':World}(hl:Le g w g' w'){b:Nat}(h:g.al b):w'.heap[b]? = w.heap[b]?:=h.elim (hl.heap b) (hl.heapL b)
theorem RepI.leL{g g':G}{w w':World}(hl:Le g w g' w'){d:ND F}{x:Value}(h:RepI w g.al d x):RepI w' g'.al d x:=
 h.mono (λ_=>hl.al) (λ_=>hl.heapA)
theorem RepI.le{g g':G}{w w':World}(hl:Le g w g' w'){d:ND F}{x:Value}(h:RepI w g.imm d x):RepI w' g'.imm d x:=
 h.mono hl.imm hl.heap
theorem RepC.le{g g':G}{w w':World}(hl:Le g w g' w'){c:Cel F}{x:Value}(h:RepC g w c x):RepC g' w' c x:=by
 cases h with
 | im h=>exact .im (h.le hl)
 | pt cs off b o f hb hc hr=>
  exact .pt cs off b o f (hl.imm b hb) (λk d hk=>by rw[cell?_of_heap (hl.heap b hb)];exact hc k d hk) (λk d hk=>(hr k d hk).le hl)
 | ptr h=>exact .ptr (hl.ids _ _ h)
 | pel h=>exact .pel (hl.ids _ _ h)
 | wsl0 p h=>exact .wsl0 p (hl.ids _ _ h)
 | wsl h h1 h2=>exact .wsl (hl.ids _ _ h) h1 h2
 | lsl0 p h=>exact .lsl0 p (hl.ids _ _ h)
 | lsl h h1 h2 h3 h4=>exact .lsl (hl.ids _ _ h) h1 h2 h3 h4
 | nsl h h1 h2=>exact .nsl (hl.ids _ _ h) h1 h2
 | nel h h1=>exact .nel (hl.ids _ _ h) h1
 | bsl h hm=>exact .bsl (hl.ids _ _ h) hm
 | mpc h=>exact .mpc (hl.ids _ _ h)
 | ppt cs b o b2 o2 f hb hv hb2 hc hr=>
  exact .ppt cs b o b2 o2 f (hl.imm b hb) (by rw[cell?_of_heap (hl.heap b hb)];exact hv) (hl.imm b2 hb2) (λk d hk=>by rw[cell?_of_heap (hl.heap b2 hb2)];exact hc k d hk) (λk d hk=>(hr k d hk).le hl)
 | ln h=>exact .ln (h.leL hl)
 | lpt cs off b o f hb hc hr=>
  exact .lpt cs off b o f (hl.al hb) (λk d hk=>by rw[cell?_of_heap (hl.heapA hb)];exact hc k d hk) (λk d hk=>(hr k d hk).leL hl)
 | any=>exact .any
 | one h=>exact .one h
theorem RepC.oneCell{g:G}{w:World}{c:Cel F}{x:Value}(h:RepC g w c x)(hc:c≠.any):x.oneCell'=true:=by
 cases h with
 | nsl h hk hv=>
  rename_i pl
  cases pl with
  | none=>obtain⟨p,rfl⟩:=hv;rfl
  | some q=>simp only[lift1,OwnV]at hv;subst hv;rfl
 | im h=>exact h.oneCell
 | ln h=>exact h.oneCell
 | any=>exact absurd rfl hc
 | one h=>exact h
 | _=>rfl
inductive Dat(F:Fam) where
 | c (x:Cel F)
 | agg (cs:List (Cel F))
 | tup (ds:List (Dat F))
 | clo (fn:Fn) (fs cs:List (Dat F))
 | fv (ks:List Ty) (r:Ty) (φ : TupT F ks→Option (ET F r))
inductive RepD(P:Program)(g:G)(w:World):Dat F→Value→Prop where
 | c {x:Cel F} {v:Value} (h:RepC g w x v):RepD P g w (.c x) v
 | agg {cs:List (Cel F)} {vs:List Value} (hl:vs.length=cs.length) (h:∀(k:Nat)(c:Cel F)(x:Value),cs[k]? = some c→vs[k]? = some x→RepC g w c x):RepD P g w (.agg cs) (.agg ⟨vs⟩)
 | tup {ds:List (Dat F)} {vs:List Value} (hl:vs.length=ds.length) (h:∀(k:Nat)(d:Dat F)(x:Value),ds[k]? = some d→vs[k]? = some x→RepD P g w d x):RepD P g w (.tup ds) (.tuple ⟨vs⟩)
 | clo {fn:Fn} {fs cs:List (Dat F)} {vs us:List Value} (h1:vs.length=fs.length) (h2:us.length=cs.length)
   (hf:∀(k:Nat)(c:Dat F)(x:Value),fs[k]? = some c→vs[k]? = some x→RepD P g w c x)
   (hc:∀(k:Nat)(c:Dat F)(x:Value),cs[k]? = some c→us[k]? = some x→RepD P g w c x):RepD P g w (.clo fn fs cs) (.func fn ⟨vs⟩ ⟨us⟩)
 | fv {ks:List Ty} {r:Ty} {φ : TupT F ks→Option (ET F r)} {v:Value} (h:FvOk P F w g.imm ks r φ v):RepD P g w (.fv ks r φ) v
theorem FvOk.le{P:Program}{g g':G}{w w':World}(hl:Le g w g' w'){ks:List Ty}{r:Ty}{φ : TupT F ks→Option (ET F r)}{v:Value}(h:FvOk P F w g.imm ks r φ v):FvOk P F w' g'.imm ks r φ v:=by obtain⟨fid,bound,captured,h1,h0,h2,h3⟩:=h;refine⟨fid,bound,captured,h1,h0,h2,λw2 imm2 k1 k2 a x vs k3 k4=>h3 w2 imm2 (λb hb=>⟨(k1 b (hl.imm b hb)).1,((k1 b (hl.imm b hb)).2).trans (hl.heap b hb)⟩) k2 a x vs k3 k4⟩
theorem RepD.le{P:Program}{g g':G}{w w':World}(hl:Le g w g' w'){d:Dat F}{x:Value}(h:RepD P g w d x):RepD P g' w' d x:=by
 induction h with
 | c h=>exact .c (h.le hl)
 | agg h1 h2=>exact .agg h1 (λk c x a b=>(h2 k c x a b).le hl)
 | tup h1 _ ih=>exact .tup h1 ih
 | clo h1 h2 _ _ i1 i2=>exact .clo h1 h2 i1 i2
 | fv h=>exact .fv (h.le hl)
inductive Blk(F:Fam) where
 | box (cs:List (Cel F))
 | row (t:Ty) (l:List (ET F t))
 | nrow (t:Ty) (l:List (ET F t))
 | fro (t:Ty) (l:List (ET F t))
 | fbx (cs:List (ND F))
 | mp (t:Ty) (l:List (ET F t))
 | it (ob:Obj)
 | als (k n:Nat)
 | lrow (t:Ty) (l:List (ET F t)) (i:Nat) (ks:List Nat)
 | mrow (t:Ty) (l:List (ET F t)) (j:Nat)
def Blk.owned:Blk F→Bool
 | .box _ | .row _ _ | .nrow _ _ | .mp _ _ | .it _ | .lrow _ _ _ _ | .mrow _ _ _=>true
 | _=>false
def Blk.isAls:Blk F→Bool
 | .als _ _=>true
 | _=>false
theorem Blk.noAls{B:Blk F}(h:B.owned=true):B.isAls=false:=by cases B<;>first | rfl | cases h
def OwnG(w:World)(t:Ty)(l:List (ET F t))(C:Nat→ND F→Value→Option (Nat×Nat×Nat)→Prop):Pl→Prop
 | none=>l = []
 | some (b,cap,n)=>n.1=l.length∧l.length≤cap∧cap≤maxLen∧n.2.length=(cells F t l).length∧(b::nbl n.2).Nodup∧∃cur e,w.heap[b]? = some (.cells ⟨cur⟩ e (0,0))∧cur.length=cap*szT F t∧
   ∀(k:Nat)(d:ND F)(x:Value)(pl:Option (Nat×Nat×Nat)),(cells F t l)[k]? = some d→cur[k]? = some x→n.2[k]? = some pl→C k d x pl
def t_(w:World)(imm:Nat→Prop)(sz i:Nat)(ks:List Nat)(k:Nat)(d:ND F)(x:Value)(pl:Option (Nat×Nat×Nat)):Prop:=
 ((∃q∈ks,k=i*sz+q)→pl=none∧x.oneCell'=true)∧((¬ ∃q∈ks,k=i*sz+q)→OwnC w imm d x pl)
def CMix(w:World)(imm:Nat→Prop)(sz j:Nat)(k:Nat)(d:ND F)(x:Value)(pl:Option (Nat×Nat×Nat)):Prop:=
 (k<j*sz→OwnC w imm d x pl)∧(¬ k<j*sz→pl=none∧RepI w imm d x)
def SameM(k:Nat)(p q:Option Pl):Prop:=(∃b c n n',p=some (some (b,c,n))∧q=some (some (b,c,n'))∧n'.1=n.1∧n.1=k)∨(p=some none∧q=some none∧k=0)
def BlkOk(g:G)(w:World)(id:Nat):Blk F→Prop
 | .box cs=>∃(b:Nat)(c:Nat×Nat)(arr:List Value)(t:TypeId),g.ids id=some (some (b,c.1,c.2,[]))∧w.heap[b]? = some (.cells ⟨arr⟩ t (0,0))∧arr.length=cs.length∧
   ∀(k:Nat)(c:Cel F)(x:Value),cs[k]? = some c→arr[k]? = some x→RepC g w c x
 | .row t l=>(g.ids id=some none∧l = [])∨
   ∃b cap cur e,g.ids id=some (some (b,cap,l.length,[]))∧w.heap[b]? = some (.cells ⟨cur⟩ e (0,0))∧l.length≤cap∧cap≤maxLen∧cur.length=cap*szT F t∧
    ∀(k:Nat)(d:ND F)(x:Value),(cells F t l)[k]? = some d→cur[k]? = some x→RepI w g.imm d x
 | .nrow t l=>∃pl,g.ids id=some pl∧OwnN w g.imm t l pl
 | .fro t l=>(g.ids id=some none∧l = [])∨
   ∃b cap ns,g.ids id=some (some (b,cap,l.length,ns))∧(∀b'∈nbl ns,g.imm b')∧g.imm b∧l.length≤cap∧cap≤maxLen∧
    ∀(k:Nat)(d:ND F),(cells F t l)[k]? = some d→∃x,w.cell? ⟨b,k,none⟩=some x∧RepI w g.imm d x
 | .fbx cs=>∃(b:Nat)(c:Nat×Nat),g.ids id=some (some (b,c.1,c.2,[]))∧g.imm b∧∀(k:Nat)(d:ND F),cs[k]? = some d→∃x,w.cell? ⟨b,k,none⟩=some x∧RepI w g.imm d x
 | .mp t l=>∃b,g.ids id=some (some (b,0,0,[]))∧MapAt w g.imm t l b
 | .it ob=>∃b,g.ids id=some (some (b,0,0,[]))∧w.heap[b]? = some ob
 | .als k n=>SameM n (g.ids id) (g.ids k)
 | .lrow t l i ks=>∃pl,g.ids id=some pl∧OwnG w t l (t_ w g.imm (szT F t) i ks) pl
 | .mrow t l j=>∃pl,g.ids id=some pl∧OwnG w t l (CMix w g.imm (szT F t) j) pl
theorem MapAt.chg{w w':World}{imm imm':Nat→Prop}(hi:∀b,imm b→imm' b)(hw:∀b,imm b→w'.heap[b]? = w.heap[b]?){t:Ty}{l:List (ET F t)}{b:Nat}(hb:w'.heap[b]? = w.heap[b]?)(h:MapAt w imm t l b):MapAt w' imm' t l b:=by obtain⟨es,h1,h2,h3⟩:=h;refine⟨es,hb.trans h1,h2,λk x e a a'=>?_⟩;obtain⟨q1,kd,vds,q2,q3,q4⟩:=h3 k x e a a';exact⟨q1,kd,vds,q2,q3.mono hi hw,q4.mono hi hw⟩
theorem bv.chg{w w':World}{imm imm':Nat→Prop}(hi:∀b,imm b→imm' b)(hw:∀b,imm b→w'.heap[b]? = w.heap[b]?){t:Ty}{l:List (ET F t)}{pl:Pl}(hb:∀b c,pl=some (b,c)→w'.heap[b]? = w.heap[b]?)(h:bv w imm t l pl):bv w' imm' t l pl:=by
 cases pl with
 | none=>exact h
 | some q=>obtain⟨b,cap,n⟩:=q;obtain⟨q1,q2,q3,cur,e,q4,q5,q6⟩:=h;exact⟨q1,q2,q3,cur,e,(hb b _ rfl).trans q4,q5,λk d x a b=>(q6 k d x a b).mono hi hw⟩
theorem OwnX.chg{w w':World}{imm imm':Nat→Prop}(hi:∀b,imm b→imm' b)(hw:∀b,imm b→w'.heap[b]? = w.heap[b]?){t:Ty}{l:List (ET F t)}{pl:Pl}(hb:∀b c,pl=some (b,c)→w'.heap[b]? = w.heap[b]?)(h:OwnX w imm t l pl):OwnX w' imm' t l pl:=by
 unfold OwnX at h ⊢;split
 ·rename_i hm;rw[if_pos hm]at h;obtain⟨b,rfl,h⟩:=h;exact⟨b,rfl,h.chg hi hw (hb b _ rfl)⟩
 ·rename_i hm;rw[if_neg hm]at h;exact h.chg hi hw hb
theorem dD{w:World}{imm:Nat→Prop}{t:Ty}{l:List (ET F t)}{pl:Pl}(h:t.isMp=false):OwnX w imm t l pl=bv w imm t l pl:=by unfold OwnX;rw[if_neg (by simp[h])]
theorem gE{t:Ty}{pl:Pl}{v:Value}(h:t.isMp=false):OwnVX t pl v=OwnV pl v:=by unfold OwnVX;rw[if_neg (by simp[h])]
theorem OwnC.chg{w w':World}{imm imm':Nat→Prop}(hi:∀b,imm b→imm' b)(hw:∀b,imm b→w'.heap[b]? = w.heap[b]?){d:ND F}{x:Value}{pl:Option (Nat×Nat×Nat)}(hb:∀b c,pl=some (b,c)→w'.heap[b]? = w.heap[b]?)(h:OwnC w imm d x pl):OwnC w' imm' d x pl:=by
 cases d with
 | sl t l=>
  refine⟨h.1.chg hi hw ?_,h.2⟩;intro b c e
  cases pl with
  | none=>cases e
  | some q=>obtain⟨b',c',n'⟩:=q;simp only[lift1,Option.some.injEq,Prod.mk.injEq]at e;exact hb b (c',n') (by rw[← e.1])
 | _=>exact⟨h.1,h.2.1,h.2.2.mono hi hw⟩
theorem OwnN.chg{w w':World}{imm imm':Nat→Prop}(hi:∀b,imm b→imm' b)(hw:∀b,imm b→w'.heap[b]? = w.heap[b]?){t:Ty}{l:List (ET F t)}{pl:Pl}(hb:∀b0 c,pl=some (b0,c)→∀b∈b0::nbl c.2.2,w'.heap[b]? = w.heap[b]?)(h:OwnN w imm t l pl):OwnN w' imm' t l pl:=by
 cases pl with
 | none=>exact h
 | some q=>obtain⟨b,cap,n⟩:=q;obtain⟨q1,q2,q3,q4,q5,cur,e,q6,q7,q8⟩:=h;have hb:=hb b _ rfl;refine⟨q1,q2,q3,q4,q5,cur,e,(hb b List.mem_cons_self).trans q6,q7,λk d x pl h1 h2 h3=>(q8 k d x pl h1 h2 h3).chg hi hw ?_⟩;rintro b' c' rfl;exact hb b' (List.mem_cons_of_mem _ (eU h3))
theorem OwnG.chg{w w':World}{t:Ty}{l:List (ET F t)}{C C':Nat→ND F→Value→Option (Nat×Nat×Nat)→Prop}{pl:Pl}(hb:∀b0 c,pl=some (b0,c)→∀b∈b0::nbl c.2.2,w'.heap[b]? = w.heap[b]?)
  (hC:∀k d x p,(∀b c,p=some (b,c)→w'.heap[b]? = w.heap[b]?)→C k d x p→C' k d x p) (h:OwnG w t l C pl):OwnG w' t l C' pl:=by
 cases pl with
 | none=>exact h
 | some q=>obtain⟨b,cap,n⟩:=q;obtain⟨q1,q2,q3,q4,q5,cur,e,q6,q7,q8⟩:=h;have hb:=hb b _ rfl;refine⟨q1,q2,q3,q4,q5,cur,e,(hb b List.mem_cons_self).trans q6,q7,λk d x pl h1 h2 h3=>hC k d x pl ?_ (q8 k d x pl h1 h2 h3)⟩;rintro b' c' rfl;exact hb b' (List.mem_cons_of_mem _ (eU h3))
theorem t_.chg{w w':World}{imm imm':Nat→Prop}(hi:∀b,imm b→imm' b)(hw:∀b,imm b→w'.heap[b]? = w.heap[b]?){sz i:Nat}{ks:List Nat}{k:Nat}{d:ND F}{x:Value}{p:Option (Nat×Nat×Nat)}(hb:∀b c,p=some (b,c)→w'.heap[b]? = w.heap[b]?)(h:t_ w imm sz i ks k d x p):t_ w' imm' sz i ks k d x p:=
 ⟨h.1,λhn=>(h.2 hn).chg hi hw hb⟩
theorem CMix.chg{w w':World}{imm imm':Nat→Prop}(hi:∀b,imm b→imm' b)(hw:∀b,imm b→w'.heap[b]? = w.heap[b]?){sz j:Nat}{k:Nat}{d:ND F}{x:Value}{p:Option (Nat×Nat×Nat)}(hb:∀b c,p=some (b,c)→w'.heap[b]? = w.heap[b]?)(h:CMix w imm sz j k d x p):CMix w' imm' sz j k d x p:=
 ⟨λhn=>(h.1 hn).chg hi hw hb,λhn=>⟨(h.2 hn).1,(h.2 hn).2.mono hi hw⟩⟩
theorem SameM.mono{k:Nat}{p q p' q':Option Pl}(hp:∀r,p=some r→p'=some r)(hq:∀r,q=some r→q'=some r)(h:SameM k p q):SameM k p' q':=by
 rcases h with⟨b,c,n,n',h1,h2,h3⟩ | ⟨h1,h2,h3⟩
 ·exact .inl ⟨b,c,n,n',hp _ h1,hq _ h2,h3⟩
 ·exact .inr ⟨hp _ h1,hq _ h2,h3⟩
theorem BlkOk.le{g g':G}{w w':World}(hl:Le g w g' w'){id:Nat}{B:Blk F}(h:BlkOk g w id B)
  (hb:B.owned=true→∀b,g.blk id b→w'.heap[b]? = w.heap[b]?):BlkOk g' w' id B:=by
 cases B with
 | box cs=>obtain⟨b,c,arr,t,h1,h2,h3,h4⟩:=h;exact⟨b,c,arr,t,hl.ids _ _ h1,(hb rfl b (G.blk_main h1)).trans h2,h3,λk c x a b=>(h4 k c x a b).le hl⟩
 | row t l=>
  rcases h with⟨h1,h2⟩ | ⟨b,cap,cur,e,h1,h2,h3,h4,h5,h6⟩
  ·exact .inl ⟨hl.ids _ _ h1,h2⟩
  ·exact .inr ⟨b,cap,cur,e,hl.ids _ _ h1,(hb rfl b (G.blk_main h1)).trans h2,h3,h4,h5,λk d x a b=>(h6 k d x a b).le hl⟩
 | nrow t l=>obtain⟨pl,h1,h2⟩:=h;refine⟨pl,hl.ids _ _ h1,h2.chg hl.imm hl.heap ?_⟩;rintro b0 c rfl b hbb;exact hb rfl b ⟨b0,c,h1,hbb⟩
 | fro t l=>
  rcases h with⟨h1,h2⟩ | ⟨b,cap,ns,h1,hn,h2,h3,h4,h5⟩
  ·exact .inl ⟨hl.ids _ _ h1,h2⟩
  ·refine .inr ⟨b,cap,ns,hl.ids _ _ h1,λb' hb'=>hl.imm b' (hn b' hb'),hl.imm b h2,h3,h4,λk d hk=>?_⟩;obtain⟨x,k1,k2⟩:=h5 k d hk
   exact⟨x,by rw[cell?_of_heap (hl.heap b h2)];exact k1,k2.le hl⟩
 | fbx cs=>
  obtain⟨b,c,h1,h2,h5⟩:=h;refine⟨b,c,hl.ids _ _ h1,hl.imm b h2,λk d hk=>?_⟩;obtain⟨x,k1,k2⟩:=h5 k d hk
  exact⟨x,by rw[cell?_of_heap (hl.heap b h2)];exact k1,k2.le hl⟩
 | mp t l=>obtain⟨b,h1,h2⟩:=h;exact⟨b,hl.ids _ _ h1,h2.chg hl.imm hl.heap (hb rfl b (G.blk_main h1))⟩
 | it ob=>obtain⟨b,h1,h2⟩:=h;exact⟨b,hl.ids _ _ h1,(hb rfl b (G.blk_main h1)).trans h2⟩
 | als k n=>exact SameM.mono (λr=>hl.ids _ r) (λr=>hl.ids _ r) h
 | lrow t l i ks=>obtain⟨pl,h1,h2⟩:=h;refine⟨pl,hl.ids _ _ h1,h2.chg ?_ λk d x p hp hc=>hc.chg hl.imm hl.heap hp⟩;rintro b0 c rfl b hbb;exact hb rfl b ⟨b0,c,h1,hbb⟩
 | mrow t l j=>obtain⟨pl,h1,h2⟩:=h;refine⟨pl,hl.ids _ _ h1,h2.chg ?_ λk d x p hp hc=>hc.chg hl.imm hl.heap hp⟩;rintro b0 c rfl b hbb;exact hb rfl b ⟨b0,c,h1,hbb⟩
theorem yj{b:Nat}:∀{ns:NS},b∈nbl ns→∃(k:Nat)(c:Nat×Nat),ns[k]? = some (some (b,c))
 | [],h=>by simp[nbl]at h
 | none::ns,h=>by
  obtain⟨k,c,hk⟩:=yj (ns:=ns) h
  exact⟨k+1,c,by simpa using hk⟩
 | some (b',c')::ns,h=>by
  rcases List.mem_cons.1 h with rfl | h
  ·exact⟨0,c',rfl⟩
  ·obtain⟨k,c,hk⟩:=yj (ns:=ns) h
   exact⟨k+1,c,by simpa using hk⟩
theorem dL(t:Ty)(l:List (ET F t)):(cells F t l).length=l.length*szT F t:=by
 unfold cells
 induction l with
 | nil=>simp
 | cons a l ih=>simp only[List.map_cons,List.flatten_cons,LR,aN,List.length_cons,Nat.succ_mul,ih];omega
theorem OwnG.at{w:World}{t:Ty}{l:List (ET F t)}{C:Nat→ND F→Value→Option (Nat×Nat×Nat)→Prop}{b cap:Nat}{n:Nat×NS}(h:OwnG w t l C (some (b,cap,n))){k:Nat}{pl:Option (Nat×Nat×Nat)}(hk:n.2[k]? = some pl) :
  ∃d x,(cells F t l)[k]? = some d∧C k d x pl:=by
 obtain⟨q1,q2,q3,q4,q5,cur,e,q6,q7,q8⟩:=h;have hlt:k<n.2.length:=(LQ.1 hk).1
 have h1:k<(cells F t l).length:=by omega
 have h2:(cells F t l).length≤cur.length:=by rw[q7,dL];exact Nat.mul_le_mul_right _ q2
 exact⟨_,_,LP h1,q8 k _ _ _ (LP h1) (LP (by omega:k<cur.length)) hk⟩
theorem Cs{w:World}{imm:Nat→Prop}{d:ND F}{x:Value}{q:Nat×Nat×Nat}(h:OwnC w imm d x (some q)):∃t' l',d = .sl t' l'∧bv w imm t' l' (some (q.1,q.2.1,q.2.2,[])):=by
 cases d with
 | sl t' l'=>exact⟨t',l',rfl,h.1⟩
 | _=>exact absurd h.1 (by simp)
theorem OwnN.sub{w:World}{imm:Nat→Prop}{t:Ty}{l:List (ET F t)}{b cap:Nat}{n:Nat×NS}(h:OwnN w imm t l (some (b,cap,n))){k b':Nat}{c':Nat×Nat}(hk:n.2[k]? = some (some (b',c'))) :
  ∃t' l',(cells F t l)[k]? = some (.sl t' l')∧bv w imm t' l' (some (b',c'.1,c'.2,[])):=by
 obtain⟨d,x,h1,h2⟩:=OwnG.at (C:=λ_=>OwnC w imm) h hk;obtain⟨t',l',rfl,h3⟩:=Cs h2;exact⟨t',l',h1,h3⟩
theorem OwnG.blk{w:World}{t:Ty}{l:List (ET F t)}{C:Nat→ND F→Value→Option (Nat×Nat×Nat)→Prop}{b cap:Nat}{n:Nat×NS}(h:OwnG w t l C (some (b,cap,n)))(hC:∀k d x q,C k d x (some q)→∃imm,OwnC w imm d x (some q)){b':Nat}(hb:b'∈b::nbl n.2):b'<w.heap.size:=by
 have key:∀{b:Nat}{o:Obj},w.heap[b]? = some o→b<w.heap.size:=λh=>(Array.getElem?_eq_some_iff.1 h).1;rcases List.mem_cons.1 hb with rfl | h4
 ·obtain⟨_,_,_,_,_,cur,e,q6,_⟩:=h;exact key q6
 ·obtain⟨k,c',hk⟩:=yj h4;obtain⟨d,x,_,h2⟩:=OwnG.at h hk;obtain⟨imm,h3⟩:=hC _ _ _ _ h2;obtain⟨t',l',_,_,_,_,cur,e,q,_⟩:=Cs h3;exact key q
theorem t_.some{w:World}{imm:Nat→Prop}{sz i:Nat}{ks:List Nat}{k:Nat}{d:ND F}{x:Value}{q:Nat×Nat×Nat}(h:t_ w imm sz i ks k d x (some q)):OwnC w imm d x (some q):=by
 by_cases hn:∃q∈ks,k=i*sz+q
 ·exact absurd (h.1 hn).1 (by simp)
 ·exact h.2 hn
theorem CMix.some{w:World}{imm:Nat→Prop}{sz j:Nat}{k:Nat}{d:ND F}{x:Value}{q:Nat×Nat×Nat}(h:CMix w imm sz j k d x (some q)):OwnC w imm d x (some q):=by
 by_cases hn:k<j*sz
 ·exact h.1 hn
 ·exact absurd (h.2 hn).1 (by simp)
theorem BlkOk.place{g:G}{w:World}(hi:∀b,g.imm b→b<w.heap.size){id:Nat}{B:Blk F}(ho:B.isAls=false)(h:BlkOk g w id B){b:Nat}(hb:g.blk id b) :
  b<w.heap.size:=by
 have key:∀{b:Nat}{o:Obj},w.heap[b]? = some o→b<w.heap.size:=λh=>(Array.getElem?_eq_some_iff.1 h).1
 cases B with
 | box cs=>obtain⟨b',c',arr,t,h1,h2,_⟩:=h;rw[G.blk_one h1 hb];exact key h2
 | row t l=>
  rcases h with⟨h1,h2⟩ | ⟨b',cap,cur,e,h1,h2,_⟩
  ·exact(G.blk_nil h1 hb).elim
  ·rw[G.blk_one h1 hb];exact key h2
 | nrow t l=>
  obtain⟨pl,h1,h2⟩:=h;obtain⟨b0,c,h3,h4⟩:=hb;rw[h1]at h3;cases h3;rcases List.mem_cons.1 h4 with rfl | h4
  ·obtain⟨_,_,_,_,_,cur,e,q6,_⟩:=h2;exact key q6
  ·obtain⟨k,c',hk⟩:=yj h4;obtain⟨t',l',_,_,_,_,cur,e,q,_⟩:=OwnN.sub (n:=c.2) h2 hk;exact key q
 | fro t l=>
  rcases h with⟨h1,h2⟩ | ⟨b',cap,ns,h1,hn,h2,_⟩
  ·exact(G.blk_nil h1 hb).elim
  ·obtain⟨b0,c,h3,h4⟩:=hb;rw[h1]at h3;cases h3;rcases List.mem_cons.1 h4 with rfl | h4
   ·exact hi _ h2
   ·exact hi _ (hn _ h4)
 | fbx cs=>obtain⟨b',c',h1,h2,_⟩:=h;rw[G.blk_one h1 hb];exact hi _ h2
 | mp t l=>obtain⟨b',h1,es,h2,_⟩:=h;rw[G.blk_one h1 hb];exact key h2
 | it ob=>obtain⟨b',h1,h2⟩:=h;rw[G.blk_one h1 hb];exact key h2
 | als k n=>cases ho
 | lrow t l i ks=>obtain⟨pl,h1,h2⟩:=h;obtain⟨b0,c,h3,h4⟩:=hb;rw[h1]at h3;cases h3;exact OwnG.blk (n:=c.2) h2 (λ_ _ _ _ hc=>⟨_,hc.some⟩) h4
 | mrow t l j=>obtain⟨pl,h1,h2⟩:=h;obtain⟨b0,c,h3,h4⟩:=hb;rw[h1]at h3;cases h3;exact OwnG.blk (n:=c.2) h2 (λ_ _ _ _ hc=>⟨_,hc.some⟩) h4
structure Ow where
 o:Nat→Prop
 i:Nat→Prop
 nm:Nat→Option Pl
structure MemOk(ow:Ow)(g:G)(w:World)(m:Nat→Option (Blk F)):Prop where
 ok:∀id B,m id=some B→BlkOk g w id B
 dis:∀id id' B B' b,m id=some B→m id'=some B'→B.owned=true→B'.owned=true→g.blk id b→g.blk id' b→id=id'
 own:∀id B b,m id=some B→B.owned=true→g.blk id b→ow.o b∧¬ g.imm b
 imm:∀b,g.imm b→b<w.heap.size
 io:∀b,g.imm b→ow.i b∨ow.o b
 len:∀b,g.len b→¬ ow.o b∧b<w.heap.size
structure Stp(m:Nat→Option (Blk F))(g:G)(w:World)(g':G)(w':World):Prop where
 le:Le g w g' w'
 os:w'.os=w.os
 tape:w'.tape=w.tape
 output:w'.output=w.output
 size:w.heap.size≤w'.heap.size
 frame:∀b,b<w.heap.size→(∀id B,m id=some B→B.owned=true→¬ g.blk id b)→w'.heap[b]? = w.heap[b]?
 drawn:w.drawn≤w'.drawn
theorem Stp.refl(m:Nat→Option (Blk F))(g:G)(w:World):Stp m g w g w:=⟨.refl _ _,rfl,rfl,rfl,Nat.le_refl _,λ_ _ _=>rfl,Nat.le_refl _⟩
structure Frm(own:Ow)(W0 w:World):Prop where
 os:w.os=W0.os
 tape:w.tape=W0.tape
 output:w.output=W0.output
 size:W0.heap.size≤w.heap.size
 fresh:∀b,W0.heap.size≤b→own.o b
 block:∀b,b<W0.heap.size→¬ own.o b→w.heap[b]? = W0.heap[b]?
 drawn:W0.drawn≤w.drawn
theorem Frm.stp{own:Ow}{W0 w w':World}{g g':G}{m:Nat→Option (Blk F)}(h:Frm own W0 w)(hm:MemOk own g w m)(hs:Stp m g w g' w'):Frm own W0 w':=by refine⟨hs.os.trans h.os,hs.tape.trans h.tape,hs.output.trans h.output,Nat.le_trans h.size hs.size,h.fresh,λb hb ho=>?_,Nat.le_trans h.drawn hs.drawn⟩;rw[← h.block b hb ho];exact hs.frame b (Nat.lt_of_lt_of_le hb h.size) (λid B hB hw hi=>ho (hm.own id B b hB hw hi).1)
structure St(F:Fam) where
 e:Nat→Option (Dat F)
 m:Nat→Option (Blk F)
 u:Nat→Bool
structure Good(P:Program)(own:Ow)(W0:World)(n:Nat)(s:St F)(g:G)(a:Act)(w:World):Prop where
 dfr:a.defers = []
 tsz:a.tmps.size=n
 env:∀x d,s.e x=some d→RepD P g w d (a.tmps.getD x undef)
 mem:MemOk own g w s.m
 dom:∀id,s.u id=false→g.ids id=none
 ini:∀b,own.i b→g.imm b
 frm:Frm own W0 w
 nam:∀id p,own.nm id=some p→g.ids id=some p
def RepDs(P:Program)(g:G)(w:World)(ds:List (Dat F))(vs:List Value):Prop:=
 vs.length=ds.length∧∀(k:Nat)(d:Dat F)(x:Value),ds[k]? = some d→vs[k]? = some x→RepD P g w d x
end
set_option linter.unusedVariables false
set_option linter.unusedSimpArgs false
structure TI(F:Fam) where
 desc:TypeDesc
 size:Nat
 bytes:Nat
 zero:List (ND F)
 ty:Option Ty
 eq:Bool:=false
def dl:TypeDesc→Bool
 | .struct _ | .array _ _=>true
 | _=>false
def look{α : Type}:List (Nat×α)→Nat→Option α
 | [],_=>none
 | (y,a)::r,x=>if Nat.beq y x then some a else look r x
def memN(x:Nat):List Nat→Bool
 | []=>false
 | y::l=>if Nat.beq y x then true else memN x l
structure Res(F:Fam) where
 val:Dat F
 mw:List (Nat×Option (Blk F)):=[]
 nu:Nat:=0
inductive Kd where
 | v (t:Ty) (ow:List Nat)
 | box (t:Ty) (ow:List Nat)
 | rp (t:Ty)
 | fn (ks:List Ty) (r:Ty)
 | row (t:Ty) (arr:Bool)
 | rpp (t:Ty)
 | pk (k:Nat) (t:Ty)
 | ln (t:Ty)
 | nb (t:Ty) (ow:List Nat)
section
variable(F:Fam)
@[reducible] def Kd.El:Kd→Type
 | .v t _=>ET F t
 | .box t _=>ET F t
 | .rp t=>ET F t
 | .fn ks r=>TupT F ks→Option (ET F r)
 | .row t _=>List (ET F t)
 | .rpp t=>ET F t
 | .pk _ t=>ET F t
 | .ln t=>ET F t
 | .nb t _=>ET F t
@[reducible] def HL:List Kd→Type
 | []=>Unit
 | k::r=>k.El F×HL r
@[reducible] def TL:List Kd→Type
 | []=>Unit
 | [k]=>k.El F
 | k::l::r=>k.El F×TL (l::r)
end
def Kd.isLn:Kd→Bool
 | .ln _=>true
 | _=>false
def Kd.noOwn:Kd→Bool
 | .v _ []=>true
 | .rp _=>true
 | .fn _ _=>true
 | .rpp _=>true
 | .pk _ _=>true
 | .ln _=>true
 | _=>false
def Dl(ks:List Kd):Bool:=ks.all (λk=>!k.isLn)||ks.all Kd.noOwn
def Kd.isBox:Kd→Bool
 | .box _ _=>true
 | .row _ _=>true
 | _=>false
structure Spec(F:Fam) where
 ks:List Kd
 rs:List Kd
 D:HL F ks→Option (TL F (rs++ks.filter Kd.isBox))
def mget{α : Type}(p:α→Bool)(l:List α)(z:α):α:=(l.find? p).getD z
def mhas{α : Type}(p:α→Bool)(l:List α):Bool:=l.any p
def mput{α : Type}(p:α→Bool)(l:List α)(y:α):List α:=match l with
 | []=>[y]
 | x::r=>cond (p x) (y::r) (x::mput p r y)
def nz(x:Int):Option Unit:=if x≠0 then some ()else none
def nn(x:Int):Option Unit:=if 0≤x then some ()else none
def idx{α : Type}(l:List α)(i:Int):Option α:=if 0≤i then l[i.toNat]? else none
def inb(i:Int)(n:Nat):Option Nat:=if 0≤i∧i.toNat<n then some i.toNat else none
def inS(a b:Int)(n:Nat):Option (Nat×Nat):=if 0≤a∧a≤b∧b≤n then some (a.toNat,b.toNat - a.toNat)else none
def slc{α : Type}(l:List α)(a b:Int):Option (List α):=if 0≤a∧a≤b∧b≤l.length then some ((l.take b.toNat).drop a.toNat)else none
def cat(l m:List UInt8):Option (List UInt8):=if Nat.ble (l.length+m.length) 9223372036854775807 then some (l++m)else none
def app{α : Type}(b:Nat)(l m:List α):Option (List α):=if(l++m).length≤maxLen∧(l++m).length*b≤140737488355328 then some (l++m)else none
def mkl{α : Type}(b:Nat)(n m:Int)(z:α):Option (List α):=if 0≤n∧n≤m∧m.toNat≤maxLen∧b*m.toNat≤281474976710656 then some (List.replicate n.toNat z)else none
def sub{α : Type}(l:List α)(a n:Nat):List α:=(l.drop a).take n
def cpy{α : Type}(l:List α)(a n:Nat)(ys:List α):List α:=l.take a++ys.take n++l.drop (a+min n ys.length)
def imin(x y:Int):Int:=if y<x then y else x
def imax(x y:Int):Int:=if y>x then y else x
abbrev w64(x:Int):Int:=IntKind.i64.wrap x
abbrev shlK(k:IntKind)(a b:Int):Int:=k.wrap (a*2 ^ min b.toNat k.bits)
abbrev shrK(_k:IntKind)(a b:Int):Int:=a.fdiv (2 ^ min b.toNat _k.bits)
abbrev andK(k:IntKind)(a b:Int):Int:=k.wrap ((BitVec.ofInt k.bits a &&& BitVec.ofInt k.bits b).toNat)
abbrev orK(k:IntKind)(a b:Int):Int:=k.wrap ((BitVec.ofInt k.bits a ||| BitVec.ofInt k.bits b).toNat)
abbrev xorK(k:IntKind)(a b:Int):Int:=k.wrap ((BitVec.ofInt k.bits a ^^^ BitVec.ofInt k.bits b).toNat)
def strLe(l m:List UInt8):Bool:=Op.bytesLess l m||l == m
section
variable{F:Fam}
def celOf:Value→Cel F
 | .int k n=>.im (.i k n)
 | .bool b=>.im (.b b)
 | .string s=>.im (.s s.data.toList)
 | .slice none 0 0=>.im .nl
 | .agg _ | .tuple _=>.any
 | x=>.im (.v x)
def ofVal:Value→Dat F
 | .agg cs=>.agg (cs.toList.map celOf)
 | x=>.c (celOf x)
def opd(e:Nat→Option (Dat F)):Operand→Dat F
 | .tmp t=>(e t).getD (.c .any)
 | .const v=>ofVal v
 | .global g=>.c (.im (.v (.pointer (some ⟨g,0,none⟩))))
 | .func f=>.c (.im (.v (.func (.func f) #[] #[])))
def Dat.cells:Dat F→List (Cel F)
 | .c x=>[x]
 | .agg cs=>cs
 | _=>[]
def Cel.noAny:Cel F→Bool
 | .any=>false
 | _=>true
def datT(t:Ty)(x:ET F t):Dat F:=
 match t,x with
 | .st n,x=>.agg ((encT F (.st n) x).map .im)
 | .int k,n=>.c (.im (.i k n))
 | .bool,b=>.c (.im (.b b))
 | .str,l=>.c (.im (.s l))
 | .slice t,l=>.c (.im (.sl t l))
def updM(m:Nat→Option (Blk F)):List (Nat×Option (Blk F))→Nat→Option (Blk F)
 | []=>m
 | (id,B)::r=>updM (λx=>if Nat.beq id x then B else m x) r
def resF(mm:Nat→Option (Blk F)):Nat→Nat→Nat
 | 0,id=>id
 | n+1,id=>match mm id with
  | some (.als k _)=>resF mm n k
  | _=>id
def resI(mm:Nat→Option (Blk F))(id:Nat):Nat:=match mm id with
 | some (.als k _)=>resF mm 8 k
 | _=>id
def resC(mm:Nat→Option (Blk F)):Cel F→Cel F
 | .wsl id=>.wsl (resI mm id)
 | .pel id sz i off=>.pel (resI mm id) sz i off
 | .lsl id sz off n=>.lsl (resI mm id) sz off n
 | c=>c
def resD(mm:Nat→Option (Blk F)):Dat F→Dat F
 | .c x=>.c (resC mm x)
 | d=>d
def wslND(mm:Nat→Option (Blk F))(id:Nat):Option (ND F×List Nat):=match mm id with
 | some (.row t l)=>some (.sl t l,[id])
 | some (.nrow t l)=>some (.sl t l,[id])
 | some (.fro t l)=>some (.sl t l,[])
 | _=>none
def celND(mm:Nat→Option (Blk F)):Cel F→Option (ND F×List Nat)
 | .im d=>some (d,[])
 | .wsl id=>wslND mm (resI mm id)
 | .lsl id sz off n=>match mm id with
  | some (.row t l)=>if sz=szT F t then some (.sl t (sub l off n),[id])else none
  | some (.fro t l)=>if sz=szT F t then some (.sl t (sub l off n),[])else none
  | _=>none
 | _=>none
def bJ(mm:Nat→Option (Blk F)):List (Cel F)→Option (List (ND F)×List Nat)
 | []=>some ([],[])
 | c::r=>match celND mm c with
  | none=>none
  | some (d,i)=>match bJ mm r with
   | none=>none
   | some (ds,j)=>some (d::ds,i++j)
def frzB(mm:Nat→Option (Blk F))(ids:List Nat)(id:Nat):Option (Blk F):=
 match mm id with
 | some (.row t l)=>some (.fro t l)
 | some (.nrow t l)=>some (.fro t l)
 | some (.box cs)=>match bJ mm cs with
  | some (ds,fz)=>cond (fz.all (λx=>memN x ids)) (some (.fbx ds)) none
  | none=>none
 | b=>b
def frz(mm:Nat→Option (Blk F))(ids:List Nat):List (Nat×Option (Blk F)):=ids.map λid=>(id,frzB mm ids id)
def w7(mm:Nat→Option (Blk F)):Cel F→Option (ND F×Option Nat)
 | .wsl id=>match mm id with
  | some (.row t l)=>cond t.isMp none (some (.sl t l,some id))
  | _=>none
 | .mpc id=>match mm id with
  | some (.mp t l)=>cond t.isMp (some (.sl t l,some id)) none
  | _=>none
 | .im .nl=>some (.nl,none)
 | _=>none
def Bp(mm:Nat→Option (Blk F))(id:Nat):Option (ND F×Option Nat):=match mm id with
 | some (.nrow t l)=>some (.sl t l,some id)
 | _=>none
def tU(mm:Nat→Option (Blk F)):Cel F→Option (ND F×Option Nat)
 | .wsl id=>Bp mm (resI mm id)
 | .im .nl=>some (.nl,none)
 | _=>none
def dH(mm:Nat→Option (Blk F))(ow:List Nat):Nat→List (Cel F)→Option (List (ND F)×List (Option Nat)×List Nat)
 | _,[]=>some ([],[],[])
 | k,c::r=>
  if memN k ow then
   match w7 mm c with
   | none=>none
   | some (d,o)=>match dH mm ow (k+1) r with
    | none=>none
    | some (ds,os,fz)=>some (d::ds,o::os,fz)
  else if memN (k+1000) ow then
   match tU mm c with
   | none=>none
   | some (d,o)=>match dH mm ow (k+1) r with
    | none=>none
    | some (ds,os,fz)=>some (d::ds,o::os,fz)
  else
   match celND mm c with
   | none=>none
   | some (d,i)=>match dH mm ow (k+1) r with
    | none=>none
    | some (ds,os,fz)=>some (d::ds,os,i++fz)
def DZ(t:Ty):Dat F→Option (List (Cel F))
 | .c x=>if t.isSt then none else some [x]
 | .agg cs=>if t.isSt then some cs else none
 | _=>none
structure Pk(α : Type) where
 x:α
 os:List (Option Nat)
 fz:List Nat
 bx:List Nat
abbrev Ctx(F:Fam):=List (Nat×Spec F)
def packV(mm:Nat→Option (Blk F))(t:Ty)(ow:List Nat)(d:Dat F):Option (Pk (ET F t)):=
 match DZ t d with
 | none=>none
 | some cs=>match dH mm ow 0 cs with
  | none=>none
  | some (ds,os,fz)=>match decT F t ds with
   | none=>none
   | some x=>some ⟨x,os,fz,[]⟩
def lB(mm:Nat→Option (Blk F))(t:Ty)(ow:List Nat):Dat F→Option (Pk (ET F t))
 | .c (.ptr id 0)=>match mm id with
  | some (.box cs)=>match dH mm ow 0 cs with
   | none=>none
   | some (ds,os,fz)=>match decT F t ds with
    | none=>none
    | some x=>some ⟨x,some id::os,fz,[id]⟩
  | _=>none
 | _=>none
def AG(t:Ty)(arr:Bool):Dat F→Option Nat
 | .c (.ptr id 0)=>cond t.isMp none (if arr then some id else none)
 | .c (.wsl id)=>cond t.isMp none (if arr then none else some id)
 | .c (.mpc id)=>cond t.isMp (some id) none
 | _=>none
def datOf(t:Ty)(arr:Bool)(id:Nat):Dat F:=cond t.isMp (.c (.mpc id)) (if arr then .c (.ptr id 0)else .c (.wsl id))
def blkX(t:Ty)(l:List (ET F t)):Blk F:=cond t.isMp (.mp t l) (.row t l)
def celX(F:Fam)(t:Ty)(id:Nat):Cel F:=cond t.isMp (.mpc id) (.wsl id)
def tZ(mm:Nat→Option (Blk F))(t:Ty)(id:Nat):Option (Pk (List (ET F t))):=
 match mm id with
 | some (.row t' l)=>if h:t'=t then cond t.isMp none (some ⟨h▸l,[some id],[],[id]⟩)else none
 | some (.mp t' l)=>if h:t'=t then cond t.isMp (some ⟨h▸l,[some id],[],[id]⟩) none else none
 | _=>none
def Bo(mm:Nat→Option (Blk F))(t:Ty)(arr:Bool)(d:Dat F):Option (Pk (List (ET F t))):=
 match AG t arr d with
 | some id=>tZ mm t id
 | none=>none
def G3(mm:Nat→Option (Blk F))(t:Ty)(ow:List Nat)(d:Dat F):Option (Pk (ET F t)):=
 match lB mm t ow d with
 | some p=>some ⟨p.x,p.os,p.fz,[]⟩
 | none=>none
def Ap(mm:Nat→Option (Blk F))(t:Ty):Dat F→Option (Pk (ET F t))
 | .c (.pt cs 0)=>match decT F t cs with
  | some x=>some ⟨x,[],[],[]⟩
  | none=>none
 | .c (.ptr id 0)=>match mm id with
  | some (.box cs)=>match bJ mm cs with
   | none=>none
   | some (ds,fz)=>match decT F t ds with
    | none=>none
    | some x=>some ⟨x,[],id::fz,[]⟩
  | some (.fbx cs)=>match decT F t cs with
   | some x=>some ⟨x,[],[],[]⟩
   | none=>none
  | _=>none
 | _=>none
def ye(mm:Nat→Option (Blk F))(t:Ty):Dat F→Option (Pk (ET F t))
 | .c (.ptr id 0)=>match mm id with
  | some (.box [.ptr id2 0])=>match mm id2 with
   | some (.box cs)=>match bJ mm cs with
    | none=>none
    | some (ds,fz)=>match decT F t ds with
     | none=>none
     | some x=>some ⟨x,[],id::id2::fz,[]⟩
   | _=>none
  | some (.box [.pt cs 0])=>match decT F t cs with
   | none=>none
   | some x=>some ⟨x,[],[id],[]⟩
  | _=>none
 | _=>none
def Ao(mm:Nat→Option (Blk F))(k:Nat)(t:Ty):Dat F→Option (Pk (ET F t))
 | .c (.ptr id 0)=>match mm id with
  | some (.box [.ptr id2 0])=>match mm id2 with
   | some (.box cs)=>match cs[k]? with
    | some (.im d)=>match decT F t [d]with
     | some x=>some ⟨x,[],[id,id2],[]⟩
     | none=>none
    | _=>none
   | _=>none
  | _=>none
 | _=>none
def unlnC:Cel F→Cel F
 | .ln d=>.im d
 | c=>c
def unln:Dat F→Dat F
 | .c x=>.c (unlnC x)
 | .agg cs=>.agg (cs.map unlnC)
 | d=>d
def Hc(mm:Nat→Option (Blk F))(t:Ty)(d:Dat F):Option (Pk (ET F t)):=
 match packV mm t [] (unln d)with
 | none=>none
 | some p=>some ⟨p.x,[],[],[]⟩
def packP(mm:Nat→Option (Blk F)):(k:Kd)→Dat F→Option (Pk (k.El F))
 | .v t [],d=>packV mm t [] d
 | .rp t,d=>Ap mm t d
 | .rpp t,d=>ye mm t d
 | .pk k t,d=>Ao mm k t d
 | _,_=>none
def mkHL(mm:Nat→Option (Blk F)):(kk:List Kd)→(fs:List (Dat F))→(ks:List Ty)→(cs:List (Dat F))→Option (Pk (TupT F ks→HL F kk))
 | k::kk,d::fs,ks,cs=>match packP mm k d with
  | none=>none
  | some p=>match mkHL mm kk fs ks cs with
   | none=>none
   | some q=>some ⟨λa=>(p.x,q.x a),[],p.fz++q.fz,[]⟩
 | .v t' []::kk,[],t::ks,cs=>if h:t=t' then match mkHL mm kk [] ks cs with
   | none=>none
   | some q=>some ⟨λa=>(h▸a.1,q.x a.2),[],q.fz,[]⟩else none
 | k::kk,[],[],d::cs=>match packP mm k d with
  | none=>none
  | some p=>match mkHL mm kk [] [] cs with
   | none=>none
   | some q=>some ⟨λa=>(p.x,q.x a),[],p.fz++q.fz,[]⟩
 | [],[],[],[]=>some ⟨λ_=>(),[],[],[]⟩
 | _,_,_,_=>none
def Bw(ks:List Kd)(t r:Ty):(bl:List Kd)→(HL F ks→Option (TL F ([.v t []]++bl)))→Option (HL F ks→Option (ET F r))
 | [],D=>if e:t=r then some (λa=>(e▸(D a:Option (ET F t)):Option (ET F r)))else none
 | _::_,_=>none
def cR(sp:Spec F)(r:Ty):Option (HL F sp.ks→Option (ET F r)):=
 match sp with
 | ⟨ks,[.v t []],D⟩=>Bw ks t r (ks.filter Kd.isBox) D
 | _=>none
def cB(F:Fam):Ty→Bool
 | .slice _=>false
 | .st n=>(F.fs n).all λt=>match t with | .slice _=>false | .st _=>false | _=>true
 | _=>true
def C_(Γ : Ctx F)(mm:Nat→Option (Blk F))(ks:List Ty)(r:Ty):Dat F→Option (Pk (TupT F ks→Option (ET F r)))
 | .fv ks' r' φ=>if h:ks'=ks then if h':r'=r then some ⟨h▸h'▸φ,[],[],[]⟩else none else none
 | .clo (.func f) [] cs=>if cB F r then match look Γ f with
  | none=>none
  | some sp=>match cR sp r,mkHL mm sp.ks [] ks cs with
   | some D,some q=>some ⟨λa=>D (q.x a),[],q.fz,[]⟩
   | _,_=>some ⟨λ_=>none,[],[],[]⟩
  else none
 | .clo (.func f) (d::fs) cs=>if cB F r&&Nat.beq ks.length 1 then match look Γ f with
  | none=>none
  | some sp=>match cR sp r,mkHL mm sp.ks (d::fs) ks cs with
   | some D,some q=>some ⟨λa=>D (q.x a),[],q.fz,[]⟩
   | _,_=>none
  else none
 | .c (.im (.v (.func (.func f) ⟨[]⟩ ⟨[]⟩)))=>if cB F r then match look Γ f with
  | none=>none
  | some sp=>match cR sp r,mkHL mm sp.ks [] ks []with
   | some D,some q=>some ⟨λa=>D (q.x a),[],q.fz,[]⟩
   | _,_=>none
  else none
 | _=>none
def packK(Γ : Ctx F)(mm:Nat→Option (Blk F)):(k:Kd)→Dat F→Option (Pk (k.El F))
 | .v t ow,d=>packV mm t ow d
 | .box t ow,d=>lB mm t ow d
 | .rp t,d=>Ap mm t d
 | .fn ks r,d=>C_ Γ mm ks r d
 | .row t arr,d=>Bo mm t arr d
 | .rpp t,d=>ye mm t d
 | .pk k t,d=>Ao mm k t d
 | .ln t,d=>Hc mm t d
 | .nb t ow,d=>G3 mm t ow d
def ky(Γ : Ctx F)(mm:Nat→Option (Blk F)):(ks:List Kd)→List (Dat F)→Option (Pk (HL F ks))
 | [],[]=>some ⟨(),[],[],[]⟩
 | k::ks,d::ds=>match packK Γ mm k d with
  | none=>none
  | some p=>match ky Γ mm ks ds with
   | none=>none
   | some q=>some ⟨(p.x,q.x),p.os++q.os,p.fz++q.fz,p.bx++q.bx⟩
 | _,_=>none
def layC(ow:List Nat):Nat→Nat→List (ND F)→List (Cel F)×List (Nat×Blk F)×Nat
 | _,c,[]=>([],[],c)
 | k,c,d::r=>
  if memN k ow then
   match d with
   | .sl t l=>match layC ow (k+1) (c+1) r with
    | (cs,bs,c')=>(celX F t c::cs,(c,blkX t l)::bs,c')
   | d=>match layC ow (k+1) c r with
    | (cs,bs,c')=>(.im d::cs,bs,c')
  else if memN (k+1000) ow then
   match d with
   | .sl t l=>match layC ow (k+1) (c+1) r with
    | (cs,bs,c')=>(.wsl c::cs,(c,.nrow t l)::bs,c')
   | d=>match layC ow (k+1) c r with
    | (cs,bs,c')=>(.im d::cs,bs,c')
  else match layC ow (k+1) c r with
   | (cs,bs,c')=>(.im d::cs,bs,c')
def mkDat(t:Ty)(cs:List (Cel F)):Dat F:=if t.isSt then .agg cs else match cs with | [x]=>.c x | _=>.c .any
def unpK:(k:Kd)→k.El F→Nat→Dat F×List (Nat×Blk F)×Nat
 | .v t ow,x,c=>match layC ow 0 c (encT F t x)with
  | (cs,bs,c')=>(mkDat t cs,bs,c')
 | .box t ow,x,c=>match layC ow 0 (c+1) (encT F t x)with
  | (cs,bs,c')=>(.c (.ptr c 0),(c,.box cs)::bs,c')
 | .rp t,x,c=>(.c (.pt (encT F t x) 0),[],c)
 | .fn ks r,φ,c=>(.fv ks r φ,[],c)
 | .row t arr,x,c=>(datOf t arr c,[(c,blkX t x)],c+1)
 | .rpp t,x,c=>(.c (.ppt (encT F t x)),[],c)
 | .pk k t,x,c=>(.c .any,[],c)
 | .ln t,x,c=>(.c .any,[],c)
 | .nb t ow,x,c=>match layC ow 0 (c+1) (encT F t x)with
  | (cs,bs,c')=>(.c (.ptr c 0),(c,.box cs)::bs,c')
def lnDat(t:Ty)(x:ET F t):Dat F:=mkDat t ((encT F t x).map λd=>if d.flat then .im d else .ln d)
def entL:(ks:List Kd)→HL F ks→List (Dat F)→List (Dat F)
 | [],_,ds=>ds
 | _::_,_,[]=>[]
 | .ln t::ks,a,_::ds=>lnDat t a.1::entL ks a.2 ds
 | _::ks,a,d::ds=>d::entL ks a.2 ds
def unpHL:(ks:List Kd)→HL F ks→Nat→List (Dat F)×List (Nat×Blk F)×Nat
 | [],_,c=>([],[],c)
 | k::ks,a,c=>match unpK k a.1 c with
  | (d,bs,c')=>match unpHL ks a.2 c' with
   | (ds,bs',c'')=>(d::ds,bs++bs',c'')
def oo(ow:List Nat):List Nat:=if memN 7000 ow then[]else ow
def ap:(ks:List Kd)→TL F ks→List Nat→Nat→List (Dat F)×List (Nat×Blk F)×Nat
 | [],_,_,c=>([],[],c)
 | [.box t ow],x,b::_,c=>match layC (oo ow) 0 c (encT F t x)with
  | (cs,bs,c')=>([],(b,.box cs)::bs,c')
 | .box t ow::l::ks,a,b::bx,c=>match layC (oo ow) 0 c (encT F t a.1)with
  | (cs,bs,c')=>match ap (l::ks) a.2 bx c' with
   | (ds,bs',c'')=>(ds,(b,.box cs)::(bs++bs'),c'')
 | [.row t _],x,b::_,c=>([],[(b,blkX t x)],c)
 | .row t _::l::ks,a,b::bx,c=>match ap (l::ks) a.2 bx c with
   | (ds,bs',c'')=>(ds,(b,blkX t a.1)::bs',c'')
 | [k],a,_,c=>match unpK k a c with
  | (d,bs,c')=>([d],bs,c')
 | k::l::ks,a,bx,c=>match unpK k a.1 c with
  | (d,bs,c')=>match ap (l::ks) a.2 bx c' with
   | (ds,bs',c'')=>(d::ds,bs++bs',c'')
def aK:(ks:List Kd)→HL F ks→Nat→List Nat
 | [],_,_=>[]
 | .box t ow::ks,a,c=>c::aK ks a.2 (unpK (.box t ow) a.1 c).2.2
 | .row t arr::ks,a,c=>c::aK ks a.2 (unpK (.row t arr) a.1 c).2.2
 | k::ks,a,c=>aK ks a.2 (unpK k a.1 c).2.2
def xZ(F:Fam)(ow:List Nat):Nat→List Ty→Bool
 | _,[]=>true
 | k,t::ts=>(match t with | .slice e=>memN k ow&&cB F e&&!e.isMp | .st _=>false | _=>true)&&xZ F ow (k+1) ts
def Kd.flatR(F:Fam):Kd→Bool
 | .v t []=>cB F t
 | .v (.st n) ow=>memN 9999 ow&&xZ F ow 0 (F.fs n)
 | .v (.slice t) ow=>memN 0 ow&&cB F t&&!t.isMp
 | _=>false
def cA:List Nat→Bool
 | []=>true
 | x::l=>!(memN x l)&&cA l
def somes:List (Option Nat)→List Nat
 | []=>[]
 | some x::l=>x::somes l
 | none::l=>somes l
def disjN:List Nat→List Nat→Bool
 | [],_=>true
 | x::l,m=>!(memN x m)&&disjN l m
def tupD:List (Dat F)→Dat F
 | [d]=>d
 | ds=>.tup ds
end
set_option linter.unusedVariables false
set_option linter.unusedSimpArgs false
section
variable{F:Fam}{R:Type}
def dn(ti:TI F)(cs:List (Cel F))(off:Nat):Option (Dat F):=
 if dl ti.desc then(if Nat.ble (off+ti.size) cs.length then some (.agg ((cs.drop off).take ti.size))else none)else match cs[off]? with | some x=>some (.c x) | none=>none
def pK(o:Option (Dat F))(K:Res F→Option R):Option R:=match o with | some d=>K { val:=d } | none=>none
section
variable(T:TypeId→Option (TI F))(Γ : Ctx F)(vals:List (Dat F))(mm:Nat→Option (Blk F))(c:Nat)(K:Res F→Option R)
abbrev kI(k:IntKind)(n:Int):Option R:=K { val:=.c (.im (.i k n)) }
abbrev kB(b:Bool):Option R:=K { val:=.c (.im (.b b)) }
def litNz:Operand→Bool
 | .const (.int _ n)=>n != 0
 | _=>false
def litNn:Operand→Bool
 | .const (.int _ n)=>decide (0≤n)
 | _=>false
def BC(op:BinOp)(k:IntKind)(n m:Int)(y:Operand):Option R:=
 match op with
 | .add=>kI K k (k.wrap (n+m))
 | .sub=>kI K k (k.wrap (n - m))
 | .mul=>kI K k (k.wrap (n*m))
 | .quo=>if litNz y then kI K k (k.wrap (n.tdiv m))else(nz m).bind λ_=>kI K k (k.wrap (n.tdiv m))
 | .rem=>if litNz y then kI K k (n.tmod m)else(nz m).bind λ_=>kI K k (n.tmod m)
 | .and=>kI K k (andK k n m)
 | .or=>kI K k (orK k n m)
 | .xor=>kI K k (xorK k n m)
 | .eql=>kB K (n == m)
 | .neq=>kB K (n != m)
 | .lss=>kB K (decide (n<m))
 | .leq=>kB K (decide (n≤m))
 | .gtr=>kB K (decide (n>m))
 | .geq=>kB K (decide (n≥m))
 | _=>none
def BL(op:BinOp)(l m:List UInt8):Option R:=
 match op with
 | .add=>(cat l m).bind λr=>K { val:=.c (.im (.s r)) }
 | .eql=>kB K (l == m)
 | .neq=>kB K (!(l == m))
 | .lss=>kB K (Op.bytesLess l m)
 | .leq=>kB K (strLe l m)
 | .gtr=>kB K (!(strLe l m))
 | .geq=>kB K (!(Op.bytesLess l m))
 | _=>none
def eqCel(d:Option TypeDesc)(a b:Cel F):Option Bool:=
 match d,a,b with
 | some (.int _),.im (.i k n),.im (.i k' m)=>if k=k' then some (n == m)else none
 | some .bool,.im (.b x),.im (.b y)=>some (x == y)
 | some .string,.im (.s l),.im (.s m)=>some (l == m)
 | _,_,_=>none
def et(t:TypeId):Option TypeDesc:=match T t with | some ti=>some ti.desc | none=>none
def kz:List Field→Nat→List (Cel F)→List (Cel F)→Option Bool
 | [],_,[],[]=>some true
 | [f],off,[a],[b] => if f.name != "_" && f.offset == off then eqCel (et T f.type) a b else none
 | f :: f' :: fs,off,a :: l,b :: r => if f.name != "_" && f.offset == off then match eqCel (et T f.type) a b with
  | none=>none
  | some x=>match kz (f'::fs) (off+1) l r with
   | none=>none
   | some y=>some (x&&y)
  else none
 | _,_,_,_=>none
def eqOne(f:Field)(cs ds:List (Cel F)):Option (Bool×Nat):=
 match T f.type with
 | some ⟨.struct gs,n,_,_,_,true⟩=>if Nat.ble n cs.length&&Nat.ble n ds.length then match kz T gs.toList 0 (cs.take n) (ds.take n)with
  | some x=>some (x,n)
  | none=>none
  else none
 | some ti=>match cs,ds with
  | a::_,b::_=>match eqCel (some ti.desc) a b with
   | some x=>some (x,1)
   | none=>none
  | _,_=>none
 | none=>none
def ot:List Field→Nat→List (Cel F)→List (Cel F)→Option Bool
 | [],_,[],[]=>some true
 | [f],off,cs,ds => if f.name != "_" && f.offset == off then match eqOne T f cs ds with
  | some (x,n)=>if cs.length=n∧ds.length=n then some x else none
  | none=>none
  else none
 | f :: f' :: fs,off,cs,ds => if f.name != "_" && f.offset == off then match eqOne T f cs ds with
  | some (x,n)=>match ot (f'::fs) (off+n) (cs.drop n) (ds.drop n)with
   | some y=>some (x&&y)
   | none=>none
  | none=>none
  else none
 | _,_,_,_=>none
def eqAll(fs:List Field)(cs ds:List (Cel F)):Option Bool:=
 match kz T fs 0 cs ds with
 | some b=>some b
 | none=>ot T fs 0 cs ds
def tBin(op:BinOp)(xT:TypeId)(y:Operand):Option R:=
 match vals with
 | [.c (.im (.i k n)),.c (.im (.i k' m))]=>
  match op with
  | .shl=>if litNn y then kI K k (shlK k n m)else(nn m).bind λ_=>kI K k (shlK k n m)
  | .shr=>if litNn y then kI K k (shrK k n m)else(nn m).bind λ_=>kI K k (shrK k n m)
  | _=>if k=k' then BC K op k n m y else none
 | [.c (.im (.s l)),.c (.im (.s m))]=>BL K op l m
 | [.c (.im (.b x)),.c (.im (.b y))]=>
  match T xT,op with
  | some ⟨.bool,_,_,_,_,_⟩,.eql=>kB K (x == y)
  | some ⟨.bool,_,_,_,_,_⟩,.neq=>kB K (!(x == y))
  | _,_=>none
 | [.agg cs,.agg ds]=>
  match T xT,op with
  | some ⟨.struct fs,_,_,_,_,true⟩,.eql=>match eqAll T fs.toList cs ds with | some b=>kB K b | none=>none
  | some ⟨.struct fs,_,_,_,_,true⟩,.neq=>match eqAll T fs.toList cs ds with | some b=>kB K (!b) | none=>none
  | _,_=>none
 | [.c (.im (.sl _ l)),.c (.im .nl)]=>
  match y,T xT,op with
  | .const (.slice none 0 0),some ⟨.slice _,_,_,_,_,_⟩,.eql=>cond l.isEmpty none (kB K false)
  | .const (.slice none 0 0),some ⟨.slice _,_,_,_,_,_⟩,.neq=>cond l.isEmpty none (kB K true)
  | _,_,_=>none
 | _=>none
def tUn(op:UnOp):Option R:=
 match op,vals with
 | .neg,[.c (.im (.i k n))]=>kI K k (k.wrap (0 - n))
 | .not,[.c (.im (.b x))]=>kB K (!x)
 | _,_=>none
def toB(n:Int):UInt8:=UInt8.ofNat n.toNat
def tConv(src dst:TypeId):Option R:=
 match T src,T dst,vals with
 | some _,some ⟨.int k,_,_,_,_,_⟩,[.c (.im (.i _ n))]=>kI K k (k.wrap n)
 | some _,some ⟨.string,_,_,_,_,_⟩,[.c (.im (.s l))]=>K { val:=.c (.im (.s l)) }
 | some ⟨.slice e,_,_,_,_,_⟩,some ⟨.string,_,_,_,_,_⟩,[.c (.wsl id)]=>match T e with
  | some ⟨.int .u8,_,_,_,_,_⟩=>match mm id with
   | some (.row (.int .u8) l)=>K { val:=.c (.im (.s (l.map toB))) }
   | _=>none
  | _=>none
 | some ⟨.slice e,_,_,_,_,_⟩,some ⟨.string,_,_,_,_,_⟩,[.c (.im (.sl (.int .u8) l))]=>match T e with
  | some ⟨.int .u8,_,_,_,_,_⟩=>K { val:=.c (.im (.s (l.map toB))) }
  | _=>none
 | _,_,_=>none
def DG(s:TypeId)(f:Nat):Option R:=
 match T s with
 | some ⟨.struct fs,_,_,_,_,_⟩=>match fs[f]? with
  | none=>none
  | some fld=>match T fld.type with
   | none=>none
   | some ti=>if ti.size=0 then none else
    match vals with
    | [.c (.ptr id off)]=>K { val:=.c (.ptr id (off+fld.offset)) }
    | [.c (.pel id sz i off)]=>K { val:=.c (.pel id sz i (off+fld.offset)) }
    | [.c (.pt cs off)]=>K { val:=.c (.pt cs (off+fld.offset)) }
    | [.c (.nel id sz i off sz' j off')]=>K { val:=.c (.nel id sz i off sz' j (off'+fld.offset)) }
    | _=>none
 | _=>none
def tPart(s:TypeId)(f:Nat):Option R:=
 match T s,vals with
 | some ⟨.struct fs,size,_,_,_,_⟩,[.agg cs]=>match fs[f]? with
  | none=>none
  | some fld=>match T fld.type with
   | none=>none
   | some ti=>if cs.length=size then pK (dn ti cs fld.offset) K else none
 | _,_=>none
def litIx(n:Nat):Operand→Option Nat
 | .const (.int _ (.ofNat k))=>if Nat.blt k n then some k else none
 | _=>none
def vk(t:TypeId)(y:Operand):Option R:=
 match T t with
 | some ⟨.slice e,_,_,_,_,_⟩=>match T e with
  | none=>none
  | some te=>match vals with
   | [.c (.im (.sl t' l)),.c (.im (.i _ n))]=>if szT F t'=te.size then(idx l n).bind λx=>K { val:=.c (.pt (encT F t' x) 0) }else none
   | [.c (.wsl id),.c (.im (.i _ n))]=>match mm id with
    | some (.row t' l)=>if szT F t'=te.size then(inb n l.length).bind λi=>K { val:=.c (.pel id te.size i 0) }else none
    | some (.nrow t' l)=>if szT F t'=te.size then(inb n l.length).bind λi=>K { val:=.c (.pel id te.size i 0) }else none
    | some (.lrow t' l _ _)=>if szT F t'=te.size then(inb n l.length).bind λi=>K { val:=.c (.pel id te.size i 0) }else none
    | some (.mrow t' l _)=>if szT F t'=te.size then(inb n l.length).bind λi=>K { val:=.c (.pel id te.size i 0) }else none
    | some (.fro t' l)=>if szT F t'=te.size then(idx l n).bind λx=>K { val:=.c (.pt (encT F t' x) 0) }else none
    | _=>none
   | [.c (.nsl id sz i off),.c (.im (.i _ n))]=>match mm id with
    | some (.nrow t' l)=>if sz=szT F t' then(l[i]?).bind λx=>match(encT F t' x)[off]? with
     | some (.sl t2 l2)=>if szT F t2=te.size then(inb n l2.length).bind λj=>K { val:=.c (.nel id sz i off te.size j 0) }else none
     | _=>none
     else none
    | _=>none
   | [.c (.lsl id sz off len),.c (.im (.i _ n))]=>if sz=te.size then(inb n len).bind λi=>K { val:=.c (.pel id sz (off+i) 0) }else none
   | [.c (.bsl id len),.c (.im (.i _ n))]=>if te.size=1 then(inb n len).bind λi=>K { val:=.c (.ptr id i) }else none
   | _=>none
 | some ⟨.array len e,_,_,_,_,_⟩=>match T e with
  | none=>none
  | some te=>match vals with
   | [.c (.ptr id off),.c (.im (.i _ n))]=>match mm id,off with
    | some (.row t' _),0=>if szT F t'=te.size then
      match litIx len y with
      | some i=>K { val:=.c (.pel id te.size i 0) }
      | none=>(inb n len).bind λi=>K { val:=.c (.pel id te.size i 0) }
     else none
    | some (.box _),off=>match litIx len y with
     | some i=>K { val:=.c (.ptr id (off+i*te.size)) }
     | none=>none
    | _,_=>none
   | [.c (.pel id sz j off),.c (.im (.i _ _))]=>match litIx len y with
    | some i=>K { val:=.c (.pel id sz j (off+i*te.size)) }
    | none=>none
   | [.c (.pt cs off),.c (.im (.i _ _))]=>match litIx len y with
    | some i=>K { val:=.c (.pt cs (off+i*te.size)) }
    | none=>none
   | _=>none
 | _=>none
def DU(t:TypeId):Option R:=
 match T t,vals with
 | some ⟨.string,_,_,_,_,_⟩,[.c (.im (.s l)),.c (.im (.i _ n))]=>(idx l n).bind λch=>kI K .u8 ch.toNat
 | _,_=>none
def tLoad(t:TypeId):Option R:=
 match T t with
 | none=>none
 | some ti=>match vals with
  | [.c (.pt cs off)]=>pK (dn ti (cs.map .im) off) K
  | [.c (.ppt cs)]=>if dl ti.desc then none else K { val:=.c (.pt cs 0) }
  | [.c (.ptr id off)]=>match mm id with
   | some (.box cs)=>pK (dn ti cs off) K
   | some (.fbx cs)=>pK (dn ti (cs.map .im) off) K
   | _=>none
  | [.c (.pel id sz i off)]=>match mm id with
   | some (.row t' l)=>if sz=szT F t' then(l[i]?).bind λx=>pK (dn ti ((encT F t' x).map .im) off) K else none
   | some (.fro t' l)=>if sz=szT F t' then(l[i]?).bind λx=>pK (dn ti ((encT F t' x).map .im) off) K else none
   | some (.nrow t' l)=>if sz=szT F t'&&!(dl ti.desc)then(l[i]?).bind λx=>match(encT F t' x)[off]? with
    | some (.sl _ _)=>K { val:=.c (.nsl id sz i off) }
    | some d=>if d.flat then K { val:=.c (.im d) }else none
    | none=>none
    else none
   | _=>none
  | _=>none
def Dy(t:TypeId):Option R:=
 match T t with
 | none=>none
 | some ti=>match vals with
  | [.c (.ptr id off),v]=>match mm id with
   | some (.box cs)=>
    let vs:=v.cells
    if vs.length=ti.size&&vs.all Cel.noAny&&Nat.ble (off+vs.length) cs.length&&Nat.blt 0 vs.length then
     K { val:=.c .any,mw:=[(id,some (.box (cs.take off++vs++cs.drop (off+vs.length))))] }else none
   | _=>none
  | [.c (.pel id sz i off),v]=>match mm id,bJ mm v.cells with
   | some (.row t' l),some (ds,fz)=>
    if ds.length=ti.size&&sz == szT F t'&&Nat.ble (off+ds.length) (szT F t')&&Nat.blt 0 ds.length&&!(memN id fz)&&cA fz then
     (l[i]?).bind λx=>
      let cs:=encT F t' x
      match decT F t' (cs.take off++ds++cs.drop (off+ds.length))with
      | some y=>K { val:=.c .any,mw:=frz mm fz++[(id,some (.row t' (l.set i y)))] }
      | none=>none
    else none
   | _,_=>none
  | [.c (.nel id sz i off sz' j off'),v]=>match mm id,bJ mm v.cells with
   | some (.nrow t' l),some (ds,fz)=>
    if ds.length=ti.size&&sz == szT F t'&&Nat.blt 0 ds.length&&fz.isEmpty then
     (l[i]?).bind λx=>
      match(encT F t' x)[off]? with
      | some (.sl t2 l2)=>if sz' == szT F t2&&Nat.ble (off'+ds.length) (szT F t2)then
        (l2[j]?).bind λy=>
         match decT F t2 ((encT F t2 y).take off'++ds++(encT F t2 y).drop (off'+ds.length))with
         | some z=>match decT F t' ((encT F t' x).set off (.sl t2 (l2.set j z)))with
          | some x'=>K { val:=.c .any,mw:=[(id,some (.nrow t' (l.set i x')))] }
          | none=>none
         | none=>none
       else none
      | _=>none
    else none
   | _,_=>none
  | _=>none
def wl(tt:Ty):Dat F→Option (List (ET F tt))
 | .c (.im .nl)=>some []
 | .c (.im (.sl t' l))=>if h:t'=tt then some (h▸l)else none
 | .c (.wsl id)=>match mm id with
  | some (.row t' l)=>if h:t'=tt then some (h▸l)else none
  | some (.fro t' l)=>if h:t'=tt then some (h▸l)else none
  | _=>none
 | .c (.lsl id sz off n)=>match mm id with
  | some (.row t' l)=>if h:t'=tt then if sz=szT F t' then some (h▸sub l off n)else none else none
  | some (.fro t' l)=>if h:t'=tt then if sz=szT F t' then some (h▸sub l off n)else none else none
  | _=>none
 | _=>none
def Ff(tt:Ty):List (Dat F)→Option (List Nat×List (ET F tt)×List (ET F tt))
 | [.c (.im .nl),.c (.wsl id2)]=>match mm id2 with
  | some (.nrow t2 l2)=>if h:t2=tt then some ([id2],[],h▸l2)else none
  | _=>none
 | [.c (.wsl id),.c (.wsl id2)]=>match mm id,mm id2 with
  | some (.nrow t1 l1),some (.nrow t2 l2)=>if h:t1=tt then if h2:t2=tt then if Nat.beq id id2 then none else some ([id,id2],h▸l1,h2▸l2)else none else none
  | _,_=>none
 | _=>none
def BG(t0 t1:TypeId):Option R:=
 if t1 != t0 then none else
 match T t0 with
 | some ⟨.slice e,_,_,_,_,_⟩=>match T e with
  | none=>none
  | some te=>match te.ty with
   | none=>none
   | some tt=>if te.size=0 then none else
    match Ff mm tt vals with
    | some (rm,l,ys)=>(app te.bytes l ys).bind λl'=>K { val:=.c (.wsl c),mw:=rm.map (λr=>(r,none))++[(c,some (.nrow tt l'))],nu:=1 }
    | none=>
    match vals with
    | [x,y]=>match wl mm tt y with
     | none=>none
     | some ys=>match x with
      | .c (.im .nl)=>(app te.bytes [] ys).bind λl'=>K { val:=.c (.wsl c),mw:=[(c,some (.row tt l'))],nu:=1 }
      | .c (.wsl id)=>match mm id with
       | some (.row t' l)=>if h:t'=tt then(app te.bytes (h▸l) ys).bind λl'=>K { val:=.c (.wsl c),mw:=[(id,none),(c,some (.row tt l'))],nu:=1 }else none
       | _=>none
      | _=>none
    | _=>none
 | _=>none
def tMake(t:TypeId):Option R:=
 match T t with
 | some ⟨.slice e,_,_,_,_,_⟩=>match T e with
  | none=>none
  | some te=>match te.ty with
   | none=>none
   | some tt=>if te.size=0 then none else
    match vals,decT F tt te.zero with
    | [.c (.im (.i _ n)),.c (.im (.i _ m))],some z=>(mkl te.bytes n m z).bind λl=>K { val:=.c (.wsl c),mw:=[(c,some (.row tt l))],nu:=1 }
    | _,_=>none
 | _=>none
def litN:Operand→Option Nat
 | .const (.int _ (.ofNat k))=>some k
 | _=>none
def uh(t:TypeId)(x y:Operand):Option Nat:=
 match T t,litN x,litN y with
 | some ⟨.slice e,_,_,_,_,_⟩,some n,some m=>match T e with
  | some ⟨.slice _,1,b,[.nl],_,_⟩=>if n=m∧0<n∧n≤8∧b≤1000 then some n else none
  | _=>none
 | _,_,_=>none
def GI(n:Nat):Option R:=K { val:=.c (.bsl c n),mw:=[(c,some (.box (List.replicate n (.im .nl))))],nu:=1 }
def lay(place:Nat→Option (Nat×Nat))(cells:List (Cel F)):List (Nat×Dat F)→Option (List (Cel F))
 | []=>some cells
 | (i,v)::rest=>
  match place i with
  | none=>none
  | some (off,size)=>
   if v.cells.length=size&&Nat.ble (off+size) cells.length&&(v.cells.all Cel.noAny)&&Nat.blt 0 size then lay place (cells.take off++v.cells++cells.drop (off+size)) rest else none
def rz:List Field→Option (List (Nat×Nat))
 | []=>some []
 | f::l=>match T f.type with
  | none=>none
  | some ti=>match rz l with
   | none=>none
   | some r=>some ((f.offset,ti.size)::r)
def D6(t:TypeId)(ix:List Nat):Option R:=
 match T t with
 | some ⟨.struct fs,_,_,zero,_,_⟩=>match rz T fs.toList with
  | none=>none
  | some pl=>match lay (λi=>pl[i]?) (zero.map .im) (ix.zip vals)with
   | none=>none
   | some cs=>K { val:=.agg cs }
 | some ⟨.array _ e,_,_,zero,_,_⟩=>match T e with
  | none=>none
  | some te=>match lay (λi=>some (i*te.size,te.size)) (zero.map .im) (ix.zip vals)with
   | none=>none
   | some cs=>K { val:=.agg cs }
 | _=>none
def ku(tt:Ty)(sz:Nat):Nat→List (ND F)→Option (List (ET F tt))
 | 0,_=>some []
 | n+1,l=>match decT F tt (l.take sz)with
  | none=>none
  | some x=>match ku tt sz n (l.drop sz)with
   | none=>none
   | some r=>some (x::r)
def tx(t:TypeId)(len:Nat)(ix:List Nat):Option R:=
 match T t with
 | some ⟨.slice e,_,_,_,_,_⟩=>match T e with
  | none=>none
  | some te=>match te.ty with
   | none=>none
   | some tt=>if te.size=0||Nat.blt 1048576 (len*te.size)||szT F tt != te.size then none else
    match lay (λi=>some (i*te.size,te.size)) ((List.replicate len te.zero).flatten.map .im) (ix.zip vals)with
    | none=>none
    | some cs=>match bJ mm cs with
     | none=>none
     | some (ds,fz)=>match ku tt te.size len ds with
      | none=>none
      | some l=>if ds.length=len*te.size&&cA fz then K { val:=.c (.wsl c),mw:=frz mm fz++[(c,some (.row tt l))],nu:=1 }else none
 | _=>none
def lE:List (Cel F)→Option (List (ND F)×List (Option Nat))
 | []=>some ([],[])
 | .wsl id::r=>match mm id with
  | some (.row t l)=>match lE r with
   | some (ds,os)=>some (.sl t l::ds,some id::os)
   | none=>none
  | _=>none
 | .im .nl::r=>match lE r with
  | some (ds,os)=>some (.nl::ds,none::os)
  | none=>none
 | .im d::r=>if d.flat then match lE r with
  | some (ds,os)=>some (d::ds,none::os)
  | none=>none
  else none
 | _::_=>none
def rQ(t:TypeId)(len:Nat)(ix:List Nat):Option R:=
 match T t with
 | some ⟨.slice e,_,_,_,_,_⟩=>match T e with
  | none=>none
  | some te=>match te.ty with
   | none=>none
   | some tt=>if te.size=0||Nat.blt 1048576 (len*te.size)||szT F tt != te.size then none else
    match lay (λi=>some (i*te.size,te.size)) ((List.replicate len te.zero).flatten.map .im) (ix.zip vals)with
    | none=>none
    | some cs=>match lE mm cs with
     | none=>none
     | some (ds,os)=>match ku tt te.size len ds with
      | none=>none
      | some l=>if ds.length=len*te.size&&cA (somes os)then K { val:=.c (.wsl c),mw:=(somes os).map (λr=>(r,none))++[(c,some (.nrow tt l))],nu:=1 }else none
 | _=>none
def EN:Ctx F→Bool
 | (a,_)::(b,_)::_=>Nat.beq a b
 | _=>false
def nstTy(t:TypeId):Bool:=
 match T t with
 | some ⟨.slice e,_,_,_,_,_⟩=>match T e with
  | some te=>match te.ty with
   | some tt=>tt.isSt&&!(cB F tt)
   | none=>false
  | none=>false
 | _=>false
def tBox(elem:TypeId)(cs:List (Cel F)):Option R:=
 match T elem with
 | none=>none
 | some ti=>if cs.length=ti.size&&cs.all Cel.noAny&&Nat.blt 0 cs.length then
  match ti.desc with
  | .array len e=>match T e with
   | none=>none
   | some te=>match te.ty with
    | none=>none
    | some tt=>match bJ mm cs with
     | none=>none
     | some (ds,fz)=>match ku tt te.size len ds with
      | none=>none
      | some l=>if te.size=0||ds.length != len*te.size||szT F tt != te.size||!(Nat.ble len 1048576)||!(fz.isEmpty)then none else
       K { val:=.c (.ptr c 0),mw:=[(c,some (.row tt l))],nu:=1 }
  | _=>K { val:=.c (.ptr c 0),mw:=[(c,some (.box cs))],nu:=1 }
 else none
def bound(o:Option Nat)(dflt:Int):Option Int:=match o with
 | none=>some dflt
 | some k=>match(vals[k]? : Option (Dat F))with | some (.c (.im (.i _ n)))=>some n | _=>none
def Dt(t:TypeId)(lo hi:Option Nat):Option R:=
 match T t,(vals[0]? : Option (Dat F))with
 | some ⟨.string,_,_,_,_,_⟩,some (.c (.im (.s l)))=>match bound vals lo 0,bound vals hi l.length with
  | some a,some b=>(slc l a b).bind λr=>K { val:=.c (.im (.s r)) }
  | _,_=>none
 | some ⟨.slice e,_,_,_,_,_⟩,some (.c x)=>match T e with
  | none=>none
  | some te=>match x with
   | .im (.sl t' l)=>if szT F t'=te.size then match bound vals lo 0,bound vals hi l.length with
    | some a,some b=>(slc l a b).bind λr=>K { val:=.c (.im (.sl t' r)) }
    | _,_=>none
    else none
   | .wsl id=>match mm id with
    | some (.row t' l)=>if szT F t'=te.size then match bound vals lo 0,bound vals hi l.length with
     | some a,some b=>(inS a b l.length).bind λp=>K { val:=.c (.lsl id te.size p.1 p.2) }
     | _,_=>none
     else none
    | some (.fro t' l)=>if szT F t'=te.size then match bound vals lo 0,bound vals hi l.length with
     | some a,some b=>(slc l a b).bind λr=>K { val:=.c (.im (.sl t' r)) }
     | _,_=>none
     else none
    | _=>none
   | _=>none
 | _,_=>none
def tLen(t:TypeId):Option R:=
 match T t,vals with
 | some ⟨.string,_,_,_,_,_⟩,[.c (.im (.s l))]=>kI K .i64 l.length
 | some ⟨.slice _,_,_,_,_,_⟩,[.c (.im (.sl _ l))]=>kI K .i64 l.length
 | some ⟨.slice _,_,_,_,_,_⟩,[.c (.im .nl)]=>kI K .i64 0
 | some ⟨.slice _,_,_,_,_,_⟩,[.c (.wsl id)]=>match mm id with
  | some (.row _ l)=>kI K .i64 l.length
  | some (.fro _ l)=>kI K .i64 l.length
  | some (.nrow _ l)=>kI K .i64 l.length
  | some (.lrow _ l _ _)=>kI K .i64 l.length
  | some (.mrow _ l _)=>kI K .i64 l.length
  | _=>none
 | some ⟨.slice _,_,_,_,_,_⟩,[.c (.lsl _ _ _ n)]=>kI K .i64 n
 | some ⟨.slice _,_,_,_,_,_⟩,[.c (.bsl _ n)]=>kI K .i64 n
 | some ⟨.array n _,_,_,_,_,_⟩,[_]=>kI K .i64 n
 | some ⟨.map _ _,_,_,_,_,_⟩,[.c (.mpc id)]=>match mm id with
  | some (.mp _ l)=>kI K .i64 l.length
  | _=>none
 | _,_=>none
def keyIs(tt:Ty)(kd:ND F)(x:ET F tt):Bool:=match kd,encT F tt x with
 | .i _ n,.i _ m::_=>n == m
 | .s a,.s b::_=>a == b
 | _,_=>false
def keyOk(tt:Ty)(D:Option TypeDesc)(kd:ND F):Bool:=match tt with
 | .st n=>match F.fs n,D,kd with
  | .int K::_,some (.int K'),.i K'' _=>decide (K=K')&&decide (K'=K'')
  | .str::_,some .string,.s _=>true
  | _,_,_=>false
 | _=>false
def ur(tt:Ty)(x:ET F tt):Option (Dat F):=match encT F tt x with
 | _::vds=>cond tt.mpS (some (.agg (vds.map .im))) (match vds with | [d]=>some (.c (.im d)) | _=>none)
 | []=>none
def mapTy(t:TypeId):Option (TypeId×TypeId×Ty):=match T t with
 | some ⟨.map k v,_,_,_,some (.slice tt),_⟩=>cond tt.isMp (some (k,v,tt)) none
 | _=>none
def Bf(v:TypeId)(tt:Ty)(kd:ND F):Option (ET F tt):=match T v with
 | some te=>cond (dl te.desc == tt.mpS) (decT F tt (kd::te.zero)) none
 | none=>none
def zu(t:TypeId):Option R:=
 match mapTy T t with
 | some (_,_,tt)=>K { val:=.c (.mpc c),mw:=[(c,some (.mp tt []))],nu:=1 }
 | none=>none
def A5(t:TypeId)(ok:Bool):Option R:=
 match mapTy T t,vals with
 | some (k,v,tt),[.c (.mpc id),.c (.im kd)]=>match mm id with
  | some (.mp tt' l)=>if h:tt'=tt then cond (keyOk tt (et T k) kd) (match Bf T v tt kd with
   | some z=>match ur tt (mget (keyIs tt kd) (h▸l) z)with
    | some d=>K { val:=cond ok (.tup [d,.c (.im (.b (mhas (keyIs tt kd) (h▸l))))]) d }
    | none=>none
   | none=>none) none else none
  | _=>none
 | _,_=>none
def xe(tt:Ty):Dat F→Option (List (Cel F))
 | .c x=>cond tt.mpS none (some [x])
 | .agg cs=>cond tt.mpS (some cs) none
 | _=>none
def u1(t:TypeId):Option R:=
 match mapTy T t,vals with
 | some (k,_,tt),[.c (.mpc id),.c (.im kd),d]=>match mm id,xe tt d with
  | some (.mp tt' l),some cs=>if h:tt'=tt then cond (keyOk tt (et T k) kd) (match bJ mm cs with
   | some (ds,[])=>match decT F tt (kd::ds)with
    | some y=>K { val:=.c .any,mw:=[(id,some (.mp tt (mput (keyIs tt kd) (h▸l) y)))] }
    | none=>none
   | _=>none) none else none
  | _,_=>none
 | _,_=>none
def uo(f:Int→Int→Int)(k:IntKind)(n:Int):List (Dat F)→Option Int
 | []=>some n
 | .c (.im (.i k' m))::l=>if k=k' then uo f k (f n m) l else none
 | _=>none
def tFold(f:Int→Int→Int):Option R:=
 match vals with
 | .c (.im (.i k n))::l=>match uo f k n l with
  | some m=>kI K k m
  | none=>none
 | _=>none
def nones(l:List Nat):List (Nat×Option (Blk F)):=l.map λi=>(i,none)
def blks(l:List (Nat×Blk F)):List (Nat×Option (Blk F)):=l.map λp=>(p.1,some p.2)
def nmF:Nat→List (Blk F)→List (Nat×Blk F)
 | _,[]=>[]
 | c,B::r=>(c,B)::nmF (c+1) r
def bj(F:Fam):Nat→List (ND F)→List (Nat×Blk F)
 | _,[]=>[]
 | k,d::r=>match d with
  | .sl t l=>(k,.row t l)::bj F (k+1) r
  | _=>bj F (k+1) r
def takeC(F:Fam):Nat→List (ND F)→List (Cel F)
 | _,[]=>[]
 | c,d::r=>match d with
  | .sl _ _=>.wsl c::takeC F (c+1) r
  | d=>.im d::takeC F c r
def NID.okN:ND F→Bool
 | .sl _ _=>true
 | d=>d.flat
def pg(mm:Nat→Option (Blk F)):Cel F→Option (ND F×Option Nat)
 | .wsl id=>match mm id with
  | some (.row t l)=>some (.sl t l,some id)
  | _=>none
 | .im d=>match d with
  | .nl=>some (.nl,none)
  | d=>if d.flat then some (d,none)else none
 | _=>none
def dt(mm:Nat→Option (Blk F)):List (Cel F)→Option (List (ND F)×List (Option Nat))
 | []=>some ([],[])
 | c::r=>match pg mm c with
  | none=>none
  | some (d,o)=>match dt mm r with
   | none=>none
   | some (ds,os)=>some (d::ds,o::os)
def putW(id c n:Nat)(os:List (Option Nat))(B:Blk F):List (Nat×Option (Blk F)):=nones (id::somes os)++[(c,some B),(id,some (.als c n))]
def takeW(id c:Nat)(t:Ty)(l:List (ET F t))(i:Nat)(ks:List Nat)(rs:List (Blk F)):List (Nat×Option (Blk F)):=
 (id,none)::(c,some (.lrow t l i ks))::blks (nmF (c+1) rs)++[(id,some (.als c l.length))]
def fgC(ks:List Nat):Cel F→Cel F
 | .im d=>cond d.flat (.im d) .one
 | .wsl id=>cond (memN id ks) (.wsl id) .one
 | .any=>.any
 | _=>.one
def fgD(ks:List Nat):Dat F→Dat F
 | .c x=>.c (fgC ks x)
 | .agg cs=>.agg (cs.map (fgC ks))
 | _=>.c .any
def fgB:Nat×Blk F→Bool
 | (_,.row t _)=>cB F t
 | _=>false
def fgt:Ctx F→Bool
 | a::b::c::_=>Nat.beq a.1 b.1&&Nat.beq b.1 c.1
 | _=>false
def mark:Ctx F→Ctx F
 | []=>[]
 | a::l=>a::a::a::l
def Dv(f:FuncId)(args:List (Dat F)):Option R:=
 match look Γ f with
 | none=>none
 | some sp=>match ky Γ mm sp.ks (args.map unln)with
  | none=>none
  | some p=>if cA (somes p.os)&&disjN (somes p.os) p.fz then
    (sp.D p.x).bind λr=>
     match ap (sp.rs++sp.ks.filter Kd.isBox) r p.bx c with
     | (ds,bs,c')=>K { val:=tupD (ds.map (fgD ((bs.filter fgB).map (·.1)))),mw:=nones (somes p.os)++blks (bs.filter fgB),nu:=c' - c }
   else none
def As(f:FuncId)(args:List (Dat F)):Option R:=
 cond (fgt Γ) (Dv Γ mm c K f args) <|
 match look Γ f with
 | none=>none
 | some sp=>match ky Γ mm sp.ks (cond ((sp.rs++sp.ks.filter Kd.isBox).all (Kd.flatR F)) (args.map unln) args)with
  | none=>none
  | some p=>if cA (somes p.os)&&disjN (somes p.os) p.fz then
    (sp.D p.x).bind λr=>
     match ap (sp.rs++sp.ks.filter Kd.isBox) r p.bx c with
     | (ds,bs,c')=>K { val:=tupD ds,mw:=(if(sp.rs++sp.ks.filter Kd.isBox).all (Kd.flatR F)then[]else frz mm p.fz)++nones (somes p.os)++blks bs,nu:=c' - c }
   else none
def ut(ks:List Ty)(r:Ty)(φ : TupT F ks→Option (ET F r))(args:List (Dat F)):Option R:=
 match mkHL mm (ks.map λt=>.v t []) args [] []with
 | none=>none
 | some q=>if cB F r then match toTup ks (q.x ())with
   | a=>(φ a).bind λx=>K { val:=datT r x }
  else none
where toTup:(ks:List Ty)→HL F (ks.map λt=>.v t [])→TupT F ks
 | [],_=>()
 | _::ks,a=>(a.1,toTup ks a.2)
def tCopy(t:TypeId):Option R:=
 match T t with
 | some ⟨.slice e,_,_,_,_,_⟩=>match T e with
  | none=>none
  | some te=>match vals with
   | [.c (.wsl id),y]=>match mm id with
    | some (.row t l)=>if szT F t=te.size then match wl mm t y with
     | some ys=>K { val:=.c (.im (.i .i64 (min l.length ys.length:Nat))),mw:=[(id,some (.row t (cpy l 0 l.length ys)))] }
     | none=>none
     else none
    | _=>none
   | [.c (.lsl id sz off n),y]=>match mm id with
    | some (.row t l)=>if szT F t=te.size&&sz == te.size then match wl mm t y with
     | some ys=>K { val:=.c (.im (.i .i64 (min n ys.length:Nat))),mw:=[(id,some (.row t (cpy l off n ys)))] }
     | none=>none
     else none
    | _=>none
   | _=>none
 | _=>none
def Dz(t:TypeId):Option R:=
 match T t,vals with
 | some ⟨.slice e,_,_,_,_,_⟩,[.c (.lsl id sz off n)]=>match T e with
  | none=>none
  | some te=>match mm id with
   | some (.row tt l)=>if szT F tt=te.size&&sz == te.size&&Nat.blt 0 te.size then match decT F tt te.zero with
    | some z=>K { val:=.tup [],mw:=[(id,some (.row tt (cpy l off n (List.replicate n z))))] }
    | none=>none
    else none
   | _=>none
 | _,_=>none
def tHead(t:TypeId)(hi:Option Nat):Option R:=
 match T t,vals with
 | some ⟨.slice e,_,_,_,_,_⟩,.c (.wsl id)::_=>match T e with
  | none=>none
  | some te=>match mm id with
   | some (.row t' l)=>if szT F t'=te.size then match bound vals hi l.length with
    | some b=>(inS 0 b l.length).bind λp=>K { val:=.c (.wsl c),mw:=[(id,none),(c,some (.row t' (l.take p.2)))],nu:=1 }
    | none=>none
    else none
   | _=>none
 | _,_=>none
def tCall(cl:Call):Option R:=
 match cl.callee with
 | .builtin .len=>match cl.argTypes,cl.args with
  | ⟨[t]⟩,⟨[_]⟩=>tLen T vals mm K t
  | _,_=>none
 | .builtin .append=>match cl.argTypes,cl.args with
  | ⟨[t0,t1]⟩,⟨[_,_]⟩=>BG T vals mm c K t0 t1
  | _,_=>none
 | .builtin .copy=>match cl.argTypes,cl.args with
  | ⟨[t,_]⟩,⟨[_,_]⟩=>tCopy T vals mm K t
  | _,_=>none
 | .builtin .clear=>match cl.argTypes,cl.args with
  | ⟨[t]⟩,⟨[_]⟩=>Dz T vals mm K t
  | _,_=>none
 | .builtin .min=>tFold vals K imin
 | .builtin .max=>tFold vals K imax
 | .value _=>match vals with
  | .c (.im (.v (.func (.func f) ⟨[]⟩ ⟨[]⟩)))::args=>As Γ mm c K f args
  | .clo (.func f) fs cs::args=>As Γ mm c K f (fs++args++cs)
  | .fv ks r φ::args=>ut mm K ks r φ args
  | _=>none
 | _=>none
def tPick:Option R:=
 match vals with
 | [.c (.im (.b x)),a,b]=>cond x (K { val:=a }) (K { val:=b })
 | _=>none
def w_:Option R:=
 match vals with
 | [.c (.ptr id off)]=>K { val:=.c (.ptr id off) }
 | [.c (.pel id sz i off)]=>K { val:=.c (.pel id sz i off) }
 | [.c (.pt cs off)]=>K { val:=.c (.pt cs off) }
 | _=>none
def DI(fn:Fn)(first captured:Nat):Option R:=
 if first=0&&captured=0 then K { val:=.c (.im (.v (.func fn #[] #[]))) }
 else K { val:=.clo fn (vals.take first) (vals.drop first) }
def hiPos(lo:Option Operand):Nat:=match lo with | some _=>2 | none=>1
def ob(o:Option Operand)(k:Nat):Option Nat:=match o with | some _=>some k | none=>none
def tOp(o:Op):Option R:=
 match o with
 | .move _ | .assign _=>match vals with | [x]=>K { val:=x } | _=>none
 | .pick _ _ _=>tPick vals K
 | .alloc elem=>match T elem with | some ti=>tBox T mm c K elem (ti.zero.map .im) | none=>none
 | .box elem _=>match vals with | [x]=>tBox T mm c K elem x.cells | _=>none
 | .build t parts=>D6 T vals K t (parts.toList.map (·.1))
 | .buildSlice t len parts=>if EN Γ && nstTy T t then rQ T vals mm c K t len (parts.toList.map (·.1))else tx T vals mm c K t len (parts.toList.map (·.1))
 | .load t _=>tLoad T vals mm K t
 | .store t _ _=>Dy T vals mm K t
 | .nilCheck _=>w_ vals K
 | .binOp op t _ y _=>tBin T vals K op t y
 | .unOp op _ _=>tUn vals K op
 | .convert s d _=>tConv T vals mm K s d
 | .makeFunc fn first captured=>DI vals K fn first.size captured.size
 | .makeSlice t x y=>if EN Γ then(match uh T t x y with | some n=>GI c K n | none=>tMake T vals c K t)else tMake T vals c K t
 | .slice t _ lo hi none=>if fgt Γ && lo.isNone then tHead T vals mm c K t (ob hi 1)else Dt T vals mm K t (ob lo 1) (ob hi (hiPos lo))
 | .fieldAddr s _ f=>DG T vals K s f
 | .field s _ f=>tPart T vals K s f
 | .indexAddr t _ y=>vk T vals mm K t y
 | .index t _ _=>DU T vals K t
 | .makeMap t none=>zu T c K t
 | .lookup t _ _ ok=>A5 T vals mm K t ok
 | .mapUpdate t _ _ _=>u1 T vals mm K t
 | .extract _ i=>match vals with | [.tup ds]=>(match ds[i]? with | some d=>K { val:=d } | none=>none) | _=>none
 | .call cl=>tCall T Γ vals mm c K cl
 | _=>none
end
end
set_option linter.unusedVariables false
set_option linter.unusedSimpArgs false
structure Rec where
 rs:List Nat
 d:Option Nat
 tm:List Nat
 wm:List Nat
 anc:Nat
def r9:List Operand→List Nat
 | []=>[]
 | .tmp t::l=>t::r9 l
 | _::l=>r9 l
def edgesOn:List Edge→List Nat
 | []=>[]
 | x::l=>if Region.binds .any x then x.on::edgesOn l else edgesOn l
def ancOf(recs:List Rec):List Nat→Nat
 | []=>0
 | i::l=>Nat.lor (Nat.lor (2 ^ i) ((recs[i]?).elim 0 (·.anc))) (ancOf recs l)
def dstOf(ops:List Oper)(j:Nat):Option Nat:=(ops[j]?).bind (·.dst)
def meets(a b:List Nat):Bool:=match a with | []=>false | x::l=>memN x b||meets l b
def Rec.conflict(a b:Rec):Bool:=
 (match a.d with | some x=>memN x b.rs||(match b.d with | some y=>Nat.beq x y | none=>false) | none=>false) ||
 (match b.d with | some y=>memN y a.rs | none=>false) ||
 meets a.wm b.tm||meets a.wm b.wm||meets b.wm a.tm
def ul(b:Rec):Nat→List Rec→Bool
 | _,[]=>true
 | i,a::l=>(Nat.testBit b.anc i||!(a.conflict b))&&ul b (i+1) l
def wo(all:List Rec):List Rec→Bool
 | []=>true
 | b::l=>ul b 0 (all.take (all.length - (b::l).length))&&wo all l
def uf:Nat→List Oper→Bool
 | _,[]=>true
 | i,o::l=>(edgesOn o.after.toList).all (λk=>Nat.blt k i)&&uf (i+1) l
section
variable{F:Fam}
def Cel.ids:Cel F→List Nat
 | .ptr id _ | .pel id _ _ _ | .lsl id _ _ _ | .wsl id | .nsl id _ _ _ | .nel id _ _ _ _ _ _ | .bsl id _ | .mpc id=>[id]
 | _=>[]
def BB:List (Cel F)→List Nat
 | []=>[]
 | c::l=>c.ids++BB l
mutual
def Dat.ids:Dat F→List Nat
 | .c x=>x.ids
 | .agg cs=>BB cs
 | .clo _ fs cs=>nI fs++nI cs
 | _=>[]
def nI:List (Dat F)→List Nat
 | []=>[]
 | d::l=>d.ids++nI l
end
def CU(mm:Nat→Option (Blk F)):Nat→Nat→List Nat
 | 0,_=>[]
 | n+1,k=>k::match mm k with | some (.als k' _)=>CU mm n k' | _=>[]
def CY(mm:Nat→Option (Blk F)):List Nat→List Nat
 | []=>[]
 | id::l=>id::((match mm id with | some (.als k _)=>CU mm 9 k | _=>[])++CY mm l)
def Gk(mm:Nat→Option (Blk F)):List Nat→List Nat
 | []=>[]
 | id::l=>(match mm id with | some (.box cs)=>CY mm (BB cs) | some (.als k _)=>CU mm 9 k | _=>[])++Gk mm l
def reach(mm:Nat→Option (Blk F))(ids:List Nat):List Nat:=ids++Gk mm ids
def ES(mm:Nat→Option (Blk F))(o:Op)(vals:List (Dat F)):List Nat:=
 match o with
 | .call _=>reach mm (reach mm (nI vals))
 | .indexAddr _ _ _=>nI vals
 | .load _ _=>CY mm (nI vals)
 | .store _ _ _ | .slice _ _ _ _ _ | .buildSlice _ _ _ | .box _ _ | .convert _ _ _ | .lookup _ _ _ _ | .mapUpdate _ _ _ _=>reach mm (nI vals)
 | _=>[]
def restr(m:Nat→Option (Blk F))(l:List Nat):Nat→Option (Blk F):=λid=>if memN id l then m id else none
structure TS(F:Fam) where
 E:List (Nat×Dat F)
 M:List (Nat×Blk F)
 c:Nat
 dE:List Nat:=[]
 dM:List Nat:=[]
def putE(E:List (Nat×Dat F))(dst:Option Nat)(d:Dat F):List (Nat×Dat F):=
 match dst with
 | some x=>(x,d)::E
 | none=>E
def setM(M:List (Nat×Blk F)):List (Nat×Option (Blk F))→List (Nat×Blk F)
 | []=>M
 | (id,none)::r=>setM (M.filter λp=>!(Nat.beq id p.1)) r
 | (id,some B)::r=>setM ((id,B)::M.filter λp=>!(Nat.beq id p.1)) r
section
variable(T:TypeId→Option (TI F))(Γ : Ctx F)(nv n:Nat)
def dirty(dE:List Nat):Option Nat→List Nat
 | some x=>if Nat.blt x nv then x::dE else dE
 | none=>dE
variable{R:Type}
def tAppN(vals:List (Dat F))(mm:Nat→Option (Blk F))(c:Nat)(K:Res F→Option R)(o:Op)(id sz i off:Nat):Option R:=
 match mm id with
 | some (.nrow t l)=>if sz=szT F t then(l[i]?).bind λx=>match(encT F t x)[off]? with
  | some (.sl t2 l2)=>tOp T Γ (.c (.wsl (c+1))::vals.tail) (updM mm (takeW id c t l i [off] [.row t2 l2])) (c+2) (λr=>K ⟨r.val,takeW id c t l i [off] [.row t2 l2]++r.mw,2+r.nu⟩) o
  | _=>none
  else none
 | _=>none
def tStoN(mm:Nat→Option (Blk F))(c:Nat)(K:Res F→Option R)(ty:TypeId)(id sz i off:Nat)(v:Dat F)(t:Ty)(l:List (ET F t))(i0:Nat)(ks:List Nat):Option R:=
 match T ty with
 | none=>none
 | some ti=>match dt mm v.cells with
  | none=>none
  | some (ds,os)=>
   if ds.length=ti.size&&sz == szT F t&&Nat.ble (off+ds.length) (szT F t)&&Nat.blt 0 ds.length&&cA (id::somes os)&&ks.all (λq=>Nat.ble off q&&Nat.blt q (off+ds.length))then
    cond (ks.isEmpty||Nat.beq i i0) ((l[i]?).bind λx=>match decT F t ((encT F t x).take off++ds++(encT F t x).drop (off+ds.length))with
     | some y=>K { val:=.c .any,mw:=putW id c l.length os (.nrow t (l.set i y)),nu:=1 }
     | none=>none) none
   else none
def tStoM(mm:Nat→Option (Blk F))(c:Nat)(K:Res F→Option R)(ty:TypeId)(id sz i off:Nat)(v:Dat F)(t:Ty)(l:List (ET F t))(j:Nat):Option R:=
 match T ty with
 | none=>none
 | some ti=>match dt mm v.cells with
  | none=>none
  | some (ds,os)=>
   if ds.length=ti.size&&sz == szT F t&&Nat.ble (off+ds.length) (szT F t)&&Nat.blt 0 ds.length&&cA (id::somes os)then
    cond (Nat.beq i j) ((l[i]?).bind λx=>
     if((encT F t x).take off++(encT F t x).drop (off+ds.length)).all NID.flat then
      match decT F t ((encT F t x).take off++ds++(encT F t x).drop (off+ds.length))with
      | some y=>K { val:=.c .any,mw:=putW id c l.length os (.mrow t (l.set i y) (j+1)),nu:=1 }
      | none=>none
     else none) none
   else none
def Dr(c:Nat)(K:Res F→Option R)(ty:TypeId)(id sz i off:Nat)(t:Ty)(l:List (ET F t)):Option R:=
 match T ty with
 | none=>none
 | some ti=>if sz == szT F t&&dl ti.desc then(l[i]?).bind λx=>
   if(((encT F t x).drop off).take ti.size).all NID.flat then pK (dn ti ((encT F t x).map λd=>cond d.flat (.im d) .one) off) (λr=>K r)
   else if(encT F t x).all NID.okN then match dn ti (takeC F (c+1) (encT F t x)) off with
    | some d=>K { val:=d,mw:=takeW id c t l i ((bj F 0 (encT F t x)).map (·.1)) ((bj F 0 (encT F t x)).map (·.2)),nu:=1+(bj F 0 (encT F t x)).length }
    | none=>none
   else none
  else none
def CZ(K:Res F→Option R)(ty:TypeId)(sz i off:Nat)(t:Ty)(l:List (ET F t))(j:Nat):Option R:=
 match T ty with
 | none=>none
 | some ti=>if sz == szT F t then cond (Nat.ble j i) ((l[i]?).bind λx=>pK (dn ti ((encT F t x).map .im) off) (λr=>K r)) none else none
def tOpN(vals:List (Dat F))(mm:Nat→Option (Blk F))(c:Nat)(K:Res F→Option R)(o:Op):Option R:=
 match o,vals with
 | .call ⟨.builtin .append,_,_⟩,.c (.nsl id sz i off)::_=>tAppN T Γ vals mm c K o id sz i off
 | .store ty _ _,[.c (.pel id sz i off),v]=>match mm id with
  | some (.nrow t l)=>tStoN T mm c K ty id sz i off v t l 0 []
  | some (.lrow t l i0 ks)=>tStoN T mm c K ty id sz i off v t l i0 ks
  | some (.mrow t l j)=>tStoM T mm c K ty id sz i off v t l j
  | _=>tOp T Γ vals mm c K o
 | .load ty _,[.c (.pel id sz i off)]=>match mm id with
  | some (.nrow t l)=>match T ty with
   | some ti=>if dl ti.desc then Dr T c K ty id sz i off t l else tOp T Γ vals mm c K o
   | none=>none
  | some (.mrow t l j)=>CZ T K ty sz i off t l j
  | _=>tOp T Γ vals mm c K o
 | .indexAddr ty _ _,[.c (.wsl id),.c (.im (.i _ n))]=>match mm id with
  | some (.als _ len)=>match T ty with
   | some ⟨.slice e,_,_,_,_,_⟩=>match T e with
    | some te=>(inb n len).bind λi=>K { val:=.c (.pel id te.size i 0) }
    | none=>none
   | _=>none
  | _=>tOp T Γ vals mm c K o
 | _,_=>tOp T Γ vals mm c K o
def tOpA(vals:List (Dat F))(mm:Nat→Option (Blk F))(c:Nat)(K:Res F→Option R)(o:Op):Option R:=
 match o with
 | .indexAddr _ _ _=>tOpN T Γ vals mm c K o
 | o=>tOpN T Γ (vals.map (resD mm)) mm c K o
def tGo(o:Oper)(gs:List Nat)(s:TS F)(recs:List Rec)(K:TS F→List Rec→Option R):Option R:=
 let vals:=o.op.operands.toList.map (opd (look s.E))
 let tm:=ES (look s.M) o.op vals
 tOpA T Γ vals (restr (look s.M) tm) s.c (λres=>
  if(match o.dst with | some d=>Nat.blt d n | none=>true)then
   K ⟨putE s.E o.dst res.val,setM s.M res.mw,s.c+res.nu,dirty nv s.dE o.dst,res.mw.map (·.1)++s.dM⟩
    (recs++[⟨gs++r9 o.op.operands.toList,o.dst,tm,res.mw.map (·.1),ancOf recs (edgesOn o.after.toList)⟩])
  else none) o.op
def tSkip(o:Oper)(gs:List Nat)(s:TS F)(recs:List Rec)(K:TS F→List Rec→Option R):Option R:=
 if(match o.dst with | some d=>Nat.blt d n | none=>true)then
  K ⟨putE s.E o.dst (.tup []),s.M,s.c,dirty nv s.dE o.dst,s.dM⟩ (recs++[⟨gs,o.dst,[],[],ancOf recs (edgesOn o.after.toList)⟩])
 else none
def tStep(ops:List Oper)(o:Oper)(s:TS F)(recs:List Rec)(K:TS F→List Rec→Option R):Option R:=
 match o.guard with
 | none=>tGo T Γ nv n o [] s recs K
 | some (j,want)=>match dstOf ops j with
  | none=>none
  | some d=>match look s.E d with
   | some (.c (.im (.b x)))=>
    cond x
     (let s':TS F:=⟨(d,.c (.im (.b true)))::s.E,s.M,s.c,s.dE,s.dM⟩
      if want then tGo T Γ nv n o [d] s' recs K else tSkip nv n o [d] s' recs K)
     (let s':TS F:=⟨(d,.c (.im (.b false)))::s.E,s.M,s.c,s.dE,s.dM⟩
      if want then tSkip nv n o [d] s' recs K else tGo T Γ nv n o [d] s' recs K)
   | some (.tup [])=>tSkip nv n o [d] s recs K
   | _=>none
def tOps(ops:List Oper):List Oper→TS F→List Rec→(TS F→List Rec→Option R)→Option R
 | [],s,recs,K=>K s recs
 | o::l,s,recs,K=>tStep T Γ nv n ops o s recs λs' recs'=>tOps ops l s' recs' K
def uk(kp:List Nat):List (Nat×Dat F)→List Nat→(List (Nat×Dat F)→Option R)→Option R
 | [],_,K=>K []
 | (x,d)::r,seen,K=>if(Nat.blt x nv||memN x kp)&&!(memN x seen)then uk kp r (x::seen) λr'=>K ((x,d)::r')else uk kp r seen K
def A9:List Oper→List Nat
 | []=>[]
 | [o]=>o.dst.toList
 | _::l=>A9 l
def tReg(kp:List Nat)(ops:List Oper)(draw:Bool)(s:TS F)(K:TS F→Option R):Option R:=
 tOps T Γ nv n ops ops s [] λs' recs=>
  if(if draw then uf 0 ops&&wo recs recs else true)then
   uk nv (A9 ops++kp) s'.E [] λE'=>K ⟨E',s'.M,s'.c,s'.dE,s'.dM⟩
  else none
end
abbrev Ks:=List (Nat×Kd)
section
variable(F:Fam)
@[reducible] def TLS:Ks→Type
 | []=>Unit
 | [k]=>k.2.El F
 | k::l::r=>k.2.El F×TLS (l::r)
@[reducible] def ExT:List (Nat×Ks)→Type
 | []=>Empty
 | [x]=>TLS F x.2
 | x::y::r=>TLS F x.2 ⊕ ExT (y::r)
end
inductive Hint where
 | z
 | s (a b:Hint)
 | c (a b:Hint)
 | b (a:Hint)
 | r (kp:List Nat)
 | l (ks:Ks) (dr:List Nat) (xs:List (Nat×Ks)) (a:Hint)
 | j (dr:List Nat) (xs:List (Nat×Ks)) (a:Hint)
 | u (n:Nat) (a:Hint)
 | g (ks:Ks) (dr:List Nat) (a:Hint)
 | p (a b:Hint)
 | m (x ix ex:Nat) (dr:List Nat) (a:Hint)
def Hint.isL:Hint→Bool
 | .l _ _ _ _=>true
 | _=>false
def keysOf(ks:Ks):List Nat:=ks.map (·.1)
def keysX(xs:List (Nat×Ks)):List Nat:=xs.flatMap λx=>keysOf x.2
section
variable(T:TypeId→Option (TI F))(Γ : Ctx F)(nv n:Nat)
def slOf:List Nat→Option Nat
 | []=>none
 | x::_=>if Nat.ble 5000 x then some (x - 5000)else none
def bxD(ow:List Nat)(id:Nat):Dat F:=match slOf ow with | some n=>.c (.bsl id n) | none=>.c (.ptr id 0)
def toPtr:Dat F→Dat F
 | .c (.bsl id _)=>.c (.ptr id 0)
 | d=>d
def dI(k:Kd)(d:Option (Dat F)):Option Nat:=
 match k,d with
 | .box _ ow,some (.c (.ptr id 0))=>match slOf ow with | none=>some id | some _=>none
 | .box _ ow,some (.c (.bsl id n))=>match slOf ow with | some m=>if Nat.beq n m then some id else none | none=>none
 | .row t arr,some d=>AG t arr d
 | _,_=>none
def A0(s0 s:TS F)(x:Nat)(k:Kd):Option (Pk (k.El F)):=
 match dI k (look s0.E x)with
 | some id=>match look s.E x with
  | none=>none
  | some d=>match dI k (some d)with
   | some id'=>if Nat.beq id id' then packK Γ (look s.M) k (toPtr d)else none
   | none=>none
 | none=>match look s.E x with
  | none=>none
  | some d=>packK Γ (look s.M) k d
def packS(s0 s:TS F):(ks:Ks)→Option (Pk (TLS F ks))
 | []=>some ⟨(),[],[],[]⟩
 | [k]=>A0 Γ s0 s k.1 k.2
 | k::l::r=>match A0 Γ s0 s k.1 k.2 with
   | none=>none
   | some p=>match packS s0 s (l::r)with
    | none=>none
    | some q=>some ⟨(p.x,q.x),p.os++q.os,p.fz++q.fz,p.bx++q.bx⟩
def unpB(id:Nat):(k:Kd)→k.El F→Nat→Dat F×List (Nat×Blk F)×Nat
 | .box t ow,x,c=>match layC ow 0 c (encT F t x)with
  | (cs,bs,c')=>(bxD ow id,(id,.box cs)::bs,c')
 | .row t arr,x,c=>(datOf t arr id,[(id,blkX t x)],c)
 | _,_,c=>(.c .any,[],c)
def unpS1(E0:List (Nat×Dat F))(x:Nat)(k:Kd)(v:k.El F)(c:Nat):Dat F×List (Nat×Blk F)×Nat:=
 match dI k (look E0 x)with
 | some id=>unpB id k v c
 | none=>unpK k v c
def unpS(E0:List (Nat×Dat F)):(ks:Ks)→TLS F ks→Nat→List (Nat×Dat F)×List (Nat×Blk F)×Nat
 | [],_,c=>([],[],c)
 | [k],a,c=>match unpS1 E0 k.1 k.2 a c with
  | (d,bs,c')=>([(k.1,d)],bs,c')
 | k::l::r,a,c=>match unpS1 E0 k.1 k.2 a.1 c with
  | (d,bs,c')=>match unpS E0 (l::r) a.2 c' with
   | (ds,bs',c'')=>((k.1,d)::ds,bs++bs',c'')
def aG(s:TS F)(xs:List Nat):List Nat:=reach (look s.M) (xs.flatMap λx=>match look s.E x with | some d=>d.ids | none=>[])
def idsOk(c0:Nat)(kill:List Nat)(l:List Nat):Bool:=l.all λid=>Nat.ble c0 id||memN id kill
def packX(s0:TS F)(dr:List Nat)(c0:Nat)(kill:List Nat)(ks:Ks)(s:TS F):Option (TLS F ks):=
 if s.dE.all (λx=>memN x dr)&&idsOk c0 kill s.dM then
  match packS Γ s0 s ks with
  | none=>none
  | some p=>if cA (somes p.os)&&disjN (somes p.os) p.fz&&idsOk c0 kill (somes p.os)&&idsOk c0 kill p.fz then some p.x else none
 else none
def finX(s0:TS F)(dr:List Nat)(c0:Nat)(kill:List Nat):(xs:List (Nat×Ks))→Nat→TS F→Option (ExT F xs)
 | [],_,_=>none
 | [x],e,s=>if Nat.beq x.1 e then packX Γ s0 dr c0 kill x.2 s else none
 | x::y::r,e,s=>if Nat.beq x.1 e then(match packX Γ s0 dr c0 kill x.2 s with | some v=>some (.inl v) | none=>none)else(match finX s0 dr c0 kill (y::r) e s with | some v=>some (.inr v) | none=>none)
def merge(dr:List Nat)(kill:List Nat)(s:TS F)(ks:Ks)(v:TLS F ks):TS F:=
 match unpS s.E ks v s.c with
 | (es,bs,c')=>⟨es++s.E.filter (λp=>Nat.blt p.1 nv&&!(memN p.1 dr)),bs++s.M.filter (λp=>!(memN p.1 kill)),c',dr++s.dE,kill++s.dM⟩
def clean(s:TS F):TS F:=⟨s.E,s.M,s.c,[],[]⟩
def elimX{R:Type}(K:(e:Nat)→(ks:Ks)→TLS F ks→Option R):(xs:List (Nat×Ks))→ExT F xs→Option R
 | []=>λ_=>none
 | [x]=>λv=>K x.1 x.2 v
 | x::y::r=>λv=>match v with
  | .inl a=>K x.1 x.2 a
  | .inr b=>elimX K (y::r) b
end
end
def iter{τ σ : Type}(step:τ→Option (τ ⊕ σ)):Nat→τ→Option σ
 | 0,_=>none
 | n+1,t=>match step t with
  | none=>none
  | some (.inl t')=>iter step n t'
  | some (.inr r)=>some r
noncomputable def loop{τ σ : Type}(step:τ→Option (τ ⊕ σ))(t:τ):Option σ:=
 @dite _ (∃r n,iter step n t=some r) (Classical.propDecidable _) (λh=>some h.choose) (λ_=>none)
theorem xl{τ σ : Type}{step:τ→Option (τ ⊕ σ)}{r:σ}:∀{n:Nat}(k:Nat){t:τ},iter step n t=some r→iter step (n+k) t=some r
 | 0,_,_,h=>by simp[iter]at h
 | n+1,k,t,h=>by
  rw[Nat.add_right_comm];simp only[iter]at h ⊢;split at h
  ·cases h
  ·exact xl k h
  ·exact h
theorem Cf{τ σ : Type}{step:τ→Option (τ ⊕ σ)}{t:τ}{r:σ}(h:loop step t=some r):∃n,iter step n t=some r:=by
 unfold loop at h;split at h
 ·rename_i hx;cases h;exact hx.choose_spec
 ·cases h
theorem Gs{τ σ : Type}{step:τ→Option (τ ⊕ σ)}{t:τ}{r:σ}{n:Nat}(h:iter step n t=some r):loop step t=some r:=by unfold loop;have hx:∃r n,iter step n t=some r:=⟨r,n,h⟩;rw[dif_pos hx];obtain⟨m,hm⟩:=hx.choose_spec;have h1:=xl m h;have h2:=xl n hm;rw[Nat.add_comm]at h2;rw[h1]at h2;cases h2;rfl
def rngOk{τ α ω : Type}(step:ω→τ→α→Option τ)(l:List α):Nat→List Nat→τ→τ→Prop
 | 0,_,t,r=>t=r
 | m+1,seen,t,r=>∀k x,k∉seen→l[k]? = some x→∃t',(∀ob,step ob t x=some t')∧rngOk step l m (seen++[k]) t' r
noncomputable def rng{τ α ω : Type}(t0:ω→Option τ)(step:ω→τ→α→Option τ)(l:List α):Option τ:=
 @dite _ (∃r t,(∀ob,t0 ob=some t)∧rngOk step l l.length [] t r) (Classical.propDecidable _) (λh=>some h.choose) (λ_=>none)
theorem Ia{τ α ω : Type}{t0:ω→Option τ}{step:ω→τ→α→Option τ}{l:List α}{r:τ}(h:rng t0 step l=some r):∃t,(∀ob,t0 ob=some t)∧rngOk step l l.length [] t r:=by
 unfold rng at h;split at h
 ·rename_i hx;cases h;exact hx.choose_spec
 ·cases h
structure RgS where
 a:Nat
 b:Nat
 it:Nat
 d1:Nat
 d3:Nat
 ty:TypeId
 rest:List Oper
def Bv(n:Nat)(ops0 ops1 ops2:List Oper)(c2:Nat):Option RgS:=
 match ops0,ops1,ops2 with
 | [⟨some b,.move (.tmp a),_,_,_,none⟩,⟨some it,.range ty (.tmp b'),_,_,_,none⟩],[⟨some d1,.next (.tmp it') false,_,_,_,none⟩,⟨some c2',.extract (.tmp d1') 0,_,_,_,none⟩],⟨some d3,.entry (.tmp it''),_,_,_,none⟩::rest=>
  if Nat.beq b' b&&Nat.beq it' it&&Nat.beq c2' c2&&Nat.beq d1' d1&&Nat.beq it'' it&&Nat.blt b n&&Nat.blt it n&&Nat.blt d1 n&&Nat.blt c2 n&&Nat.blt d3 n&&!(Nat.beq it b)&&!(Nat.beq it d1)&&!(Nat.beq it c2)&&!(Nat.beq it d3)&&!(Nat.beq c2 d1)then some ⟨a,b,it,d1,d3,ty,rest⟩else none
 | _,_,_=>none
structure RgC where
 ops0:Array Oper
 ops1:Array Oper
 ops2:Array Oper
 i:Nat
 i':Nat
 j:Nat
 c2:Nat
 body:Code
def Dq:Code→Option RgC
 | .seq (.region _ ops0 false) (.block i (.loop (.seq (.region _ ops1 false) (.seq (.cond (.tmp c2) .skip (.exit i')) (.block j (.seq (.region _ ops2 false) body))))))=>some ⟨ops0,ops1,ops2,i,i',j,c2,body⟩
 | _=>none
section
variable{F:Fam}(T:TypeId→Option (TI F))(Γ : Ctx F)(nv n:Nat)
def itB(s:TS F)(it:Nat)(ob:Obj):TS F:=⟨(it,.c (.ptr s.c 0))::s.E,(s.c,.it ob)::s.M,s.c+1,[],[]⟩
def itC(s:TS F)(it:Nat):TS F:=⟨(it,.c .any)::s.E,s.M,s.c+1,it::s.dE,s.dM⟩
def DB(s:TS F)(dr:List Nat)(kill:List Nat)(ks:Ks)(h:RgS)(c2:Nat)(ob:Obj)(t:TLS F ks)(kd:ND F)(d:Dat F):TS F:=
 let m:=merge nv dr kill (itB s h.it ob) ks t
 ⟨(h.d3,.tup [.c (.im kd),d])::(c2,.c (.im (.b true)))::(h.d1,.tup [.c (.im (.b true)),.c (.im kd),d])::m.E,m.M,m.c,[],[]⟩
noncomputable def Ds(f:TS F→{R:Type}→(Nat→TS F→Option R)→Option R)(ops0 ops1 ops2:List Oper)(j c2:Nat)(ks:Ks)(dr:List Nat)(s:TS F){R:Type}(K:Nat→TS F→Option R):Option R:=
 match Bv n ops0 ops1 ops2 c2 with
 | none=>none
 | some h=>match look s.E h.a with
  | some (.c (.mpc mid))=>match look s.M mid with
   | some (.mp tt l)=>match mapTy T h.ty with
    | none=>none
    | some _=>
     if Nat.blt mid s.c&&!(memN mid (aG s dr))&&!(memN s.c (aG s dr))&&Nat.blt h.it nv&&!(memN h.it dr) && [h.b,h.d1,c2,h.d3].all (λx=>Nat.ble nv x||memN x dr) && [h.b,h.d1,c2].all (λx=>!(memN x (keysOf ks)))&&tt.isMp then
      (rng (λob=>packX Γ (itB s h.it ob) dr (s.c+1) (aG s dr) ks (itB s h.it ob))
       (λob t x=>match encT F tt x,ur tt x with
        | kd::_,some d=>tOps T Γ nv n ops2 h.rest (DB nv s dr (aG s dr) ks h c2 ob t kd d) [] λs2 _=>uk nv (A9 ops2) s2.E [] λE'=>f ⟨E',s2.M,s2.c,s2.dE,s2.dM⟩ λe s'=>
         if Nat.beq e 0||Nat.beq e (j+2)then packX Γ (itB s h.it ob) dr (s.c+1) (aG s dr) ks s' else none
        | _,_=>none) l).bind λv=>K 0 (merge nv dr (aG s dr) (itC s h.it) ks v)
     else none
   | _=>none
  | _=>none
def tAuto:Code→TS F→{R:Type}→(Nat→TS F→Option R)→Option R
 | .skip,s,_,K=>K 0 s
 | .exit i,s,_,K=>K (i+2) s
 | .ret,s,_,K=>K 1 s
 | .region _ ops draw,s,_,K=>tReg T Γ nv n [] ops.toList draw s (K 0)
 | .seq a b,s,_,K=>tAuto a s λe s'=>match e with | 0=>tAuto b s' K | e=>K e s'
 | .cond (.tmp t) a b,s,_,K=>match look s.E t with
  | some (.c (.im (.b x)))=>cond x (tAuto a s K) (tAuto b s K)
  | _=>none
 | .cond (.const (.bool x)) a b,s,_,K=>cond x (tAuto a s K) (tAuto b s K)
 | .block i a,s,_,K=>tAuto a s λe s'=>if Nat.beq e (i+2)then K 0 s' else K e s'
 | .scope a,s,_,K=>tAuto a s K
 | .label _,s,_,K=>K 0 s
 | _,_,_,_=>none
def unr(f:TS F→{R:Type}→(Nat→TS F→Option R)→Option R):Nat→TS F→{R:Type}→(Nat→TS F→Option R)→Option R
 | 0,_,_,_=>none
 | n+1,s,_,K=>f s λe s'=>match e with | 0=>unr f n s' K | e=>K e s'
def AE(id:Nat)(s:TS F):TS F:=match look s.M id with
 | some (.nrow t l)=>⟨s.E,setM s.M [(id,none),(s.c,some (.nrow t l)),(id,some (.als s.c l.length))],s.c+1,s.dE,id::s.c::s.dM⟩
 | _=>s
def kU:List Nat→TS F→TS F
 | [],s=>s
 | x::r,s=>kU r (cond (Nat.ble 10000 x) (AE (x - 10000) s) s)
def headM(nv:Nat)(s:TS F)(id ix:Nat)(dr:List Nat)(B:Blk F)(len:Nat)(n:Int):TS F:=
 ⟨(ix,.c (.im (.i .i64 n)))::s.E.filter (λp=>Nat.blt p.1 nv&&!(memN p.1 (ix::dr))),(id,.als s.c len)::(s.c,B)::s.M.filter (λp=>!(Nat.beq id p.1)),s.c+1,ix::(dr++s.dE),id::s.dM⟩
def endM(c0 id ix:Nat)(dr:List Nat)(t:Ty)(s:TS F):Option (List (ET F t)×Nat×Int):=
 if s.dE.all (λx=>memN x (ix::dr))&&s.dM.all (λy=>Nat.ble c0 y||Nat.beq y id)then
  match look s.E ix with
  | some (.c (.im (.i .i64 n)))=>match look s.M id with
   | some (.als k _)=>match look s.M (resF (look s.M) 8 k)with
    | some (.mrow t' l j)=>if h:t'=t then(if Nat.ble c0 (resF (look s.M) 8 k)then some (h▸l,j,n)else none)else none
    | _=>none
   | _=>none
  | _=>none
 else none
noncomputable def tRun:Hint→Code→TS F→{R:Type}→(Nat→TS F→Option R)→Option R
 | .z,c,s,_,K=>tAuto T Γ nv n c s K
 | .r kp,.region _ ops draw,s,_,K=>tReg T (cond (memN 9998 kp) (mark Γ) Γ) nv n kp ops.toList draw (kU kp s) (K 0)
 | .s h k,.seq a b,s,_,K=>tRun h a s λe s'=>match e with | 0=>tRun k b s' K | e=>K e s'
 | .c h k,.cond (.tmp t) a b,s,_,K=>match look s.E t with
  | some (.c (.im (.b x)))=>cond x (tRun h a s K) (tRun k b s K)
  | _=>none
 | .c h k,.cond (.const (.bool x)) a b,s,_,K=>cond x (tRun h a s K) (tRun k b s K)
 | .b h,.block i a,s,_,K=>tRun h a s λe s'=>if Nat.beq e (i+2)then K 0 s' else K e s'
 | .b h,.scope a,s,_,K=>tRun h a s K
 | .u k h,.loop a,s,_,K=>unr (λs _ K=>tRun h a s K) k s K
 | .p h k,.loop a,s,_,K=>cond k.isL (tRun h a s λe s'=>match e with | 0=>tRun k (.loop a) s' K | e=>K e s') none
 | .j dr xs h,c,s,_,K=>
  let dra:=dr++keysX xs
  let kill:=aG s dra
  (tRun h c (clean s) λe s'=>finX Γ s dra s.c kill xs e s').bind λv=>elimX (λe ks x=>K e (merge nv dra kill s ks x)) xs v
 | .l ks dr xs h,.loop a,s,_,K=>
  let dra:=dr++keysOf ks++keysX xs
  let kill:=aG s dra
  match packX Γ s dra s.c kill ks (clean s)with
  | none=>none
  | some t0=>(loop (λt:TLS F ks=>tRun h a (clean (merge nv dra kill s ks t)) λe s'=>match e with
    | 0=>(match packX Γ s dra s.c kill ks s' with | some t'=>some (Sum.inl t') | none=>none)
    | e=>(match finX Γ s dra s.c kill xs e s' with | some v=>some (Sum.inr v) | none=>none)) t0).bind λv=>elimX (λe ks x=>K e (merge nv dra kill s ks x)) xs v
 | .m x ix ex dr h,.loop a,s,_,K=>match look s.E x with
  | some (.c (.wsl id))=>match look s.M id with
   | some (.row t l0)=>match look s.E ix with
    | some (.c (.im (.i .i64 n0)))=>if Nat.blt id s.c&&Nat.blt 0 ex then
      (loop (λq:List (ET F t)×Nat×Int=>tRun h a (clean (headM nv s id ix dr (.mrow t q.1 q.2.1) q.1.length q.2.2)) λe s'=>match e with
       | 0=>(match endM s.c id ix dr t s' with | some q'=>some (Sum.inl q') | none=>none)
       | e=>if Nat.beq e ex then(match endM s.c id ix dr t s' with | some q'=>some (Sum.inr q') | none=>none)else none) (l0,0,n0)).bind λv=>
        cond (Nat.ble v.1.length v.2.1) (K ex (headM nv s id ix dr (.nrow t v.1) v.1.length v.2.2)) none
     else none
    | _=>none
   | _=>none
  | _=>none
 | .g ks dr h,c,s,_,K=>match Dq c with
  | none=>none
  | some q=>if Nat.beq q.i' q.i then Ds T Γ nv n (λs _ K=>tRun h q.body s K) q.ops0.toList q.ops1.toList q.ops2.toList q.j q.c2 ks (dr++keysOf ks) s K else none
 | _,_,_,_,_=>none
def params:Nat→List (Dat F)→List (Nat×Dat F)
 | _,[]=>[]
 | k,d::l=>(k,d)::params (k+1) l
def resV(s:TS F):ResultVar→Option (Dat F)
 | .tmp t=>look s.E t
 | .cell a ty=>match T ty with
  | none=>none
  | some ti=>match look s.E a with
   | some (.c (.ptr id off))=>match look s.M id with
    | some (.box cs)=>dn ti cs off
    | _=>none
   | _=>none
def resVs(s:TS F):List ResultVar→Option (List (Dat F))
 | []=>some []
 | r::l=>match resV T s r with
  | none=>none
  | some d=>match resVs s l with
   | none=>none
   | some ds=>some (d::ds)
def bS(mm:Nat→Option (Blk F)):(ks:List Kd)→List (Dat F)→List Nat→Option (Pk (TL F ks))
 | [],[],[]=>some ⟨(),[],[],[]⟩
 | [.box t ow],[],[b]=>lB mm t (oo ow) (.c (.ptr b 0))
 | .box t ow::l::ks,ds,b::bx=>match lB mm t (oo ow) (.c (.ptr b 0))with
  | none=>none
  | some p=>match bS mm (l::ks) ds bx with
   | none=>none
   | some q=>some ⟨(p.x,q.x),p.os++q.os,p.fz++q.fz,p.bx++q.bx⟩
 | [.row t _],[],[b]=>tZ mm t b
 | .row t _::l::ks,ds,b::bx=>match tZ mm t b with
  | none=>none
  | some p=>match bS mm (l::ks) ds bx with
   | none=>none
   | some q=>some ⟨(p.x,q.x),p.os++q.os,p.fz++q.fz,p.bx++q.bx⟩
 | [k],[d],[]=>packK Γ mm k d
 | k::l::ks,d::ds,bx=>match packK Γ mm k d with
  | none=>none
  | some p=>match bS mm (l::ks) ds bx with
   | none=>none
   | some q=>some ⟨(p.x,q.x),p.os++q.os,p.fz++q.fz,p.bx++q.bx⟩
 | _,_,_=>none
def packR(fn:Func)(ks rs:List Kd)(a:HL F ks)(s:TS F):Option (TL F (rs++ks.filter Kd.isBox)):=
 match resVs T s fn.results.toList with
 | none=>none
 | some rd=>match bS Γ (look s.M) (rs++ks.filter Kd.isBox) rd (aK ks a 0)with
  | none=>none
  | some p=>if cA (somes p.os)&&disjN (somes p.os) p.fz then some p.x else none
noncomputable def tFunc(fn:Func)(h:Hint)(ks rs:List Kd)(a:HL F ks):Option (TL F (rs++ks.filter Kd.isBox)):=
 match fn.body with
 | none=>none
 | some body=>match unpHL ks a 0 with
  | (ds,bs,c)=>if Dl ks then tRun T Γ nv fn.ntmps h body ⟨params 0 (entL ks a ds),bs,c,[],[]⟩ λe s=>
   match e with
   | 0 | 1=>packR T Γ fn ks rs a s
   | _=>none
   else none
end
set_option linter.unusedVariables false
set_option linter.unusedSimpArgs false
structure EqOk(P:Program)(t:TypeId):Prop where
 a:P.stoodInHeld t=false
 b:P.eqGuardType P.depth t=false
section
variable{F:Fam}
def aggV:Value→Bool
 | .agg _=>true
 | _=>false
structure TblOk(P:Program)(T:TypeId→Option (TI F)):Prop where
 und:∀t i,T t=some i→P.underlying t=some i.desc
 info:∀t i,T t=some i→∃j,P.info? t=some j∧j.size=i.size∧j.bytes=i.bytes∧∃z,j.zero=some z∧z.cells.size=i.size∧i.zero.length=i.size∧
  ∀(w:World)(imm:Nat→Prop)(k:Nat)(d:ND F) (x:Value),i.zero[k]? = some d→z.cells[k]? = some x→RepI w imm d x
 eq:∀t i,T t=some i→i.eq=true→EqOk P t
 ty:∀t i tt,T t=some i→i.ty=some tt→szT F tt=i.size
 zag:∀t i j z,T t=some i→P.info? t=some j→j.zero=some z→aggV z=dl i.desc
section inv
variable{P:Program}{g:G}{w:World}{v:Value}
theorem bE{k:IntKind}{n:Int}(h:RepD (F:=F) P g w (.c (.im (.i k n))) v):v = .int k n:=by cases h with | c h=>cases h with | im h=>cases h;rfl
theorem qF{x:Bool}(h:RepD (F:=F) P g w (.c (.im (.b x))) v):v = .bool x:=by cases h with | c h=>cases h with | im h=>cases h;rfl
theorem x_{l:List UInt8}(h:RepD (F:=F) P g w (.c (.im (.s l))) v):v = .string ⟨⟨l⟩⟩:=by cases h with | c h=>cases h with | im h=>cases h;rfl
theorem pn(h:RepD (F:=F) P g w (.c (.im .nl)) v):∃p,v = .slice p 0 0:=by cases h with | c h=>cases h with | im h=>cases h;exact⟨_,rfl⟩
theorem IM{x:Value}(h:RepD (F:=F) P g w (.c (.im (.v x))) v):v=x:=by cases h with | c h=>cases h with | im h=>cases h;rfl
theorem IX{cs:List (ND F)}(h:RepD (F:=F) P g w (.c (.ppt cs)) v):∃(b o b2 o2:Nat)(f:Nat→Value),g.imm b∧w.cell? ⟨b,o,none⟩=some (.pointer (some ⟨b2,o2,none⟩))∧g.imm b2∧v = .pointer (some ⟨b,o,none⟩)∧(∀k d,cs[k]? = some d→w.cell? ⟨b2,o2+k,none⟩=some (f k))∧∀k d,cs[k]? = some d→RepI w g.imm d (f k):=by
 cases h with | c h=>cases h with | ppt _ b o b2 o2 f hb hv hb2 hc hr=>exact⟨b,o,b2,o2,f,hb,hv,hb2,rfl,hc,hr⟩
theorem A_{id n:Nat}(h:RepD (F:=F) P g w (.c (.bsl id n)) v):∃b c,g.ids id=some (some (b,c))∧n≤maxLen∧v = .slice (some ⟨b,0,none⟩) n n:=by
 cases h with | c h=>cases h with | bsl h hm=>exact⟨_,_,h,hm,rfl⟩
theorem bh{id off:Nat}(h:RepD (F:=F) P g w (.c (.ptr id off)) v):∃b c,g.ids id=some (some (b,c))∧v = .pointer (some ⟨b,off,none⟩):=by
 cases h with | c h=>cases h with | ptr h=>exact⟨_,_,h,rfl⟩
theorem d9{id sz i off:Nat}(h:RepD (F:=F) P g w (.c (.pel id sz i off)) v):∃b c,g.ids id=some (some (b,c))∧v = .pointer (some ⟨b,i*sz+off,none⟩):=by
 cases h with | c h=>cases h with | pel h=>exact⟨_,_,h,rfl⟩
theorem IZ{id sz i off:Nat}(h:RepD (F:=F) P g w (.c (.nsl id sz i off)) v):∃(b c:Nat)(n:Nat×NS)(pl:Option (Nat×Nat×Nat)),g.ids id=some (some (b,c,n))∧n.2[i*sz+off]? = some pl∧OwnV (lift1 pl) v:=by
 cases h with | c h=>cases h with | nsl h h1 h2=>exact⟨_,_,_,_,h,h1,h2⟩
theorem E1{id sz i off sz' j off':Nat}(h:RepD (F:=F) P g w (.c (.nel id sz i off sz' j off')) v):∃(b c:Nat)(n:Nat×NS)(b':Nat)(c':Nat×Nat),g.ids id=some (some (b,c,n))∧n.2[i*sz+off]? = some (some (b',c'))∧v = .pointer (some ⟨b',j*sz'+off',none⟩):=by
 cases h with | c h=>cases h with | nel h h1=>exact⟨_,_,_,_,_,h,h1,rfl⟩
theorem uw{cs:List (ND F)}{off:Nat}(h:RepD P g w (.c (.pt cs off)) v):∃(b o:Nat)(f:Nat→Value),g.imm b∧v = .pointer (some ⟨b,o+off,none⟩)∧
  (∀k d,cs[k]? = some d→w.cell? ⟨b,o+k,none⟩=some (f k))∧(∀k d,cs[k]? = some d→RepI w g.imm d (f k)):=by
 cases h with | c h=>cases h with | pt _ _ b o f hb hc hr=>exact⟨b,o,f,hb,rfl,hc,hr⟩
theorem n9{cs:List (Cel F)}(h:RepD P g w (.agg cs) v):∃vs:List Value,v = .agg ⟨vs⟩∧vs.length=cs.length∧∀(k:Nat)(c:Cel F)(x:Value),cs[k]? = some c→vs[k]? = some x→RepC g w c x:=by
 cases h with | agg hl h=>exact⟨_,rfl,hl,h⟩
theorem E9{ds:List (Dat F)}(h:RepD P g w (.tup ds) v):∃vs:List Value,v = .tuple ⟨vs⟩∧vs.length=ds.length∧∀(k:Nat)(d:Dat F)(x:Value),ds[k]? = some d→vs[k]? = some x→RepD P g w d x:=by
 cases h with | tup hl h=>exact⟨_,rfl,hl,h⟩
theorem aO{x:Cel F}(h:RepD P g w (.c x) v):RepC g w x v:=by cases h with | c h=>exact h
theorem wA{d:ND F}(h:RepD P g w (.c (.im d)) v):RepI w g.imm d v:=by cases h with | c h=>cases h with | im h=>exact h
theorem wV{t:Ty}{l:List (ET F t)}(h:RepI w g.imm (.sl t l) v):(l = []∧∃p,v = .slice p 0 0)∨
  ∃(b o cap:Nat)(f:Nat→Value),g.imm b∧l.length≤cap∧cap≤maxLen∧v = .slice (some ⟨b,o,none⟩) l.length cap∧
   (∀k d,(cells F t l)[k]? = some d→w.cell? ⟨b,o+k,none⟩=some (f k))∧(∀k d,(cells F t l)[k]? = some d→RepI w g.imm d (f k)):=by
 cases h with
 | sl0 t p=>exact .inl ⟨rfl,p,rfl⟩
 | sl t l b o cap f hb hcap hm hc hr=>exact .inr ⟨b,o,cap,f,hb,hcap,hm,rfl,hc,hr⟩
theorem mk_i(k:IntKind)(n:Int):RepD (F:=F) P g w (.c (.im (.i k n))) (.int k n):=.c (.im (.i k n))
theorem mk_b(x:Bool):RepD (F:=F) P g w (.c (.im (.b x))) (.bool x):=.c (.im (.b x))
theorem mk_s(l:List UInt8):RepD (F:=F) P g w (.c (.im (.s l))) (.string ⟨⟨l⟩⟩):=.c (.im (.s l))
theorem bT{d:ND F}{x:Value}(h:RepC g w (.im d) x):RepI w g.imm d x:=by cases h;assumption
end inv
theorem Ch(g:G)(w:World)(v:Value):RepC (F:=F) g w (celOf v) v:=by
 unfold celOf;split
 ·exact .im (.i _ _)
 ·exact .im (.b _)
 ·exact .im (.s _)
 ·exact .im (.nl _)
 ·exact .any
 ·exact .any
 ·refine .im (.v _ ?_)
  cases v<;>simp_all [Value.oneCell']
theorem GO(P:Program)(g:G)(w:World)(v:Value):RepD (F:=F) P g w (ofVal v) v:=by
 unfold ofVal;split
 ·rename_i cs
  refine .agg (by simp) ?_
  intro k c x h1 h2;rw[List.getElem?_map]at h1;rw[h2]at h1;simp only[Option.map_some,Option.some.injEq]at h1;subst h1;exact Ch g w x
 ·exact .c (Ch g w v)
theorem JP{P:Program}{g:G}{w:World}{e:Nat→Option (Dat F)}{a:Act}(h:∀x d,e x=some d→RepD P g w d (a.tmps.getD x undef))(x:Operand) :
  RepD P g w (opd e x) (a.eval x):=by
 cases x with
 | tmp t=>
  simp only[opd]
  cases ht:e t with
  | none=>exact .c .any
  | some d=>exact h t d ht
 | const v=>exact GO P g w v
 | global gl=>exact .c (.im (.v _ rfl))
 | func f=>exact .c (.im (.v _ rfl))
theorem Il{P:Program}{g:G}{w:World}{e:Nat→Option (Dat F)}{a:Act}(henv:∀x d,e x=some d→RepD P g w d (a.tmps.getD x undef))(l:List Operand):RepDs P g w (l.map (opd e)) (l.map a.eval):=by
 refine⟨by simp,?_⟩
 intro k d x h1 h2;rw[List.getElem?_map,Option.map_eq_some_iff]at h1 h2;obtain⟨p,hp,rfl⟩:=h1;obtain⟨q,hq,rfl⟩:=h2;rw[hp]at hq;cases hq;exact JP henv p
def Outc(P:Program)(own:Ow)(m:Nat→Option (Blk F))(u:Nat→Bool)(g:G)(w:World)(o:Oper)(a:Act)(c:Nat)(r:Res F):Prop:=
 ∀(next:Act→World→Prop)(Q:Exit→Act→World→Prop),
  (∀v w' g',RepD P g' w' r.val v→MemOk own g' w' (updM m r.mw)→Stp m g w g' w'→(∀id,u id=false→(id<c∨c+r.nu≤id)→g'.ids id=none)→next (a.put o.dst v) w')→
  o.wp P a w next Q
def MLe(mm m:Nat→Option (Blk F)):Prop:=∀id B,mm id=some B→m id=some B
theorem SameM.trans{x y:Nat}{p q r:Option Pl}(h:SameM x p q)(k:SameM y q r):SameM x p r:=by
 rcases h with⟨b,c,n,n',rfl,rfl,h3,h3'⟩ | ⟨rfl,rfl,h3⟩
 ·rcases k with⟨b',c',m,m',h4,rfl,h6,_⟩ | ⟨h4,_⟩
  ·cases h4;exact .inl ⟨_,_,_,_,rfl,rfl,h6.trans h3,h3'⟩
  ·cases h4
 ·rcases k with⟨b',c',m,m',h4,_⟩ | ⟨_,rfl,_⟩
  ·cases h4
  ·exact .inr ⟨rfl,rfl,h3⟩
section
variable{F:Fam}{own:Ow}{g:G}{w:World}{m mm:Nat→Option (Blk F)}
theorem xz(hm:MemOk own g w m)(hle:MLe mm m):∀(n id:Nat),resF mm n id=id∨∃k,SameM k (g.ids id) (g.ids (resF mm n id))
 | 0,id=>.inl rfl
 | n+1,id=>by
  simp only[resF];split
  ·rename_i k x hk;have h1:SameM x (g.ids id) (g.ids k):=hm.ok id _ (hle _ _ hk);rcases xz hm hle n k with h | ⟨_,h⟩
   ·rw[h];exact .inr ⟨_,h1⟩
   ·exact .inr ⟨_,h1.trans h⟩
  ·exact .inl rfl
theorem wZ(hm:MemOk own g w m)(hle:MLe mm m)(id:Nat):resI mm id=id∨∃k,SameM k (g.ids id) (g.ids (resI mm id)):=by
 unfold resI;split
 ·rename_i k x hk;have h1:SameM x (g.ids id) (g.ids k):=hm.ok id _ (hle _ _ hk);rcases xz hm hle 8 k with h | ⟨_,h⟩
  ·rw[h];exact .inr ⟨_,h1⟩
  ·exact .inr ⟨_,h1.trans h⟩
 ·exact .inl rfl
theorem za(hm:MemOk own g w m)(hle:MLe mm m){x:Cel F}{v:Value}(h:RepC g w x v):RepC g w (resC mm x) v:=by
 cases x with
 | wsl id=>
  simp only[resC];rcases wZ hm hle id with e | ⟨_,hs⟩
  ·rw[e];exact h
  ·rcases hs with⟨b,c,n,n',h1,h2,h3,_⟩ | ⟨h1,h2,_⟩
   ·cases h with
    | wsl0 p hi=>rw[h1]at hi;cases hi
    | wsl hi hl hm=>rw[h1]at hi;cases hi;rw[← h3]at hl ⊢;exact .wsl h2 hl hm
   ·cases h with
    | wsl0 p hi=>exact .wsl0 p h2
    | wsl hi hl hm=>rw[h1]at hi;cases hi
 | pel id sz i off=>
  simp only[resC];rcases wZ hm hle id with e | ⟨_,hs⟩
  ·rw[e];exact h
  ·rcases hs with⟨b,c,n,n',h1,h2,h3,_⟩ | ⟨h1,h2,_⟩
   ·cases h with | pel hi=>rw[h1]at hi;cases hi;exact .pel h2
   ·cases h with | pel hi=>rw[h1]at hi;cases hi
 | lsl id sz off len=>
  simp only[resC];rcases wZ hm hle id with e | ⟨_,hs⟩
  ·rw[e];exact h
  ·rcases hs with⟨b,c,n,n',h1,h2,h3,_⟩ | ⟨h1,h2,_⟩
   ·cases h with
    | lsl0 p hi=>rw[h1]at hi;cases hi
    | lsl hi hl hn ho hm=>rw[h1]at hi;cases hi;exact .lsl h2 (by rw[h3];exact hl) (by rw[h3];exact hn) ho hm
   ·cases h with
    | lsl0 p hi=>exact .lsl0 p h2
    | lsl hi hl hn ho hm=>rw[h1]at hi;cases hi
 | _=>exact h
theorem Is{P:Program}(hm:MemOk own g w m)(hle:MLe mm m){d:Dat F}{v:Value}(h:RepD P g w d v):RepD P g w (resD mm d) v:=by
 cases h with
 | c h=>exact .c (za hm hle h)
 | agg h1 h2=>exact .agg h1 h2
 | tup h1 h2=>exact .tup h1 h2
 | clo h1 h2 h3 h4=>exact .clo h1 h2 h3 h4
 | fv h=>exact .fv h
theorem G9{P:Program}(hm:MemOk own g w m)(hle:MLe mm m){ds:List (Dat F)}{vs:List Value}(h:RepDs P g w ds vs):RepDs P g w (ds.map (resD mm)) vs:=by
 refine⟨by rw[List.length_map];exact h.1,λk d x a b=>?_⟩
 rw[List.getElem?_map]at a;obtain⟨c0,h0,rfl⟩:=Option.map_eq_some_iff.1 a;exact Is hm hle (h.2 k c0 x h0 b)
end
def Does(P:Program)(o:Oper)(vals:List (Dat F))(mm:Nat→Option (Blk F))(c:Nat)(res:Res F):Prop:=
 ∀(own:Ow)(g:G)(w:World)(a:Act) (m:Nat→Option (Blk F)) (u:Nat→Bool),MLe mm m→MemOk own g w m→(∀id,u id=false→g.ids id=none)→
  (∀b,w.heap.size≤b→own.o b)→(∀k,k<res.nu→u (c+k)=false)→RepDs P g w vals (o.op.operands.toList.map a.eval)→Outc P own m u g w o a c res
def DoesP(P:Program)(o:Oper)(vals:List (Dat F))(mm:Nat→Option (Blk F))(d:Dat F):Prop:=
 ∀(own:Ow)(g:G)(w:World)(a:Act) (m:Nat→Option (Blk F)),MLe mm m→MemOk own g w m→RepDs P g w vals (o.op.operands.toList.map a.eval)→
  ∃v,(execOp a.eval o).run P w = .ok (.value v) w∧RepD P g w d v
theorem DoesP.does{P:Program}{o:Oper}{vals:List (Dat F)}{mm:Nat→Option (Blk F)}{d:Dat F}(h:DoesP P o vals mm d)(c:Nat):Does P o vals mm c { val:=d }:=by intro own g w a m u hle hm hd _ _ hr;obtain⟨v,hrun,hv⟩:=h own g w a m hle hm hr;intro next Q hn;unfold Oper.wp;rw[hrun];exact hn v w g hv hm (.refl _ _ _) (λid hu _=>hd id hu)
def Rule(P:Program)(o:Oper)(vals:List (Dat F))(mm:Nat→Option (Blk F))(c:Nat){R:Type}(K:Res F→Option R)(x:Option R):Prop:=
 ∀r,x=some r→∃res,K res=some r∧Does P o vals mm c res
section ops
variable{P:Program}{T:TypeId→Option (TI F)}{o:Oper}{vals:List (Dat F)}{mm:Nat→Option (Blk F)}{c:Nat}{R:Type}{K:Res F→Option R}
theorem ad:Rule P o vals mm c K none:=λ_ h=>by cases h
theorem ao{d:Dat F}(h:DoesP P o vals mm d):Rule P o vals mm c K (K { val:=d }):=λ_ hr=>⟨_,hr,h.does c⟩
theorem ax{α : Type}{x:Option α}{f:α→Option R}(h:∀a,x=some a→Rule P o vals mm c K (f a)):Rule P o vals mm c K (x.bind f):=by intro r hr;rw[Option.bind_eq_some_iff]at hr;obtain⟨a,ha,hr⟩:=hr;exact h a ha r hr
theorem au{p:Prop}[Decidable p]{x y:Option R}(h1:p→Rule P o vals mm c K x)(h2:¬ p→Rule P o vals mm c K y):Rule P o vals mm c K (if p then x else y):=by
 split
 ·exact h1 (by assumption)
 ·exact h2 (by assumption)
theorem reps1{g:G}{w:World}{d:Dat F}{v:Value}(h:RepDs P g w [d] [v]):RepD P g w d v:=h.2 0 d v rfl rfl
theorem reps2{g:G}{w:World}{d e:Dat F}{v x:Value}(h:RepDs P g w [d,e] [v,x]):RepD P g w d v∧RepD P g w e x:=⟨h.2 0 d v rfl rfl,h.2 1 e x rfl rfl⟩
theorem aL{g:G}{w:World}{d:Dat F}{ds:List (Dat F)}{v:Value}{vs:List Value}:RepDs P g w (d::ds) (v::vs)↔RepD P g w d v∧RepDs P g w ds vs:=by
 constructor
 ·intro h
  refine⟨h.2 0 d v rfl rfl,by simpa using h.1,λk e x h1 h2=>h.2 (k+1) e x (by simpa using h1) (by simpa using h2)⟩
 ·rintro⟨h1,h2,h3⟩
  refine⟨by simp[h2],λk e x a b=>?_⟩
  cases k with
  | zero=>simp at a b;subst a;subst b;exact h1
  | succ k=>exact h3 k e x (by simpa using a) (by simpa using b)
theorem Cu{x:Operand}{d:Dat F}(ho:o.op = .move x∨o.op = .assign x)(hv:vals = [d]):Rule P o vals mm c K (K { val:=d }):=by
 subst hv;refine ao ?_;intro own g w a m _ _ hr
 refine⟨a.eval x,by rcases ho with ho | ho<;>simp[execOp,ho],?_⟩
 rcases ho with ho | ho<;>(rw[ho]at hr;exact reps1 hr)
theorem GL{x y z:Operand}(ho:o.op = .pick x y z):Rule P o vals mm c K (tPick vals K):=by
 unfold tPick;split
 ·rename_i b d e
  have key:∀b':Bool,b=b'→DoesP P o [.c (.im (.b b)),d,e] mm (if b' then d else e):=by
   rintro b' rfl own g w a m _ _ hr;rw[ho]at hr;simp only[Op.operands,List.map_cons,List.map_nil,aL]at hr
   refine⟨if b then a.eval y else a.eval z,by simp[execOp,ho,qF hr.1,asBool],?_⟩
   cases b
   ·exact hr.2.2.1
   ·exact hr.2.1
  cases b
  ·exact ao (key false rfl)
  ·exact ao (key true rfl)
 ·exact ad
theorem I7{op:UnOp}{t:TypeId}{x:Operand}(ho:o.op = .unOp op t x):Rule P o vals mm c K (tUn vals K op):=by
 unfold tUn;split
 ·refine ao ?_;intro own g w a m _ _ hr;rw[ho]at hr;have hx:=bE (reps1 hr)
  exact⟨_,by simp[execOp,ho,hx,Op.unary,Op.intArith],mk_i _ _⟩
 ·refine ao ?_;intro own g w a m _ _ hr;rw[ho]at hr;have hx:=qF (reps1 hr)
  exact⟨_,by simp[execOp,ho,hx,Op.unary],mk_b _⟩
 ·exact ad
theorem IK{x:Int}{u:Unit}(h:nz x=some u):x≠0:=by
 unfold nz at h;split at h
 ·assumption
 ·cases h
theorem IL{x:Int}{u:Unit}(h:nn x=some u):0≤x:=by
 unfold nn at h;split at h
 ·assumption
 ·cases h
theorem Ev{op:BinOp}{xT yT:TypeId}{x y:Operand}{k:IntKind}{n m:Int}(ho:o.op = .binOp op xT x y yT)(hv:vals = [.c (.im (.i k n)),.c (.im (.i k m))]):Rule P o vals mm c K (BC K op k n m y):=by
 subst hv
 have key:∀(d:ND F)(v:Value),(∀w:World,(binOp op xT (.int k n) (.int k m)).run P w = .ok v w)→(∀(w:World)(g:G),RepD (F:=F) P g w (.c (.im d)) v)→Rule P o [.c (.im (.i k n)),.c (.im (.i k m))] mm c K (K { val:=.c (.im d) }):=by
  intro d v hrun hrep;refine ao ?_;intro own g w a m' _ _ hr;rw[ho]at hr;simp only[Op.operands,List.map_cons,List.map_nil]at hr;obtain⟨h1,h2⟩:=reps2 hr
  exact⟨v,by simp only[execOp,ho,bE h1,bE h2,Sem.run_bind,eqGuard_at_int,Sem.run_pure,Result.andThen_ok,hrun w],hrep w g⟩
 have lit:litNz y=true→∀(a:Act)(w:World)(g:G),RepDs (F:=F) P g w [.c (.im (.i k n)),.c (.im (.i k m))] (o.op.operands.toList.map a.eval)→m≠0:=by
  intro hl a w g hr;rw[ho]at hr;simp only[Op.operands,List.map_cons,List.map_nil]at hr;have h2:=bE (reps2 hr).2;unfold litNz at hl;split at hl
  ·simp only[Act.eval,Value.int.injEq]at h2;simp at hl;rw[← h2.2];exact hl
  ·cases hl
 have keyL:∀(d:ND F)(v:Value),litNz y=true→(m≠0→∀w:World,(binOp op xT (.int k n) (.int k m)).run P w = .ok v w)→(∀(w:World)(g:G),RepD (F:=F) P g w (.c (.im d)) v)→Rule P o [.c (.im (.i k n)),.c (.im (.i k m))] mm c K (K { val:=.c (.im d) }):=by
  intro d v hl hrun hrep;refine ao ?_;intro own g w a m' _ _ hr;have hm:=lit hl a w g hr;rw[ho]at hr;simp only[Op.operands,List.map_cons,List.map_nil]at hr;obtain⟨h1,h2⟩:=reps2 hr
  exact⟨v,by simp only[execOp,ho,bE h1,bE h2,Sem.run_bind,eqGuard_at_int,Sem.run_pure,Result.andThen_ok,hrun hm w],hrep w g⟩
 cases op<;>simp only[BC]
 case quo=>
  refine au (λhl=>?_) (λ_=>ax λu hu=>?_)
  ·exact keyL _ _ hl (λhm w=>by simp[binOp,Op.intDiv,hm]) (λ_ _=>mk_i _ _)
  ·exact key _ _ (λw=>by simp[binOp,Op.intDiv,IK hu]) (λ_ _=>mk_i _ _)
 case rem=>
  refine au (λhl=>?_) (λ_=>ax λu hu=>?_)
  ·exact keyL _ _ hl (λhm w=>by simp[binOp,Op.intDiv,hm]) (λ_ _=>mk_i _ _)
  ·exact key _ _ (λw=>by simp[binOp,Op.intDiv,IK hu]) (λ_ _=>mk_i _ _)
 case add | sub | mul=>exact key _ _ (λw=>by simp[binOp,Op.intArith]) (λ_ _=>mk_i _ _)
 case and | or | xor=>exact key _ _ (λw=>by simp only[binOp,ne_eq,not_true_eq_false,if_false];rfl) (λ_ _=>mk_i _ _)
 all_goals first | exact ad | exact key _ _ (λw=>by simp[binOp,Op.intCmp]) (λ_ _=>mk_b _)
end ops
end
set_option linter.unusedVariables false
set_option linter.unusedSimpArgs false
section
variable{F:Fam}{P:Program}{T:TypeId→Option (TI F)}{o:Oper}{vals:List (Dat F)}{mm:Nat→Option (Blk F)}{c:Nat}{R:Type}{K:Res F→Option R}{own:Ow}{g:G}{w:World}{m:Nat→Option (Blk F)}
theorem Lm{l m r:List UInt8}(h:cat l m=some r):(l.length:Int)+m.length≤9223372036854775807∧l++m=r:=by
 unfold cat at h;split at h
 ·rename_i hc;cases h;exact⟨by have:=Nat.le_of_ble_eq_true hc;omega,rfl⟩
 ·cases h
theorem Ek{op:BinOp}{xT yT:TypeId}{x y:Operand}{l m:List UInt8}(ho:o.op = .binOp op xT x y yT)(hv:vals = [.c (.im (.s l)),.c (.im (.s m))]):Rule P o vals mm c K (BL K op l m):=by
 subst hv
 have key:∀(d:ND F)(v:Value),(∀w:World,(binOp op xT (.string ⟨⟨l⟩⟩) (.string ⟨⟨m⟩⟩)).run P w = .ok v w)→(∀(w:World)(g:G),RepD (F:=F) P g w (.c (.im d)) v)→Rule P o [.c (.im (.s l)),.c (.im (.s m))] mm c K (K { val:=.c (.im d) }):=by
  intro d v hrun hrep;refine ao ?_;intro own g w a m' _ _ hr;rw[ho]at hr;simp only[Op.operands,List.map_cons,List.map_nil]at hr;obtain⟨h1,h2⟩:=reps2 hr
  exact⟨v,by simp only[execOp,ho,x_ h1,x_ h2,Sem.run_bind,eqGuard_at_string,Sem.run_pure,Result.andThen_ok,hrun w],hrep w g⟩
 cases op<;>simp only[BL]
 case add=>
  refine ax λr hr=>?_;obtain⟨hm,rfl⟩:=Lm hr
  have e:(⟨⟨l⟩⟩:ByteArray)++⟨⟨m⟩⟩=⟨⟨l++m⟩⟩:=by apply ByteArray.ext;simp
  refine key _ _ (λw=>?_) (λ_ _=>mk_s _);have hs:∀l:List UInt8,(⟨⟨l⟩⟩:ByteArray).size=l.length:=λ_=>rfl;simp only[binOp,Op.stringOp,hs,e]
  rw[if_neg (by rw[IntKind.max_i64];omega)]
  rfl
 all_goals first | exact ad | exact key _ _ (λw=>by simp[binOp,Op.stringOp,strLe]) (λ_ _=>mk_b _)
theorem yO{d:Option TypeDesc}{a b:Cel F}{p:Bool}(h:eqCel d a b=some p) :
  (∃k0 k n m,d=some (.int k0)∧a = .im (.i k n)∧b = .im (.i k m)∧p=(n == m))∨(∃x y,d=some .bool∧a = .im (.b x)∧b = .im (.b y)∧p=(x == y))∨
  (∃l m,d=some .string∧a = .im (.s l)∧b = .im (.s m)∧p=(l == m)):=by
 unfold eqCel at h;split at h
 ·split at h
  ·rename_i hk;subst hk;cases h;exact .inl ⟨_,_,_,_,rfl,rfl,rfl,rfl⟩
  ·cases h
 ·cases h;exact .inr (.inl ⟨_,_,rfl,rfl,rfl,rfl⟩)
 ·cases h;exact .inr (.inr ⟨_,_,rfl,rfl,rfl,rfl⟩)
 ·cases h
theorem jL(hT:TblOk P T){t:TypeId}{d:TypeDesc}(h:et T t=some d):P.underlying t=some d:=by
 unfold et at h;split at h
 ·rename_i ti ht;cases h;exact hT.und _ _ ht
 ·cases h
theorem Eu{f:Field}{fs:List Field}{off:Nat}{cs ds:List (Cel F)}{x:Bool}(h:kz T (f::fs) off cs ds=some x) :
  ∃ a b l r p q,cs = a :: l ∧ ds = b :: r ∧ f.name ≠ "_" ∧ f.offset = off ∧ eqCel (et T f.type) a b = some p ∧ kz T fs (off + 1) l r = some q ∧ x = (p && q):=by
 unfold kz at h;split at h
 ·exact absurd (by assumption:f::fs = []) (by simp)
 ·rename_i heq;cases heq;split at h
  ·rename_i hc;simp only[Bool.and_eq_true,bne_iff_ne,beq_iff_eq]at hc
   exact⟨_,_,[],[],x,true,rfl,rfl,hc.1,hc.2,h,by simp[kz],by simp⟩
  ·cases h
 ·rename_i heq;cases heq;split at h
  ·rename_i hc;simp only[Bool.and_eq_true,bne_iff_ne,beq_iff_eq]at hc;split at h
   ·cases h
   ·rename_i p hp;split at h
    ·cases h
    ·rename_i q hq;cases h;exact⟨_,_,_,_,p,q,rfl,rfl,hc.1,hc.2,hp,hq,rfl⟩
  ·cases h
 ·cases h
theorem wH(hT:TblOk P T){cs ds:List (Cel F)}{xs ys:List Value}(hx:∀(k:Nat)(c:Cel F)(x:Value),cs[k]? = some c→xs[k]? = some x→RepC g w c x)
  (hy:∀(k:Nat)(c:Cel F)(x:Value),ds[k]? = some c→ys[k]? = some x→RepC g w c x) (hlx:xs.length=cs.length) (hly:ys.length=ds.length) (dp:Nat) :
  ∀(fs:List Field)(off:Nat)(cs' ds':List (Cel F)) (b:Bool),(∀k,cs'[k]? = cs[off+k]?)→(∀k,ds'[k]? = ds[off+k]?)→
   kz T fs off cs' ds'=some b→(Op.eqFields (dp+1) ⟨xs⟩ ⟨ys⟩ fs).run P w = .ok b w:=by
 intro fs
 induction fs with
 | nil=>
  intro off cs' ds' b h1 h2 he;unfold kz at he;split at he
  ·cases he;simp[Op.eqFields]
  ·rename_i heq;cases heq
  ·rename_i heq;cases heq
  ·cases he
 | cons f fs ih=>
  intro off cs' ds' b h1 h2 he;obtain⟨c0,d0,cr,dr,p,q,rfl,rfl,hn,rfl,hp,hq,rfl⟩:=Eu he;have ec:=h1 0;have ed:=h2 0;simp only[List.getElem?_cons_zero,Nat.add_zero]at ec ed
  have lx:f.offset<xs.length:=by rw[hlx];exact(LQ.1 ec.symm).1
  have ly:f.offset<ys.length:=by rw[hly];exact(LQ.1 ed.symm).1
  have vx:=hx _ _ _ ec.symm (LP lx);have vy:=hy _ _ _ ed.symm (LP ly)
  have hq':=ih (f.offset+1) cr dr q (λj=>by have:=h1 (j+1);simpa[Nat.add_assoc,Nat.add_comm 1 j]using this) (λj=>by have:=h2 (j+1);simpa[Nat.add_assoc,Nat.add_comm 1 j]using this) hq
  have key:∀(u v:Value),xs[f.offset]=u→ys[f.offset]=v→(isAgg f.type).run P w = .ok false w→(Op.equalIn (dp+1) f.type u v).run P w = .ok p w→(Op.eqFields (dp+1) ⟨xs⟩ ⟨ys⟩ (f::fs)).run P w = .ok (p&&q) w:=by
   intro u v hu hv hag heq
   have px:(part f.type ⟨xs⟩ f.offset).run P w = .ok u w:=by simp[part,hag,lx,hu]
   have py:(part f.type ⟨ys⟩ f.offset).run P w = .ok v w:=by simp[part,hag,ly,hv]
   simp only[Op.eqFields,ne_eq,hn,not_false_eq_true,if_true,Sem.run_bind,px,py,Result.andThen_ok,heq];cases p
   ·simp
   ·simpa using hq'
  rcases yO hp with⟨k0,k,n,m',hd,rfl,rfl,rfl⟩ | ⟨x,y,hd,rfl,rfl,rfl⟩ | ⟨l,m',hd,rfl,rfl,rfl⟩
  ·have hk:=jL hT hd
   exact key (.int k n) (.int k m') (by have:=bT vx;generalize xs[f.offset]=z at this ⊢;cases this;rfl) (by have:=bT vy;generalize ys[f.offset]=z at this ⊢;cases this;rfl) (by simp[isAgg,run_underlying hk]) (run_equalIn_int w dp f.type k k0 n m' hk)
  ·have hk:=jL hT hd
   exact key (.bool x) (.bool y) (by have:=bT vx;generalize xs[f.offset]=z at this ⊢;cases this;rfl) (by have:=bT vy;generalize ys[f.offset]=z at this ⊢;cases this;rfl) (by simp[isAgg,run_underlying hk]) (run_equalIn_bool' w dp f.type x y hk)
  ·have hk:=jL hT hd
   exact key (.string ⟨⟨l⟩⟩) (.string ⟨⟨m'⟩⟩) (by have:=bT vx;generalize xs[f.offset]=z at this ⊢;cases this;rfl) (by have:=bT vy;generalize ys[f.offset]=z at this ⊢;cases this;rfl) (by simp[isAgg,run_underlying hk]) (by rw[run_equalIn_string w dp f.type _ _ hk];simp)
theorem En{f:Field}{cs ds:List (Cel F)}{x:Bool}{n:Nat}(h:eqOne T f cs ds=some (x,n)) :
  (∃ti gs,T f.type=some ti∧ti.desc = .struct gs∧ti.size=n∧ti.eq=true∧n≤cs.length∧n≤ds.length∧kz T gs.toList 0 (cs.take n) (ds.take n)=some x)∨
  (∃a l b r,cs=a::l∧ds=b::r∧n=1∧eqCel (et T f.type) a b=some x):=by
 unfold eqOne at h;split at h
 ·rename_i gs n' _ _ _ ht;split at h
  ·rename_i hc;simp only[Bool.and_eq_true,Nat.ble_eq]at hc;split at h
   ·rename_i y hy;cases h;exact .inl ⟨_,gs,ht,rfl,rfl,rfl,hc.1,hc.2,hy⟩
   ·cases h
  ·cases h
 ·rename_i ti _ ht;split at h
  ·split at h
   ·rename_i y hy;cases h;refine .inr ⟨_,_,_,_,rfl,rfl,rfl,?_⟩;unfold et;rw[ht];exact hy
   ·cases h
  ·cases h
 ·cases h
theorem D7{f:Field}{fs:List Field}{off:Nat}{cs ds:List (Cel F)}{x:Bool}(h:ot T (f::fs) off cs ds=some x) :
  ∃ p n q,f.name ≠ "_" ∧ f.offset = off ∧ eqOne T f cs ds = some (p,n) ∧ ot T fs (off + n) (cs.drop n) (ds.drop n) = some q ∧ x = (p && q):=by
 unfold ot at h;split at h
 ·exact absurd (by assumption:f::fs = []) (by simp)
 ·rename_i heq;cases heq;split at h
  ·rename_i hc;simp only[Bool.and_eq_true,bne_iff_ne,beq_iff_eq]at hc;split at h
   ·rename_i p n hp;split at h
    ·rename_i hl;cases h
     refine⟨x,n,true,hc.1,hc.2,hp,?_,by simp⟩
     rw[← hl.1,List.drop_length,hl.1,← hl.2,List.drop_length];rfl
    ·cases h
   ·cases h
  ·cases h
 ·rename_i heq;cases heq;split at h
  ·rename_i hc;simp only[Bool.and_eq_true,bne_iff_ne,beq_iff_eq]at hc;split at h
   ·rename_i p n hp;split at h
    ·rename_i q hq;cases h;exact⟨p,n,q,hc.1,hc.2,hp,hq,rfl⟩
    ·cases h
   ·cases h
  ·cases h
 ·cases h
theorem CI(hT:TblOk P T){cs ds:List (Cel F)}{xs ys:List Value}(hx:∀(k:Nat)(c:Cel F)(x:Value),cs[k]? = some c→xs[k]? = some x→RepC g w c x)
  (hy:∀(k:Nat)(c:Cel F)(x:Value),ds[k]? = some c→ys[k]? = some x→RepC g w c x) (hlx:xs.length=cs.length) (hly:ys.length=ds.length) (dp:Nat) :
  ∀(fs:List Field)(off:Nat)(cs' ds':List (Cel F)) (b:Bool),(∀k,cs'[k]? = cs[off+k]?)→(∀k,ds'[k]? = ds[off+k]?)→
   ot T fs off cs' ds'=some b→(Op.eqFields (dp+2) ⟨xs⟩ ⟨ys⟩ fs).run P w = .ok b w:=by
 intro fs
 induction fs with
 | nil=>
  intro off cs' ds' b h1 h2 he;unfold ot at he;split at he
  ·cases he;simp[Op.eqFields]
  ·rename_i heq;cases heq
  ·rename_i heq;cases heq
  ·cases he
 | cons f fs ih=>
  intro off cs' ds' b h1 h2 he;obtain⟨p,n,q,hn,rfl,hp,hq,rfl⟩:=D7 he
  have hq':=ih (f.offset+n) _ _ q (λj=>by rw[List.getElem?_drop,h1,Nat.add_assoc]) (λj=>by rw[List.getElem?_drop,h2,Nat.add_assoc]) hq
  have key:∀(u v:Value),(part f.type ⟨xs⟩ f.offset).run P w = .ok u w→(part f.type ⟨ys⟩ f.offset).run P w = .ok v w→(Op.equalIn (dp+2) f.type u v).run P w = .ok p w→(Op.eqFields (dp+2) ⟨xs⟩ ⟨ys⟩ (f::fs)).run P w = .ok (p&&q) w:=by
   intro u v px py heq;simp only[Op.eqFields,ne_eq,hn,not_false_eq_true,if_true,Sem.run_bind,px,py,Result.andThen_ok,heq];cases p
   ·simp
   ·simpa using hq'
  rcases En hp with⟨ti,gs,ht,hd,rfl,he,lc,ld,hc⟩ | ⟨c0,cr,d0,dr,rfl,rfl,rfl,hp'⟩
  ·have hu:=hT.und _ _ ht;rw[hd]at hu;obtain⟨j,hj,hsz,_⟩:=hT.info _ _ ht
   have hag:(isAgg f.type).run P w = .ok true w:=by simp[isAgg,run_underlying hu]
   have hso:(Go.sizeOf f.type).run P w = .ok ti.size w:=by rw[← hsz];simp[Go.sizeOf,typeInfo,hj]
   have sub:∀{zs:List Value}{es es':List (Cel F)},(∀k,es'[k]? = es[f.offset+k]?)→zs.length=es.length→ti.size≤es'.length→(∀(k:Nat)(c:Cel F)(x:Value),es[k]? = some c→zs[k]? = some x→RepC g w c x)→
     ((zs.take (f.offset+ti.size)).drop f.offset).length=(es'.take ti.size).length∧(∀(k:Nat)(c:Cel F)(x:Value),(es'.take ti.size)[k]? = some c→((zs.take (f.offset+ti.size)).drop f.offset)[k]? = some x→RepC g w c x):=by
    intro zs es es' h hl hle hr
    have hlt:f.offset+ti.size≤es.length∨ti.size=0:=by
     rcases Nat.eq_zero_or_pos ti.size with h0 | h0
     ·exact .inr h0
     ·have:=h (ti.size - 1)
      rw[LP (by omega)]at this
      have:=(LQ.1 this.symm).1
      exact .inl (by omega)
    refine⟨by rw[List.length_drop,List.length_take,List.length_take,hl];omega,?_⟩
    intro k c x hc hx;rw[List.getElem?_take]at hc;split at hc
    ·rw[List.getElem?_drop,List.getElem?_take]at hx;split at hx
     ·exact hr _ _ _ (by rw[← h];exact hc) hx
     ·cases hx
    ·cases hc
   obtain⟨lx,rx⟩:=sub h1 hlx lc hx;obtain⟨ly,ry⟩:=sub h2 hly ld hy
   refine key (.agg ⟨(xs.take (f.offset+ti.size)).drop f.offset⟩) (.agg ⟨(ys.take (f.offset+ti.size)).drop f.offset⟩) (by simp[part,hag,hso,List.take_drop]) (by simp[part,hag,hso,List.take_drop]) ?_
   have hfs:P.fieldsOf f.type=gs:=by simp only[Program.fieldsOf];rw[hu]
   rw[run_equalIn_struct w (dp+1) f.type _ _ (by rw[hfs];exact hu) (hT.eq _ _ ht he).a,hfs]
   exact wH hT rx ry lx ly dp gs.toList 0 _ _ p (by simp) (by simp) hc
  ·have ec:=h1 0;have ed:=h2 0;simp only[List.getElem?_cons_zero,Nat.add_zero]at ec ed
   have lx:f.offset<xs.length:=by rw[hlx];exact(LQ.1 ec.symm).1
   have ly:f.offset<ys.length:=by rw[hly];exact(LQ.1 ed.symm).1
   have vx:=hx _ _ _ ec.symm (LP lx);have vy:=hy _ _ _ ed.symm (LP ly)
   have key':∀(u v:Value),xs[f.offset]=u→ys[f.offset]=v→(isAgg f.type).run P w = .ok false w→(Op.equalIn (dp+2) f.type u v).run P w = .ok p w→(Op.eqFields (dp+2) ⟨xs⟩ ⟨ys⟩ (f::fs)).run P w = .ok (p&&q) w:=by
    intro u v hu hv hag heq
    exact key u v (by simp[part,hag,lx,hu]) (by simp[part,hag,ly,hv]) heq
   clear hp;rcases yO hp' with⟨k0,k,n,m',hd,rfl,rfl,rfl⟩ | ⟨x,y,hd,rfl,rfl,rfl⟩ | ⟨l,m',hd,rfl,rfl,rfl⟩
   ·have hk:=jL hT hd
    exact key' (.int k n) (.int k m') (by have:=bT vx;generalize xs[f.offset]=z at this ⊢;cases this;rfl) (by have:=bT vy;generalize ys[f.offset]=z at this ⊢;cases this;rfl) (by simp[isAgg,run_underlying hk]) (run_equalIn_int w (dp+1) f.type k k0 n m' hk)
   ·have hk:=jL hT hd
    exact key' (.bool x) (.bool y) (by have:=bT vx;generalize xs[f.offset]=z at this ⊢;cases this;rfl) (by have:=bT vy;generalize ys[f.offset]=z at this ⊢;cases this;rfl) (by simp[isAgg,run_underlying hk]) (run_equalIn_bool' w (dp+1) f.type x y hk)
   ·have hk:=jL hT hd
    exact key' (.string ⟨⟨l⟩⟩) (.string ⟨⟨m'⟩⟩) (by have:=bT vx;generalize xs[f.offset]=z at this ⊢;cases this;rfl) (by have:=bT vy;generalize ys[f.offset]=z at this ⊢;cases this;rfl) (by simp[isAgg,run_underlying hk]) (by rw[run_equalIn_string w (dp+1) f.type _ _ hk];simp)
theorem xh(hT:TblOk P T){cs ds:List (Cel F)}{xs ys:List Value}{t:TypeId}{fs:Array Field}{i:TI F}(ht:T t=some i)(hi:i.desc = .struct fs)(he:EqOk P t){b:Bool}(hb:eqAll T fs.toList cs ds=some b)
  (hx:xs.length=cs.length∧∀(k:Nat)(c:Cel F)(x:Value),cs[k]? = some c→xs[k]? = some x→RepC g w c x)
  (hy:ys.length=ds.length∧∀(k:Nat)(c:Cel F)(x:Value),ds[k]? = some c→ys[k]? = some x→RepC g w c x) :
  (Op.equalIn 10000 t (.agg ⟨xs⟩) (.agg ⟨ys⟩)).run P w = .ok b w:=by
 have hu:=hT.und _ _ ht;rw[hi]at hu
 have hfs:P.fieldsOf t=fs:=by simp only[Program.fieldsOf];rw[hu]
 rw[run_equalIn_struct w 9999 t ⟨xs⟩ ⟨ys⟩ (by rw[hfs];exact hu) he.a,hfs]
 unfold eqAll at hb;split at hb
 ·rename_i b' hb';cases hb
  exact wH hT hx.2 hy.2 hx.1 hy.1 9998 fs.toList 0 cs ds b (by simp) (by simp) hb'
 ·exact CI hT hx.2 hy.2 hx.1 hy.1 9997 fs.toList 0 cs ds b (by simp) (by simp) hb
theorem DE(d:Nat){t e:TypeId}(a:Addr)(l c:Nat)(w:World)(h:P.underlying t=some (.slice e)):(Op.equalIn (d+1) t (.slice (some a) l c) (.slice none 0 0)).run P w = .ok false w:=by simp[Op.equalIn,run_underlying h]
theorem Ib(hT:TblOk P T){op:BinOp}{xT yT:TypeId}{x y:Operand}(ho:o.op = .binOp op xT x y yT):Rule P o vals mm c K (tBin T vals K op xT y):=by
 unfold tBin;split
 ·rename_i k n k' m'
  have sh:∀(d:ND F)(v:Value),(0≤m'→∀w:World,(do eqGuard op xT x y (.int k n) (.int k' m');binOp op xT (.int k n) (.int k' m'):Sem Value).run P w = .ok v w)→(∀(w:World)(g:G),RepD (F:=F) P g w (.c (.im d)) v)→
    (0≤m'∨litNn y=true)→Rule P o [.c (.im (.i k n)),.c (.im (.i k' m'))] mm c K (K { val:=.c (.im d) }):=by
   intro d v hrun hrep hm;refine ao ?_;intro own g w a m _ _ hr;rw[ho]at hr;simp only[Op.operands,List.map_cons,List.map_nil]at hr;obtain⟨h1,h2⟩:=reps2 hr;have e2:=bE h2
   have hm':0≤m':=by
    rcases hm with hm | hm
    ·exact hm
    ·unfold litNn at hm;split at hm
     ·simp only[Act.eval,Value.int.injEq]at e2;rw[← e2.2];simpa using hm
     ·cases hm
   refine⟨v,?_,hrep w g⟩;have:=hrun hm' w;simp only[execOp,ho,bE h1,e2];rw[Sem.run_bind,this];rfl
  split
  ·refine au (λhl=>sh _ _ (λhm w=>?_) (λ_ _=>mk_i _ _) (.inr hl)) (λ_=>ax λu hu=>sh _ _ (λhm w=>?_) (λ_ _=>mk_i _ _) (.inl (IL hu)))
   all_goals (have hm:¬ m'<0:=by omega);simp[binOp,Op.shift,hm,eqGuard_shl]
  ·refine au (λhl=>sh _ _ (λhm w=>?_) (λ_ _=>mk_i _ _) (.inr hl)) (λ_=>ax λu hu=>sh _ _ (λhm w=>?_) (λ_ _=>mk_i _ _) (.inl (IL hu)))
   all_goals (have hm:¬ m'<0:=by omega);simp[binOp,Op.shift,hm,eqGuard_shr]
  ·refine au (λhk=>?_) (λ_=>ad);subst hk;exact Ev ho rfl
 ·exact Ek ho rfl
 ·rename_i p q;split
  ·rename_i ht;have hu:=hT.und _ _ ht;refine ao ?_;intro own g w a m _ _ hr;rw[ho]at hr;simp only[Op.operands,List.map_cons,List.map_nil]at hr;obtain⟨h1,h2⟩:=reps2 hr
   exact⟨_,by simp[execOp,ho,qF h1,qF h2,eqGuard_at_bool,binOp,Op.equal,Op.maxDepth,run_equalIn_bool' w 9999 xT p q hu],mk_b _⟩
  ·rename_i ht;have hu:=hT.und _ _ ht;refine ao ?_;intro own g w a m _ _ hr;rw[ho]at hr;simp only[Op.operands,List.map_cons,List.map_nil]at hr;obtain⟨h1,h2⟩:=reps2 hr
   exact⟨_,by simp[execOp,ho,qF h1,qF h2,eqGuard_at_bool,binOp,Op.equal,Op.maxDepth,run_equalIn_bool' w 9999 xT p q hu],mk_b _⟩
  ·exact ad
 ·rename_i cs ds;split
  ·rename_i ht;split
   ·rename_i b hb;refine ao ?_;intro own g w a m _ _ hr;rw[ho]at hr;simp only[Op.operands,List.map_cons,List.map_nil]at hr;obtain⟨h1,h2⟩:=reps2 hr;obtain⟨xs,ex,hxs⟩:=n9 h1;obtain⟨ys,ey,hys⟩:=n9 h2;have he:EqOk P xT:=hT.eq _ _ ht rfl;have hr:=xh hT ht rfl he hb hxs hys
    exact⟨_,by simp only[execOp,ho,ex,ey,Sem.run_bind,run_eqGuard_agg w .eql xT x y ⟨xs⟩ ⟨ys⟩ he.b,Result.andThen_ok,run_eql_struct,hr,Sem.run_pure],mk_b _⟩
   ·exact ad
  ·rename_i ht;split
   ·rename_i b hb;refine ao ?_;intro own g w a m _ _ hr;rw[ho]at hr;simp only[Op.operands,List.map_cons,List.map_nil]at hr;obtain⟨h1,h2⟩:=reps2 hr;obtain⟨xs,ex,hxs⟩:=n9 h1;obtain⟨ys,ey,hys⟩:=n9 h2;have he:EqOk P xT:=hT.eq _ _ ht rfl;have hr:=xh hT ht rfl he hb hxs hys
    exact⟨_,by simp only[execOp,ho,ex,ey,Sem.run_bind,run_eqGuard_agg w .neq xT x y ⟨xs⟩ ⟨ys⟩ he.b,Result.andThen_ok,run_neq_struct,hr,Sem.run_pure],mk_b _⟩
   ·exact ad
  ·exact ad
 ·rename_i t l
  have nil:∀{op:BinOp}{e:TypeId}{s n bs z eq}(b:Bool),T xT=some ⟨.slice e,s,n,bs,z,eq⟩→(∀w:World,∀(a:Addr)(m c:Nat),l≠[]→(do eqGuard op xT x (.const (.slice none 0 0)) (.slice (some a) m c) (.slice none 0 0);binOp op xT (.slice (some a) m c) (.slice none 0 0):Sem Value).run P w = .ok (.bool b) w)→
    o.op = .binOp op xT x (.const (.slice none 0 0)) yT→Rule P o [.c (.im (.sl t l)),.c (.im .nl)] mm c K (cond l.isEmpty none (kB K b)):=by
   intro op e s n bs z eq b ht hrun ho
   cases hl:l.isEmpty with
   | true=>exact ad
   | false=>
    have hne:l≠[]:=by rintro rfl;cases hl
    refine ao ?_;intro own g w a m _ _ hr;rw[ho]at hr;simp only[Op.operands,List.map_cons,List.map_nil]at hr;obtain⟨h1,h2⟩:=reps2 hr;have h1':=aO h1;generalize hv:a.eval x=v at h1'
    cases h1' with
    | im h1'=>
     cases h1' with
     | sl0=>exact absurd rfl hne
     | sl _ _ b' o' cap f hb hcap hm hc hr'=>
      refine⟨.bool b,?_,mk_b _⟩;have:=hrun w ⟨b',o',none⟩ l.length cap hne;simp only[execOp,ho,hv];rw[Sem.run_bind]
      show(Result.andThen ((do eqGuard op xT x (.const (.slice none 0 0)) (.slice (some ⟨b',o',none⟩) l.length cap) (.slice none 0 0);binOp op xT (.slice (some ⟨b',o',none⟩) l.length cap) (.slice none 0 0):Sem Value).run P w) _)=_
      rw[this];rfl
  split
  ·rename_i e s n bs z eq ht;have hu:=hT.und _ _ ht
   exact nil _ ht (λw a m c _=>by simp[eqGuard_at_slice,binOp,show(Op.equal xT (.slice (some a) m c) (.slice none 0 0)).run P w = .ok false w from DE 9999 a m c w hu]) ho
  ·rename_i e s n bs z eq ht;have hu:=hT.und _ _ ht
   exact nil _ ht (λw a m c _=>by simp[eqGuard_at_slice,binOp,show(Op.equal xT (.slice (some a) m c) (.slice none 0 0)).run P w = .ok false w from DE 9999 a m c w hu]) ho
  ·exact ad
 ·exact ad
end
set_option linter.unusedVariables false
set_option linter.unusedSimpArgs false
section
variable{F:Fam}{P:Program}{T:TypeId→Option (TI F)}{o:Oper}{vals:List (Dat F)}{mm:Nat→Option (Blk F)}{c:Nat}{R:Type}{K:Res F→Option R}{own:Ow}{g:G}{w:World}{m:Nat→Option (Blk F)}
theorem bi(hT:TblOk P T){t:TypeId}{ti:TI F}(h:T t=some ti)(w:World):(sizeOf t).run P w = .ok ti.size w:=by obtain⟨j,hj,hs,_⟩:=hT.info t ti h;simp[sizeOf,typeInfo,hj,hs]
theorem qw(hT:TblOk P T){t:TypeId}{ti:TI F}(h:T t=some ti)(w:World):(isAgg t).run P w = .ok (dl ti.desc) w:=by
 simp only[isAgg,Sem.run_bind,run_underlying (hT.und t ti h),Result.andThen_ok]
 cases ti.desc<;>rfl
theorem FJ(hT:TblOk P T){s:TypeId}{x:Operand}{fi:Nat}(ho:o.op = .fieldAddr s x fi):Rule P o vals mm c K (DG T vals K s fi):=by
 unfold DG;split
 ·rename_i hs;split
  ·exact ad
  ·rename_i fld hfld;split
   ·exact ad
   ·rename_i ti hti;refine au (λ_=>ad) (λhz=>?_)
    have key:∀(w:World)(a:Act)(b q:Nat),a.eval x = .pointer (some ⟨b,q,none⟩)→(execOp a.eval o).run P w = .ok (.value (.pointer (some ⟨b,q+fld.offset,none⟩))) w:=by intro w a b q e;have hu:=run_underlying (hT.und _ _ hs) w;have hsz:=bi hT hti w;simp[execOp,ho,e,Instr.fieldAt,hu,hfld,Instr.sureAddr,fieldPlace,hsz,hz,Addr.add_lit]
    split
    ·refine ao ?_;intro own g w a m _ _ hr;rw[ho]at hr;obtain⟨b,c,hi,e⟩:=bh (reps1 hr);exact⟨_,key w a _ _ e,.c (.ptr hi)⟩
    ·refine ao ?_;intro own g w a m _ _ hr;rw[ho]at hr;obtain⟨b,c,hi,e⟩:=d9 (reps1 hr);refine⟨_,key w a _ _ e,?_⟩;rw[Nat.add_assoc];exact .c (.pel hi)
    ·refine ao ?_;intro own g w a m _ _ hr;rw[ho]at hr;obtain⟨b,q,fn,hb,e,hc,hr⟩:=uw (reps1 hr);refine⟨_,key w a _ _ e,?_⟩;rw[Nat.add_assoc];exact .c (.pt _ _ b q fn hb hc hr)
    ·refine ao ?_;intro own g w a m _ _ hr;rw[ho]at hr;obtain⟨b,c,n,b',c',hi,hk,e⟩:=E1 (reps1 hr);refine⟨_,key w a _ _ e,?_⟩;rw[Nat.add_assoc];exact .c (.nel hi hk)
    ·exact ad
 ·exact ad
theorem Er(hT:TblOk P T){t:TypeId}{ti:TI F}(ht:T t=some ti){cs:List (Cel F)}{vs:List Value}{off:Nat}{d:Dat F}(h:dn ti cs off=some d)
  (hl:vs.length=cs.length) (hr:∀(k:Nat)(c:Cel F)(x:Value),cs[k]? = some c→vs[k]? = some x→RepC g w c x) :
  ∃v,(part t ⟨vs⟩ off).run P w = .ok v w∧RepD P g w d v:=by
 unfold dn at h;have ha:=qw hT ht w;have hs:=bi hT ht w;split at h
 ·rename_i hag;split at h
  ·cases h;refine⟨.agg ⟨(vs.drop off).take ti.size⟩,?_,?_⟩
   ·simp only[part,Sem.run_bind,ha,Result.andThen_ok,hag,if_true,hs,Sem.run_pure]
    congr 2
    apply Array.ext';simp[List.extract_eq_take_drop]
   ·refine .agg (by simp[hl]) ?_
    intro k c x h1 h2;rw[List.getElem?_take]at h1 h2;split at h1
    ·rename_i hk;rw[if_pos hk]at h2;rw[List.getElem?_drop]at h1 h2;exact hr _ _ _ h1 h2
    ·cases h1
  ·cases h
 ·rename_i hag;split at h
  ·rename_i c hc;cases h
   have hlt:off<vs.length:=by rw[hl];exact(LQ.1 hc).1
   refine⟨vs[off],?_,.c (hr off c _ hc (LP hlt))⟩
   have hag':dl ti.desc=false:=by simpa using hag
   simp only[part,Sem.run_bind,ha,Result.andThen_ok,hag',Bool.false_eq_true,if_false]
   have:(⟨vs⟩:Array Value)[off]? = some vs[off]:=by simp[hlt]
   rw[this];rfl
  ·cases h
theorem lH{od:Option (Dat F)}(h:∀d,od=some d→DoesP P o vals mm d):Rule P o vals mm c K (pK od K):=by
 cases od with
 | some d=>exact ao (h d rfl)
 | none=>exact ad
theorem G_(hT:TblOk P T){s:TypeId}{x:Operand}{fi:Nat}(ho:o.op = .field s x fi):Rule P o vals mm c K (tPart T vals K s fi):=by
 unfold tPart;split
 ·rename_i hs;split
  ·exact ad
  ·rename_i fld hfld;split
   ·exact ad
   ·rename_i ti hti;refine au (λ_=>lH λd hd=>?_) (λ_=>ad);intro own g w a m _ _ hr;rw[ho]at hr;obtain⟨vs,e,hl,hr⟩:=n9 (reps1 hr);obtain⟨v,hrun,hv⟩:=Er (P:=P) hT hti hd hl hr
    exact⟨v,by simp only[execOp,ho,Sem.run_bind,Instr.field,run_underlying (hT.und _ _ hs),Result.andThen_ok,hfld,e,asAgg,Sem.run_pure,hrun],hv⟩
 ·exact ad
theorem cD(hT:TblOk P T){t:TypeId}{ti:TI F}(ht:T t=some ti){cs:List (Cel F)}{off b q:Nat}{d:Dat F}(h:dn ti cs off=some d)
  (hc:∀k c,cs[k]? = some c→∃x,w.cell? ⟨b,q+k,none⟩=some x∧RepC g w c x) :
  ∃v,(loadVar t ⟨b,q+off,none⟩).run P w = .ok v w∧RepD P g w d v:=by
 unfold dn at h;have ha:=qw hT ht w;have hs:=bi hT ht w;split at h
 ·rename_i hag;split at h
  ·rename_i hle;have hle:=Nat.le_of_ble_eq_true hle;cases h
   have hrun:=run_loadCells (P:=P) w ⟨b,q+off,none⟩ ti.size (λj=>(w.cell? ⟨b,q+off+j,none⟩).getD undef) (by
    intro j hj;rw[Addr.add_lit]
    have hlt:off+j<cs.length:=by omega
    obtain⟨x,hx,_⟩:=hc (off+j) _ (LP hlt);rw[← Nat.add_assoc]at hx;rw[hx];rfl)
   refine⟨.agg ⟨(List.range ti.size).map (λj=>(w.cell? ⟨b,q+off+j,none⟩).getD undef)⟩,by simp only[loadVar,Sem.run_bind,ha,Result.andThen_ok,hag,if_true,hs,hrun,Sem.run_pure],?_⟩
   refine .agg (by simp;omega) ?_
   intro k c x h1 h2;rw[List.getElem?_take]at h1;split at h1
   ·rename_i hk;rw[List.getElem?_drop]at h1;obtain⟨y,hy,hr⟩:=hc (off+k) c h1;rw[← Nat.add_assoc]at hy;simp only[List.getElem?_map,List.getElem?_range hk,Option.map_some,Option.some.injEq]at h2;rw[hy]at h2;simp only[Option.getD_some]at h2;subst h2;exact hr
   ·cases h1
  ·cases h
 ·rename_i hag;split at h
  ·rename_i c hcc;cases h;obtain⟨x,hx,hr⟩:=hc off c hcc
   have hag':dl ti.desc=false:=by simpa using hag
   refine⟨x,?_,.c hr⟩;simp only[loadVar,Sem.run_bind,ha,Result.andThen_ok,hag',Bool.false_eq_true,if_false,run_load,hx]
  ·cases h
theorem CO{α : Type}{sz:Nat}:∀{es:List (List α)} (_:∀e∈es,e.length=sz) {i k:Nat} {e:List α} {d:α} (_:es[i]? = some e) (_:e[k]? = some d),es.flatten[i*sz+k]? = some d
 | [],_,i,k,e,d,h1,_=>by simp at h1
 | x::es,hsz,0,k,e,d,h1,h2=>by simp only[List.getElem?_cons_zero,Option.some.injEq]at h1;subst h1;simp only[List.flatten_cons,Nat.zero_mul,Nat.zero_add];rw[List.getElem?_append_left (LQ.1 h2).1];exact h2
 | x::es,hsz,i+1,k,e,d,h1,h2=>by
  simp only[List.getElem?_cons_succ]at h1
  have hx:x.length=sz:=hsz x (by simp)
  have ih:=CO (es:=es) (λe he=>hsz e (by simp[he])) h1 h2
  simp only[List.flatten_cons]
  rw[List.getElem?_append_right (by rw[hx,Nat.succ_mul];omega),hx]
  rw[show(i+1)*sz+k - sz=i*sz+k by rw[Nat.succ_mul];omega]
  exact ih
theorem uK{α : Type}{sz:Nat}:∀{es:List (List α)} (_:∀e∈es,e.length=sz),es.flatten.length=es.length*sz
 | [],_=>by simp
 | x::es,h=>by
  have hx:x.length=sz:=h x (by simp)
  have ih:=uK (es:=es) (λe he=>h e (by simp[he]))
  simp only[List.flatten_cons,LR,List.length_cons,ih,hx,Nat.succ_mul];omega
theorem rW{t:Ty}{l:List (ET F t)}:∀e∈l.map (encT F t),e.length=szT F t:=by intro e he;rw[List.mem_map]at he;obtain⟨x,_,rfl⟩:=he;exact aN F t x
theorem ay{t:Ty}{l:List (ET F t)}:(cells F t l).length=l.length*szT F t:=by unfold cells;rw[uK rW,List.length_map]
theorem aM{t:Ty}{l:List (ET F t)}{i k:Nat}{x:ET F t}{d:ND F}(h:l[i]? = some x)(hk:(encT F t x)[k]? = some d):(cells F t l)[i*szT F t+k]? = some d:=
 CO rW (by rw[List.getElem?_map,h];rfl) hk
theorem BY(hm:MemOk own g w m){id:Nat}{cs:List (Cel F)}(h:m id=some (.box cs)){b:Nat}{c:Nat×Nat×NS}(hi:g.ids id=some (some (b,c))) :
  ∀k c,cs[k]? = some c→∃x,w.cell? ⟨b,0+k,none⟩=some x∧RepC g w c x:=by
 obtain⟨b',c',arr,t,h1,h2,h3,h4⟩:=hm.ok id _ h;rw[h1]at hi;cases hi;intro k c hk
 have hlt:k<arr.length:=by rw[h3];exact(LQ.1 hk).1
 refine⟨arr[k],?_,h4 k c _ hk (LP hlt)⟩;simp[World.cell?,h2,hlt]
theorem bQ(hm:MemOk own g w m){id:Nat}{t:Ty}{l:List (ET F t)}(h:m id=some (.row t l)){b c:Nat}{n:Nat×NS}(hi:g.ids id=some (some (b,c,n))) :
  n=(l.length,[])∧l.length≤c∧∀k d,(cells F t l)[k]? = some d→∃x,w.cell? ⟨b,k,none⟩=some x∧RepI w g.imm d x:=by
 rcases hm.ok id _ h with⟨h1,_⟩ | ⟨b',cap,cur,e,h1,h2,h3,h4,h5,h6⟩
 ·rw[h1]at hi;cases hi
 ·rw[h1]at hi;cases hi;refine⟨rfl,h3,?_⟩;intro k d hk
  have hlt:k<cur.length:=by have h7:k<(cells F t l).length:=(LQ.1 hk).1;rw[ay]at h7;have:l.length*szT F t≤c*szT F t:=Nat.mul_le_mul_right _ h3;omega
  refine⟨cur[k],?_,h6 k d _ hk (LP hlt)⟩;simp[World.cell?,h2,hlt]
theorem ph(hm:MemOk own g w m){id:Nat}{t:Ty}{l:List (ET F t)}(h:m id=some (.fro t l)){b c:Nat}{n:Nat×NS}(hi:g.ids id=some (some (b,c,n))) :
  ∃ns,n=(l.length,ns)∧l.length≤c∧c≤maxLen∧g.imm b∧∀k d,(cells F t l)[k]? = some d→∃x,w.cell? ⟨b,k,none⟩=some x∧RepI w g.imm d x:=by
 rcases hm.ok id _ h with⟨h1,_⟩ | ⟨b',cap,ns,h1,hn,h2,h3,h4,h5⟩
 ·rw[h1]at hi;cases hi
 ·rw[h1]at hi;cases hi;exact⟨_,rfl,h3,h4,h2,h5⟩
theorem eX(hm:MemOk own g w m){id:Nat}{t:Ty}{l:List (ET F t)}(h:m id=some (.nrow t l)){b c:Nat}{n:Nat×NS}(hi:g.ids id=some (some (b,c,n))) :
  n.1=l.length∧l.length≤c∧c≤maxLen∧∀k d,(cells F t l)[k]? = some d→∃x pl,w.cell? ⟨b,k,none⟩=some x∧n.2[k]? = some pl∧OwnC w g.imm d x pl:=by
 obtain⟨pl,h1,h2⟩:=hm.ok id _ h;rw[h1]at hi;cases hi;obtain⟨q1,q2,q3,q4,q5,cur,e,q6,q7,q8⟩:=h2;refine⟨q1,q2,q3,?_⟩;intro k d hk;have h7:k<(cells F t l).length:=(LQ.1 hk).1
 have hlt:k<cur.length:=by have h8:=h7;rw[ay]at h8;have:l.length*szT F t≤c*szT F t:=Nat.mul_le_mul_right _ q2;omega
 refine⟨cur[k],n.2[k],?_,LP (by omega),q8 k d _ _ hk (LP hlt) (LP (by omega))⟩
 simp[World.cell?,q6,hlt]
theorem fu{cs:List (ND F)}{k:Nat}{c:Cel F}(h:(cs.map Cel.im)[k]? = some c):∃d,cs[k]? = some d∧c = .im d:=by rw[List.getElem?_map,Option.map_eq_some_iff]at h;obtain⟨d,hd,rfl⟩:=h;exact⟨d,hd,rfl⟩
theorem Gd(hT:TblOk P T){t:TypeId}{x:Operand}(ho:o.op = .load t x):Rule P o vals mm c K (tLoad T vals mm K t):=by
 unfold tLoad
 have key:∀{w:World}{a:Act}{b q:Nat}{v:Value},a.eval x = .pointer (some ⟨b,q,none⟩)→(loadVar t ⟨b,q,none⟩).run P w = .ok v w→(execOp a.eval o).run P w = .ok (.value v) w:=by intro w a b q v e hr;simp[execOp,ho,e,Instr.loadAt,Instr.sureAddr,hr]
 split
 ·exact ad
 ·rename_i ti hti;split
  ·refine lH λd hd=>?_;intro own g w a m _ _ hr;rw[ho]at hr;obtain⟨b,q,fn,hb,e,hc,hr⟩:=uw (reps1 hr)
   obtain⟨v,hrun,hrep⟩:=cD (P:=P) (g:=g) (w:=w) hT hti hd (b:=b) (q:=q) (by intro k c hk;obtain⟨d',hd',rfl⟩:=fu hk;exact⟨fn k,hc k d' hd',.im (hr k d' hd')⟩)
   exact⟨v,key e hrun,hrep⟩
  ·rename_i cs;refine au (λ_=>ad) (λhag=>ao ?_);intro own g w a m _ _ hr;rw[ho]at hr;obtain⟨b,q,b2,q2,fn,hb,hv,hb2,e,hc,hr⟩:=IX (reps1 hr)
   have hd:dn ti [Cel.pt cs 0] 0=some (.c (.pt cs 0)):=by simp[dn,hag]
   obtain⟨v,hrun,hrep⟩:=cD (P:=P) (g:=g) (w:=w) hT hti hd (b:=b) (q:=q) (by
    intro k c hk
    cases k with
    | zero=>simp only[List.getElem?_cons_zero,Option.some.injEq]at hk;subst hk;exact⟨_,hv,.pt cs 0 b2 q2 fn hb2 hc hr⟩
    | succ k=>simp at hk)
   exact⟨v,key e hrun,hrep⟩
  ·split
   ·rename_i hbox;refine lH λd hd=>?_;intro own g w a m hle hm hr;rw[ho]at hr;obtain⟨b,c,hi,e⟩:=bh (reps1 hr);obtain⟨v,hrun,hrep⟩:=cD (P:=P) (g:=g) (w:=w) hT hti hd (b:=b) (q:=0) (BY hm (hle _ _ hbox) hi);rw[Nat.zero_add]at hrun;exact⟨v,key e hrun,hrep⟩
   ·rename_i hbox;refine lH λd hd=>?_;intro own g w a m hle hm hr;rw[ho]at hr;obtain⟨b,c,hi,e⟩:=bh (reps1 hr);obtain⟨b',c',h1,h2,h3⟩:=hm.ok _ _ (hle _ _ hbox);rw[h1]at hi;cases hi
    obtain⟨v,hrun,hrep⟩:=cD (P:=P) (g:=g) (w:=w) hT hti hd (b:=b) (q:=0) (by
     intro k c hk;obtain⟨d',hd',rfl⟩:=fu hk;obtain⟨y,k1,k2⟩:=h3 k d' hd'
     exact⟨y,by rw[Nat.zero_add];exact k1,.im k2⟩)
    rw[Nat.zero_add]at hrun;exact⟨v,key e hrun,hrep⟩
   ·exact ad
  ·rename_i id sz i off;split
   ·rename_i t' l hrow;refine au (λhsz=>ax λx hx=>lH λd hd=>?_) (λ_=>ad);subst hsz;intro own g w a m hle hm hr;rw[ho]at hr;obtain⟨b,c,hi,e⟩:=d9 (reps1 hr);obtain⟨_,_,hcell⟩:=bQ hm (hle _ _ hrow) (c:=c.1) (n:=c.2) hi
    obtain⟨v,hrun,hrep⟩:=cD (P:=P) (g:=g) (w:=w) hT hti hd (b:=b) (q:=i*szT F t') (by intro k c hk;obtain⟨d',hd',rfl⟩:=fu hk;obtain⟨y,hy,hr⟩:=hcell _ _ (aM hx hd');exact⟨y,hy,.im hr⟩)
    exact⟨v,key e hrun,hrep⟩
   ·rename_i t' l hrow;refine au (λhsz=>ax λx hx=>lH λd hd=>?_) (λ_=>ad);subst hsz;intro own g w a m hle hm hr;rw[ho]at hr;obtain⟨b,c,hi,e⟩:=d9 (reps1 hr);obtain⟨_,_,_,_,_,hcell⟩:=ph hm (hle _ _ hrow) (c:=c.1) (n:=c.2) hi
    obtain⟨v,hrun,hrep⟩:=cD (P:=P) (g:=g) (w:=w) hT hti hd (b:=b) (q:=i*szT F t') (by intro k c hk;obtain⟨d',hd',rfl⟩:=fu hk;obtain⟨y,hy,hr⟩:=hcell _ _ (aM hx hd');exact⟨y,hy,.im hr⟩)
    exact⟨v,key e hrun,hrep⟩
   ·rename_i t' l hrow;refine au (λhsz=>ax λx hx=>?_) (λ_=>ad);simp only[Bool.and_eq_true,decide_eq_true_eq,Bool.not_eq_true']at hsz;obtain⟨rfl,hag⟩:=hsz
    have one:∀{w:World}{b q:Nat}{v:Value},w.cell? ⟨b,q,none⟩=some v→(loadVar t ⟨b,q,none⟩).run P w = .ok v w:=by intro w b q v h;simp only[loadVar,Sem.run_bind,qw hT hti,Result.andThen_ok,hag,Bool.false_eq_true,if_false,run_load,h]
    split
    ·rename_i t2 l2 hd;refine ao ?_;intro own g w a m hle hm hr;rw[ho]at hr;obtain⟨b,c,hi,e⟩:=d9 (reps1 hr);obtain⟨_,_,_,hcell⟩:=eX hm (hle _ _ hrow) (c:=c.1) (n:=c.2) hi;obtain⟨y,pl,k1,k2,k3⟩:=hcell _ _ (aM hx hd);exact⟨y,key e (one k1),.c (.nsl hi k2 k3.2)⟩
    ·rename_i d hns hd;refine au (λhf=>ao ?_) (λ_=>ad);intro own g w a m hle hm hr;rw[ho]at hr;obtain⟨b,c,hi,e⟩:=d9 (reps1 hr);obtain⟨_,_,_,hcell⟩:=eX hm (hle _ _ hrow) (c:=c.1) (n:=c.2) hi;obtain⟨y,pl,k1,k2,k3⟩:=hcell _ _ (aM hx hd);refine⟨y,key e (one k1),.c (.im ?_)⟩
     cases d with
     | sl t2 l2=>exact absurd rfl (hns t2 l2)
     | _=>exact k3.2.2
    ·exact ad
   ·exact ad
  ·exact ad
end
set_option linter.unusedVariables false
set_option linter.unusedSimpArgs false
section
variable{F:Fam}{P:Program}{T:TypeId→Option (TI F)}{o:Oper}{vals:List (Dat F)}{mm:Nat→Option (Blk F)}{c:Nat}{R:Type}{K:Res F→Option R}{own:Ow}{g:G}{w:World}{m:Nat→Option (Blk F)}
theorem F0{α : Type}{l:List α}{i:Int}{x:α}(h:idx l i=some x):0≤i∧l[i.toNat]? = some x:=by
 unfold idx at h;split at h
 ·exact⟨by assumption,h⟩
 ·cases h
theorem mE{i:Int}{n k:Nat}(h:inb i n=some k):0≤i∧i.toNat<n∧k=i.toNat:=by
 unfold inb at h;split at h
 ·rename_i hc;cases h;exact⟨hc.1,hc.2,rfl⟩
 ·cases h
theorem Gr{a b:Int}{n:Nat}{p:Nat×Nat}(h:inS a b n=some p):0≤a∧a≤b∧b≤n∧p=(a.toNat,b.toNat - a.toNat):=by
 unfold inS at h;split at h
 ·rename_i hc;cases h;exact⟨hc.1,hc.2.1,hc.2.2,rfl⟩
 ·cases h
theorem Ag{α : Type}{l r:List α}{a b:Int}(h:slc l a b=some r):0≤a∧a≤b∧b≤l.length∧r=(l.take b.toNat).drop a.toNat:=by
 unfold slc at h;split at h
 ·rename_i hc;cases h;exact⟨hc.1,hc.2.1,hc.2.2,rfl⟩
 ·cases h
theorem aU{id:Nat}{v:Value}(h:RepC (F:=F) g w (.wsl id) v):(g.ids id=some none∧∃p,v = .slice p 0 0)∨
  ∃(b c:Nat)(n:Nat×NS),g.ids id=some (some (b,c,n))∧n.1≤c∧c≤maxLen∧v = .slice (some ⟨b,0,none⟩) n.1 c:=by
 cases h with
 | wsl0 p h=>exact .inl ⟨h,p,rfl⟩
 | wsl h h1 h2=>exact .inr ⟨_,_,_,h,h1,h2,rfl⟩
theorem nP{id sz off n:Nat}{v:Value}(h:RepC (F:=F) g w (.lsl id sz off n) v):(g.ids id=some none∧off=0∧n=0∧∃p,v = .slice p 0 0)∨
  ∃(b c:Nat)(len:Nat×NS)(o:Nat),g.ids id=some (some (b,c,len))∧off+n≤len.1∧len.1≤c∧((off=c∧0<c)∨o=off*sz)∧c≤maxLen∧v = .slice (some ⟨b,o,none⟩) n (c - off):=by
 cases h with
 | lsl0 p h=>exact .inl ⟨h,rfl,rfl,p,rfl⟩
 | lsl h h1 h2 h3 h4=>exact .inr ⟨_,_,_,_,h,h1,h2,h3,h4,rfl⟩
theorem Hq{n k:Nat}{y:Operand}(h:litIx n y=some k):k<n∧∃kd,y = .const (.int kd (k:Int)):=by
 unfold litIx at h;split at h
 ·split at h
  ·rename_i kd k' hk;cases h;simp only[Nat.blt_eq]at hk;exact⟨hk,kd,rfl⟩
  ·cases h
 ·cases h
theorem Al{t':Ty}{l:List (ET F t')}{n:Int}{x:ET F t'}{v:Value}(hx:idx l n=some x)(hv:RepI w g.imm (.sl t' l) v) :
  ∃b q len cap,v = .slice (some ⟨b,q,none⟩) len cap∧0≤n∧n<len∧RepC g w (.pt (encT F t' x) 0) (.pointer (some ⟨b,q+n.toNat*szT F t'+0,none⟩)):=by
 obtain⟨h0,h1⟩:=F0 hx;have hlt:n.toNat<l.length:=(LQ.1 h1).1;rcases wV hv with⟨rfl,_⟩ | ⟨b,q,cap,fn,hb,hcap,hmx,e1,hc,hr⟩
 ·simp at hlt
 ·refine⟨b,q,l.length,cap,e1,h0,by omega,.pt _ 0 b (q+n.toNat*szT F t') (λk=>fn (n.toNat*szT F t'+k)) hb ?_ ?_⟩
  ·intro k d hk;rw[Nat.add_assoc];exact hc _ d (aM h1 hk)
  ·intro k d hk;exact hr _ d (aM h1 hk)
theorem fb{t:Ty}{l:List (ET F t)}{a n:Nat}:cells F t (sub l a n)=((cells F t l).drop (a*szT F t)).take (n*szT F t):=by
 unfold cells sub
 have drop_flat:∀{es:List (List (ND F))} (_:∀e∈es,e.length=szT F t) (n:Nat),(es.drop n).flatten=es.flatten.drop (n*szT F t):=by
  intro es
  induction es with
  | nil=>intro _ n;simp
  | cons x es ih=>
   intro h n
   cases n with
   | zero=>simp
   | succ n=>
    have hx:x.length=szT F t:=h x (by simp)
    have e1:x.drop (n*szT F t+szT F t) = []:=List.drop_of_length_le (by omega)
    rw[List.drop_succ_cons,ih (λe he=>h e (by simp[he])) n,List.flatten_cons,Nat.succ_mul,List.drop_append,hx,e1]
    simp
 have take_flat:∀{es:List (List (ND F))} (_:∀e∈es,e.length=szT F t) (n:Nat),(es.take n).flatten=es.flatten.take (n*szT F t):=by
  intro es
  induction es with
  | nil=>intro _ n;simp
  | cons x es ih=>
   intro h n
   cases n with
   | zero=>simp
   | succ n=>
    have hx:x.length=szT F t:=h x (by simp)
    have e1:x.take (n*szT F t+szT F t)=x:=List.take_of_length_le (by omega)
    rw[List.take_succ_cons,List.flatten_cons,ih (λe he=>h e (by simp[he])) n,List.flatten_cons,Nat.succ_mul,List.take_append,hx,e1]
    simp
 rw[List.map_take,List.map_drop,take_flat (λe he=>rW e (List.mem_of_mem_drop he)),drop_flat rW]
theorem h_{t:Ty}{l:List (ET F t)}{a n k:Nat}{d:ND F}(h:(cells F t (sub l a n))[k]? = some d):(cells F t l)[a*szT F t+k]? = some d:=by
 rw[fb,List.getElem?_take]at h;split at h
 ·rwa [List.getElem?_drop]at h
 ·cases h
theorem sZ(hm:MemOk own g w m){id:Nat}{t:Ty}{l:List (ET F t)}(h:m id=some (.fro t l)){v:Value}(hv:RepC (F:=F) g w (.wsl id) v):RepI w g.imm (.sl t l) v:=by
 rcases aU hv with⟨hi,p,rfl⟩ | ⟨b,c,n,hi,h1,h2,rfl⟩
 ·rcases hm.ok id _ h with⟨_,rfl⟩ | ⟨b',cap,_,k1,_⟩
  ·exact .sl0 t p
  ·rw[hi]at k1;cases k1
 ·obtain⟨ns,rfl,h4,h5,h6,h7⟩:=ph hm h hi;refine .sl t l b 0 c (λk=>(w.cell? ⟨b,k,none⟩).getD undef) h6 h4 h5 ?_ ?_
  ·intro k d hk;obtain⟨x,k1,k2⟩:=h7 k d hk;rw[Nat.zero_add,k1];rfl
  ·intro k d hk;obtain⟨x,k1,k2⟩:=h7 k d hk;rw[k1];exact k2
theorem Dc(hm:MemOk own g w m){id:Nat}{t:Ty}{l:List (ET F t)}(h:m id=some (.fro t l)){sz off n:Nat}(hsz:sz=szT F t){v:Value}(hv:RepC (F:=F) g w (.lsl id sz off n) v):RepI w g.imm (.sl t (sub l off n)) v:=by
 subst hsz;rcases nP hv with⟨hi,rfl,rfl,p,rfl⟩ | ⟨b,c,len,q,hi,h1,h2,h3,h4,rfl⟩
 ·have:sub l 0 0 = []:=by simp[sub]
  rw[this];exact .sl0 t p
 ·obtain⟨ns,rfl,h4,h5,h6,h7⟩:=ph hm h hi
  have hlen:(sub l off n).length=n:=by simp only[sub,List.length_take,List.length_drop];omega
  have key:∀(k:Nat)(d:ND F),(cells F t (sub l off n))[k]? = some d→∃x,w.cell? ⟨b,q+k,none⟩=some x∧RepI w g.imm d x:=by
   intro k d hk;rcases h3 with⟨h3,_⟩ | h3
   ·have h0:n=0:=by omega
    subst h0;simp[sub,cells]at hk
   ·subst h3;exact h7 _ _ (h_ hk)
  have:=RepI.sl (F:=F) (w:=w) (imm:=g.imm) t (sub l off n) b q (c - off) (λk=>(w.cell? ⟨b,q+k,none⟩).getD undef) h6 (by omega) (by omega)
   (λk d hk=>by obtain⟨x,k1,k2⟩:=key k d hk;rw[k1];rfl) (λk d hk=>by obtain⟨x,k1,k2⟩:=key k d hk;rw[k1];exact k2)
  rwa [hlen]at this
theorem Bt(hT:TblOk P T){t:TypeId}{x ix:Operand}(ho:o.op = .indexAddr t x ix):Rule P o vals mm c K (vk T vals mm K t ix):=by
 unfold vk;split
 ·rename_i e _ _ _ _ _ ht;split
  ·exact ad
  ·rename_i te hte
   have run:∀{w:World}{a:Act}{b q len cap:Nat}{k:IntKind} {n:Int},a.eval x = .slice (some ⟨b,q,none⟩) len cap→a.eval ix = .int k n→0≤n→n<len→
     (execOp a.eval o).run P w = .ok (.value (.pointer (some ⟨b,q+n.toNat*te.size,none⟩))) w:=by
    intro w a b q len cap k n e1 e2 h0 h1;have hu:=run_underlying (hT.und _ _ ht) w;have hs:=bi hT hte w;have h2:0≤n∧n<len:=⟨h0,h1⟩;simp only[execOp,ho,e1,e2,Sem.run_bind,Instr.indexAt,asIntOf,hu,Result.andThen_ok,Sem.run_pure,h2,and_self,if_true,hs,Addr.add_lit]
   split
   ·rename_i t' l k n;refine au (λhsz=>ax λx' hx=>ao ?_) (λ_=>ad);intro own g w a m hle hm hr;rw[ho]at hr;simp only[Op.operands,List.map_cons,List.map_nil]at hr;obtain⟨h1,h2⟩:=reps2 hr;obtain⟨b,q,len,cap,e1,h3,h4,h5⟩:=Al hx (wA h1);rw[hsz]at h5;exact⟨_,run e1 (bE h2) h3 h4,.c h5⟩
   ·rename_i id k n;split
    ·rename_i t' l hrow;refine au (λhsz=>ax λi hi=>ao ?_) (λ_=>ad);intro own g w a m hle hm hr;rw[ho]at hr;simp only[Op.operands,List.map_cons,List.map_nil]at hr;obtain⟨h1,h2⟩:=reps2 hr;obtain⟨h3,h4,rfl⟩:=mE hi;rcases aU (aO h1)with⟨hid,p,ev⟩ | ⟨b,c',len,hid,h5,h6,ev⟩
     ·rcases hm.ok id _ (hle _ _ hrow)with⟨_,rfl⟩ | ⟨_,_,_,_,k1,_⟩
      ·simp at h4
      ·rw[hid]at k1;cases k1
     ·obtain⟨rfl,_,_⟩:=bQ hm (hle _ _ hrow) hid
      exact⟨_,run ev (bE h2) h3 (by dsimp only;omega),by rw[Nat.zero_add];exact .c (.pel (off:=0) hid)⟩
    ·rename_i t' l hrow;refine au (λhsz=>ax λi hi=>ao ?_) (λ_=>ad);intro own g w a m hle hm hr;rw[ho]at hr;simp only[Op.operands,List.map_cons,List.map_nil]at hr;obtain⟨h1,h2⟩:=reps2 hr;obtain⟨h3,h4,rfl⟩:=mE hi;rcases aU (aO h1)with⟨hid,p,ev⟩ | ⟨b,c',len,hid,h5,h6,ev⟩
     ·obtain⟨pl,k1,k2⟩:=hm.ok id _ (hle _ _ hrow);rw[hid]at k1;cases k1;have k2:l = []:=k2;subst k2;simp at h4
     ·obtain⟨k1,_⟩:=eX hm (hle _ _ hrow) hid
      exact⟨_,run ev (bE h2) h3 (by omega),by rw[Nat.zero_add];exact .c (.pel (off:=0) hid)⟩
    ·rename_i t' l _ _ hrow;refine au (λhsz=>ax λi hi=>ao ?_) (λ_=>ad);intro own g w a m hle hm hr;rw[ho]at hr;simp only[Op.operands,List.map_cons,List.map_nil]at hr;obtain⟨h1,h2⟩:=reps2 hr;obtain⟨h3,h4,rfl⟩:=mE hi;rcases aU (aO h1)with⟨hid,p,ev⟩ | ⟨b,c',len,hid,h5,h6,ev⟩
     ·obtain⟨pl,k1,k2⟩:=hm.ok id _ (hle _ _ hrow);rw[hid]at k1;cases k1;have k2:l = []:=k2;subst k2;simp at h4
     ·obtain⟨pl,k1,k2⟩:=hm.ok id _ (hle _ _ hrow);rw[hid]at k1;cases k1;have k1:=k2.1
      exact⟨_,run ev (bE h2) h3 (by omega),by rw[Nat.zero_add];exact .c (.pel (off:=0) hid)⟩
    ·rename_i t' l _ hrow;refine au (λhsz=>ax λi hi=>ao ?_) (λ_=>ad);intro own g w a m hle hm hr;rw[ho]at hr;simp only[Op.operands,List.map_cons,List.map_nil]at hr;obtain⟨h1,h2⟩:=reps2 hr;obtain⟨h3,h4,rfl⟩:=mE hi;rcases aU (aO h1)with⟨hid,p,ev⟩ | ⟨b,c',len,hid,h5,h6,ev⟩
     ·obtain⟨pl,k1,k2⟩:=hm.ok id _ (hle _ _ hrow);rw[hid]at k1;cases k1;have k2:l = []:=k2;subst k2;simp at h4
     ·obtain⟨pl,k1,k2⟩:=hm.ok id _ (hle _ _ hrow);rw[hid]at k1;cases k1;have k1:=k2.1
      exact⟨_,run ev (bE h2) h3 (by omega),by rw[Nat.zero_add];exact .c (.pel (off:=0) hid)⟩
    ·rename_i t' l hrow;refine au (λhsz=>ax λx' hx=>ao ?_) (λ_=>ad);intro own g w a m hle hm hr;rw[ho]at hr;simp only[Op.operands,List.map_cons,List.map_nil]at hr;obtain⟨h1,h2⟩:=reps2 hr;obtain⟨b,q,len,cap,e1,h3,h4,h5⟩:=Al hx (sZ hm (hle _ _ hrow) (aO h1));rw[hsz]at h5;exact⟨_,run e1 (bE h2) h3 h4,.c h5⟩
    ·exact ad
   ·rename_i id sz i0 off k n;split
    ·rename_i t' l hrow;refine au (λhsz=>ax λx' hx=>?_) (λ_=>ad);subst hsz;split
     ·rename_i t2 l2 hd;refine au (λhsz=>ax λj hj=>ao ?_) (λ_=>ad);intro own g w a m hle hm hr;rw[ho]at hr;simp only[Op.operands,List.map_cons,List.map_nil]at hr;obtain⟨h1,h2⟩:=reps2 hr;obtain⟨h3,h4,rfl⟩:=mE hj;obtain⟨b,c',nn,pl,hid,hk,hv⟩:=IZ h1;obtain⟨_,_,_,hcell⟩:=eX hm (hle _ _ hrow) hid;obtain⟨y,pl',_,k2,k3⟩:=hcell _ _ (aM hx hd);rw[hk]at k2;cases k2
      cases pl with
      | none=>have k3:l2 = []:=k3.1;subst k3;simp at h4
      | some q=>
       obtain⟨b2,c2,n2⟩:=q;obtain⟨k4,k5,k6,_⟩:=k3.1;simp only[Prod.mk.injEq,and_true]at k4
       refine⟨_,run hv (bE h2) h3 (by dsimp only;omega),?_⟩
       rw[Nat.zero_add];exact .c (.nel (off':=0) hid hk)
     ·exact ad
    ·exact ad
   ·rename_i id sz off len k n;refine au (λhsz=>ax λi hi=>ao ?_) (λ_=>ad);intro own g w a m hle hm hr;rw[ho]at hr;simp only[Op.operands,List.map_cons,List.map_nil]at hr;obtain⟨h1,h2⟩:=reps2 hr;obtain⟨h3,h4,rfl⟩:=mE hi;rcases nP (aO h1)with⟨_,_,rfl,_⟩ | ⟨b,c',len',q,hid,h5,h6,h7,h8,ev⟩
    ·omega
    ·have hq:q=off*sz:=by
      rcases h7 with h7 | h7
      ·omega
      ·exact h7
     subst hq
     refine⟨_,run ev (bE h2) h3 (by omega),?_⟩
     rw[← hsz,← Nat.add_mul];exact .c (.pel (off:=0) hid)
   ·rename_i id len k n;refine au (λhsz=>ax λi hi=>ao ?_) (λ_=>ad);intro own g w a m hle hm hr;rw[ho]at hr;simp only[Op.operands,List.map_cons,List.map_nil]at hr;obtain⟨h1,h2⟩:=reps2 hr;obtain⟨h3,h4,rfl⟩:=mE hi;obtain⟨b,c',hid,_,ev⟩:=A_ h1
    refine⟨_,run ev (bE h2) h3 (by omega),?_⟩
    rw[hsz,Nat.mul_one,Nat.zero_add];exact .c (.ptr hid)
   ·exact ad
 ·rename_i len e _ _ _ _ _ ht;split
  ·exact ad
  ·rename_i te hte
   have run:∀{w:World}{a:Act}{b q:Nat}{k:IntKind} {n:Int},a.eval x = .pointer (some ⟨b,q,none⟩)→a.eval ix = .int k n→0≤n→n<len→
     (execOp a.eval o).run P w = .ok (.value (.pointer (some ⟨b,q+n.toNat*te.size,none⟩))) w:=by
    intro w a b q k n e1 e2 h0 h1;have hu:=run_underlying (hT.und _ _ ht) w;have hs:=bi hT hte w;have h2:0≤n∧n<len:=⟨h0,h1⟩;simp only[execOp,ho,e1,e2,Sem.run_bind,Instr.indexAt,asIntOf,hu,Result.andThen_ok,Sem.run_pure,Instr.sureAddr,h2,and_self,if_true,hs,Addr.add_lit]
   have lit:∀{i:Nat},litIx len ix=some i→∀(a:Act),∃k,a.eval ix = .int k (i:Int)∧(0:Int)≤i∧(i:Int)<len:=by
    intro i hi a;obtain⟨h1,kd,rfl⟩:=Hq hi
    exact⟨kd,rfl,by omega,by omega⟩
   split
   ·rename_i id off k n;split
    ·rename_i t' l hrow;refine au (λhsz=>?_) (λ_=>ad);split
     ·rename_i i hi;refine ao ?_;intro own g w a m hle hm hr;rw[ho]at hr;simp only[Op.operands,List.map_cons,List.map_nil]at hr;obtain⟨h1,h2⟩:=reps2 hr;obtain⟨b,c',hid,e1⟩:=bh h1;obtain⟨kd,e2,h3,h4⟩:=lit hi a;refine⟨_,run e1 e2 h3 h4,?_⟩;rw[Nat.zero_add,Int.toNat_natCast];exact .c (.pel (off:=0) hid)
     ·refine ax λi hi=>ao ?_;intro own g w a m hle hm hr;rw[ho]at hr;simp only[Op.operands,List.map_cons,List.map_nil]at hr;obtain⟨h1,h2⟩:=reps2 hr;obtain⟨b,c',hid,e1⟩:=bh h1;obtain⟨h3,h4,rfl⟩:=mE hi
      refine⟨_,run e1 (bE h2) h3 (by omega),?_⟩
      rw[Nat.zero_add];exact .c (.pel (off:=0) hid)
    ·split
     ·rename_i i hi;refine ao ?_;intro own g w a m hle hm hr;rw[ho]at hr;simp only[Op.operands,List.map_cons,List.map_nil]at hr;obtain⟨h1,h2⟩:=reps2 hr;obtain⟨b,c',hid,e1⟩:=bh h1;obtain⟨kd,e2,h3,h4⟩:=lit hi a;refine⟨_,run e1 e2 h3 h4,?_⟩;rw[Int.toNat_natCast];exact .c (.ptr hid)
     ·exact ad
    ·exact ad
   ·split
    ·rename_i i hi;refine ao ?_;intro own g w a m hle hm hr;rw[ho]at hr;simp only[Op.operands,List.map_cons,List.map_nil]at hr;obtain⟨h1,h2⟩:=reps2 hr;obtain⟨b,c',hid,e1⟩:=d9 h1;obtain⟨kd,e2,h3,h4⟩:=lit hi a;refine⟨_,run e1 e2 h3 h4,?_⟩;rw[Int.toNat_natCast,Nat.add_assoc];exact .c (.pel hid)
    ·exact ad
   ·split
    ·rename_i i hi;refine ao ?_;intro own g w a m hle hm hr;rw[ho]at hr;simp only[Op.operands,List.map_cons,List.map_nil]at hr;obtain⟨h1,h2⟩:=reps2 hr;obtain⟨b,q,fn,hb,e1,hc,hr⟩:=uw h1;obtain⟨kd,e2,h3,h4⟩:=lit hi a;refine⟨_,run e1 e2 h3 h4,?_⟩;rw[Int.toNat_natCast,Nat.add_assoc];exact .c (.pt _ _ b q fn hb hc hr)
    ·exact ad
   ·exact ad
 ·exact ad
theorem Dg{x:Operand}{i:Nat}(ho:o.op = .extract x i):Rule P o vals mm c K (match vals with | [.tup ds]=>(match ds[i]? with | some d=>K { val:=d } | none=>none) | _=>none):=by
 split
 ·split
  ·rename_i ds _ d hd;refine ao ?_;intro own g w a m hle hm hr;rw[ho]at hr;obtain⟨vs,e,hl,hr⟩:=E9 (reps1 hr)
   have hlt:i<vs.length:=by rw[hl];exact(LQ.1 hd).1
   exact⟨vs[i],by simp[execOp,ho,e,Instr.extract,hlt],hr i d _ hd (LP hlt)⟩
  ·exact ad
 ·exact ad
theorem CF{x:Operand}(ho:o.op = .nilCheck x):Rule P o vals mm c K (w_ vals K):=by
 unfold w_;split
 ·refine ao ?_;intro own g w a m hle hm hr;rw[ho]at hr;have h1:=reps1 hr;obtain⟨b,c',hid,e1⟩:=bh h1
  exact⟨a.eval x,by simp[execOp,ho,e1],h1⟩
 ·refine ao ?_;intro own g w a m hle hm hr;rw[ho]at hr;have h1:=reps1 hr;obtain⟨b,c',hid,e1⟩:=d9 h1
  exact⟨a.eval x,by simp[execOp,ho,e1],h1⟩
 ·refine ao ?_;intro own g w a m hle hm hr;rw[ho]at hr;have h1:=reps1 hr;obtain⟨b,q,fn,hb,e1,_⟩:=uw h1
  exact⟨a.eval x,by simp[execOp,ho,e1],h1⟩
 ·exact ad
theorem GU{fn:Fn}{first captured:Array Operand}(ho:o.op = .makeFunc fn first captured):Rule P o vals mm c K (DI vals K fn first.size captured.size):=by
 unfold DI
 have ev:∀(a:Act)(w:World),(execOp a.eval o).run P w = .ok (.value (.func fn (first.map a.eval) (captured.map a.eval))) w:=by intro a w;simp only[execOp,ho,Instr.makeFunc,Sem.run_bind,Sem.run_pure,Result.andThen_ok]
 refine au (λhz=>?_) (λ_=>?_)
 ·simp only[Bool.and_eq_true,decide_eq_true_eq]at hz
  have h1:first = #[]:=Array.eq_empty_of_size_eq_zero hz.1
  have h2:captured = #[]:=Array.eq_empty_of_size_eq_zero hz.2;subst h1 h2;refine ao ?_;intro own g w a m hle hm hr
  exact⟨.func fn #[] #[],by simpa using ev a w,.c (.im (.v _ rfl))⟩
 ·refine ao ?_;intro own g w a m hle hm hr;rw[ho]at hr;simp only[Op.operands,Array.toList_append,List.map_append]at hr;obtain⟨hl,hr⟩:=hr;simp only[LR,List.length_map]at hl
  have e1:first.map a.eval=⟨first.toList.map a.eval⟩:=by apply Array.ext';simp
  have e2:captured.map a.eval=⟨captured.toList.map a.eval⟩:=by apply Array.ext';simp
  refine⟨_,ev a w,?_⟩;rw[e1,e2]
  have hfl:first.toList.length=first.size:=by simp
  have hcl:captured.toList.length=captured.size:=by simp
  refine .clo (by simp;omega) (by simp;omega) ?_ ?_
  ·intro k d x h1 h2;rw[List.getElem?_take]at h1;split at h1
   ·exact hr k d x h1 (by rw[List.getElem?_append_left (by simp;omega)];exact h2)
   ·cases h1
  ·intro k d x h1 h2;rw[List.getElem?_drop]at h1;refine hr _ d x h1 ?_
   rw[List.getElem?_append_right (by simp)]
   simpa using h2
theorem Fu(hT:TblOk P T){t:TypeId}{x ix:Operand}(ho:o.op = .index t x ix):Rule P o vals mm c K (DU T vals K t):=by
 unfold DU;split
 ·rename_i l k n ht;refine ax λch hch=>ao ?_;intro own g w a m hle hm hr;rw[ho]at hr;simp only[Op.operands,List.map_cons,List.map_nil]at hr;obtain⟨h1,h2⟩:=reps2 hr;obtain⟨h3,h4⟩:=F0 hch;have hlt:n.toNat<l.length:=(LQ.1 h4).1;have hs:(⟨⟨l⟩⟩:ByteArray).size=l.length:=rfl
  have hg:(⟨⟨l⟩⟩:ByteArray)[n.toNat]? = some ch:=by
   rw[getElem?_pos (⟨⟨l⟩⟩:ByteArray) n.toNat (by rw[hs];exact hlt)]
   congr 1
   exact(LQ.1 h4).2
  exact⟨.int .u8 ch.toNat,by simp only[execOp,ho,x_ h1,bE h2,Sem.run_bind,Instr.index,asIntOf,Sem.run_pure,Result.andThen_ok,run_underlying (hT.und _ _ ht),h3,if_true,hg],mk_i _ _⟩
 ·exact ad
theorem Hj(hT:TblOk P T){t:TypeId}{x:Operand}(ho:o.op = .call { callee:=.builtin .len,args:=#[x],argTypes:=#[t] }):Rule P o vals mm c K (tLen T vals mm K t):=by
 have key:∀{a:Act}{w:World}(n:Int),(Builtin.len_ #[t] o.type #[a.eval x]).run P w = .ok (.int .i64 n) w→(execOp a.eval o).run P w = .ok (.value (.int .i64 n)) w:=by intro a w n e;simp only[execOp,ho,resolve,invoke,builtin,Sem.run_bind,Sem.run_pure,Result.andThen_ok,List.map_toArray,List.map_cons,List.map_nil,e]
 have one:∀{a:Act}{d:Dat F}{g:G}{w:World},RepDs P g w [d] (o.op.operands.toList.map a.eval)→RepD P g w d (a.eval x):=by intro a d g w hr;rw[ho]at hr;exact reps1 hr
 unfold tLen;split
 ·rename_i ht;refine ao ?_;intro own g w a m hle hm hr
  exact⟨_,key _ (by simp[Builtin.len_,run_underlying (hT.und _ _ ht),x_ (one hr),goInt];rfl),mk_i _ _⟩
 ·rename_i ht;refine ao ?_;intro own g w a m hle hm hr;refine⟨_,key _ ?_,mk_i _ _⟩;rcases wV (wA (one hr))with⟨rfl,p,e⟩ | ⟨b,q,cap,fn,_,_,_,e,_⟩
  ·simp[Builtin.len_,run_underlying (hT.und _ _ ht),e,goInt]
  ·simp[Builtin.len_,run_underlying (hT.und _ _ ht),e,goInt]
 ·rename_i ht;refine ao ?_;intro own g w a m hle hm hr;obtain⟨p,e⟩:=pn (one hr)
  exact⟨_,key _ (by simp[Builtin.len_,run_underlying (hT.und _ _ ht),e,goInt]),mk_i _ _⟩
 ·rename_i id ht;split
  ·rename_i t' l hrow;refine ao ?_;intro own g w a m hle hm hr;refine⟨_,key _ ?_,mk_i _ _⟩;rcases aU (aO (one hr))with⟨hid,p,e⟩ | ⟨b,c',len,hid,h5,h6,e⟩
   ·rcases hm.ok id _ (hle _ _ hrow)with⟨_,rfl⟩ | ⟨_,_,_,_,k1,_⟩
    ·simp[Builtin.len_,run_underlying (hT.und _ _ ht),e,goInt]
    ·rw[hid]at k1;cases k1
   ·obtain⟨rfl,_,_⟩:=bQ hm (hle _ _ hrow) hid;simp[Builtin.len_,run_underlying (hT.und _ _ ht),e,goInt]
  ·rename_i t' l hrow;refine ao ?_;intro own g w a m hle hm hr;refine⟨_,key _ ?_,mk_i _ _⟩;rcases aU (aO (one hr))with⟨hid,p,e⟩ | ⟨b,c',len,hid,h5,h6,e⟩
   ·rcases hm.ok id _ (hle _ _ hrow)with⟨_,rfl⟩ | ⟨_,_,_,k1,_⟩
    ·simp[Builtin.len_,run_underlying (hT.und _ _ ht),e,goInt]
    ·rw[hid]at k1;cases k1
   ·obtain⟨_,rfl,_⟩:=ph hm (hle _ _ hrow) hid;simp[Builtin.len_,run_underlying (hT.und _ _ ht),e,goInt]
  ·rename_i t' l hrow;refine ao ?_;intro own g w a m hle hm hr;refine⟨_,key _ ?_,mk_i _ _⟩;rcases aU (aO (one hr))with⟨hid,p,e⟩ | ⟨b,c',len,hid,h5,h6,e⟩
   ·obtain⟨pl,k1,k2⟩:=hm.ok id _ (hle _ _ hrow);rw[hid]at k1;cases k1;have k2:l = []:=k2;subst k2;simp[Builtin.len_,run_underlying (hT.und _ _ ht),e,goInt]
   ·obtain⟨k1,_⟩:=eX hm (hle _ _ hrow) hid;simp[Builtin.len_,run_underlying (hT.und _ _ ht),e,goInt,k1]
  ·rename_i t' l _ _ hrow;refine ao ?_;intro own g w a m hle hm hr;refine⟨_,key _ ?_,mk_i _ _⟩;rcases aU (aO (one hr))with⟨hid,p,e⟩ | ⟨b,c',len,hid,h5,h6,e⟩
   ·obtain⟨pl,k1,k2⟩:=hm.ok id _ (hle _ _ hrow);rw[hid]at k1;cases k1;have k2:l = []:=k2;subst k2;simp[Builtin.len_,run_underlying (hT.und _ _ ht),e,goInt]
   ·obtain⟨pl,k1,k2⟩:=hm.ok id _ (hle _ _ hrow);rw[hid]at k1;cases k1;have k1:=k2.1;simp[Builtin.len_,run_underlying (hT.und _ _ ht),e,goInt,k1]
  ·rename_i t' l _ hrow;refine ao ?_;intro own g w a m hle hm hr;refine⟨_,key _ ?_,mk_i _ _⟩;rcases aU (aO (one hr))with⟨hid,p,e⟩ | ⟨b,c',len,hid,h5,h6,e⟩
   ·obtain⟨pl,k1,k2⟩:=hm.ok id _ (hle _ _ hrow);rw[hid]at k1;cases k1;have k2:l = []:=k2;subst k2;simp[Builtin.len_,run_underlying (hT.und _ _ ht),e,goInt]
   ·obtain⟨pl,k1,k2⟩:=hm.ok id _ (hle _ _ hrow);rw[hid]at k1;cases k1;have k1:=k2.1;simp[Builtin.len_,run_underlying (hT.und _ _ ht),e,goInt,k1]
  ·exact ad
 ·rename_i ht;refine ao ?_;intro own g w a m hle hm hr;refine⟨_,key _ ?_,mk_i _ _⟩;rcases nP (aO (one hr))with⟨_,_,rfl,p,e⟩ | ⟨b,c',len,q,_,_,_,_,_,e⟩
  ·simp[Builtin.len_,run_underlying (hT.und _ _ ht),e,goInt]
  ·simp[Builtin.len_,run_underlying (hT.und _ _ ht),e,goInt]
 ·rename_i ht;refine ao ?_;intro own g w a m hle hm hr;obtain⟨b,c',_,_,e⟩:=A_ (one hr)
  exact⟨_,key _ (by simp[Builtin.len_,run_underlying (hT.und _ _ ht),e,goInt]),mk_i _ _⟩
 ·rename_i ht;refine ao ?_;intro own g w a m hle hm hr
  exact⟨_,key _ (by simp[Builtin.len_,run_underlying (hT.und _ _ ht),goInt]),mk_i _ _⟩
 ·rename_i id ht;split
  ·rename_i t' l hrow;refine ao ?_;intro own g w a m hle hm hr;refine⟨_,key _ ?_,mk_i _ _⟩;obtain⟨b,h1,es,h2,h3,h4⟩:=hm.ok id _ (hle _ _ hrow)
   obtain⟨b',c',h5,e⟩:∃b c,g.ids id=some (some (b,c))∧a.eval x = .map (some b):=by
    have h0:=aO (one hr);revert h0;generalize a.eval x=v;intro h0
    cases h0 with | mpc h=>exact⟨_,_,h,rfl⟩
   rw[h1]at h5;cases h5;simp[Builtin.len_,run_underlying (hT.und _ _ ht),e,goInt,MapKept.run_getObj_map h2,h3]
  ·exact ad
 ·exact ad
theorem Cl:∀(l:List Int)(a:List UInt8),l.foldl (λr n=>r.push (UInt8.ofNat n.toNat)) (⟨⟨a⟩⟩:ByteArray)=⟨⟨a++l.map toB⟩⟩
 | [],a=>by simp
 | n::l,a=>by
  have h:(⟨⟨a⟩⟩:ByteArray).push (UInt8.ofNat n.toNat)=⟨⟨a++[toB n]⟩⟩:=by simp[ByteArray.push,toB]
  rw[List.foldl_cons,h,Cl l];simp
theorem Cp{b q cap:Nat}{l:List Int}(hc:∀k,(h:k<l.length)→w.cell? ⟨b,q+k,none⟩=some (.int .u8 l[k])) :
  (Conv.bytesToString (.slice (some ⟨b,q,none⟩) l.length cap)).run P w = .ok (.string ⟨⟨l.map toB⟩⟩) w:=by
 have hrun:=run_loadCells (P:=P) w ⟨b,q,none⟩ l.length (λj=>.int .u8 (l.getD j 0)) (by intro j hj;rw[Addr.add_lit,hc j hj];simp[hj])
 have hl:(List.range l.length).map (λj=>Value.int .u8 (l.getD j 0))=l.map (Value.int .u8):=by
  apply List.ext_getElem
  ·simp
  ·intro i h1 h2;simp at h1;simp[h1]
 rw[hl]at hrun;rw[run_bytesToString w ⟨b,q,none⟩ l.length cap l hrun];have e0:ByteArray.empty=(⟨⟨[]⟩⟩:ByteArray):=rfl;rw[e0,Cl];simp
theorem GD(hT:TblOk P T){s d:TypeId}{x:Operand}(ho:o.op = .convert s d x):Rule P o vals mm c K (tConv T vals mm K s d):=by
 have key:∀{e:TypeId}{a:Act}{w:World}{p:Option Addr} {n cap:Nat} {v:Value},P.underlying s=some (.slice e)→P.underlying e=some (.int .u8)→P.underlying d=some .string→a.eval x = .slice p n cap→
   (Conv.bytesToString (.slice p n cap)).run P w = .ok v w→(execOp a.eval o).run P w = .ok (.value v) w:=by
  intro e a w p n cap v h1 h2 h3 h4 h5;simp only[execOp,ho,h4,Sem.run_bind,run_convert_bytes_string w s d e p n cap h1 h2 h3,h5,Result.andThen_ok,Sem.run_pure]
 have nil:∀{w:World}{p:Option Addr}{cap:Nat},(Conv.bytesToString (.slice p 0 cap)).run P w = .ok (.string ⟨⟨[]⟩⟩) w:=by
  intro w p cap
  cases p<;>simp[Conv.bytesToString,loadCells,loadCellsFrom,Sem.run_pure,Sem.run_bind]<;>rfl
 unfold tConv;split
 ·rename_i hs hd;refine ao ?_;intro own g w a m _ _ hr;rw[ho]at hr;have e:=bE (reps1 hr)
  exact⟨_,by simp[execOp,ho,e,convert,run_underlying (hT.und _ _ hs),run_underlying (hT.und _ _ hd),Conv.intToInt],mk_i _ _⟩
 ·rename_i hs hd;refine ao ?_;intro own g w a m _ _ hr;rw[ho]at hr;have e:=x_ (reps1 hr)
  exact⟨_,by simp[execOp,ho,e,convert,run_underlying (hT.und _ _ hs),run_underlying (hT.und _ _ hd)],mk_s _⟩
 ·rename_i id hs hd;split
  ·rename_i he;split
   ·rename_i l hrow;refine ao ?_;intro own g w a m hle hm hr;rw[ho]at hr;have hr:=aO (reps1 hr);rcases aU hr with⟨hid,p,e⟩ | ⟨b,c',len,hid,h5,h6,e⟩
    ·rcases hm.ok id _ (hle _ _ hrow)with⟨_,rfl⟩ | ⟨_,_,_,_,k1,_⟩
     ·exact⟨_,key (hT.und _ _ hs) (hT.und _ _ he) (hT.und _ _ hd) e nil,mk_s _⟩
     ·rw[hid]at k1;cases k1
    ·obtain⟨rfl,_,hcell⟩:=bQ hm (hle _ _ hrow) hid;refine⟨_,key (hT.und _ _ hs) (hT.und _ _ he) (hT.und _ _ hd) e (Cp λk hk=>?_),mk_s _⟩;have h1:(cells F (.int .u8) l)[k*szT F (.int .u8)+0]? = some (.i .u8 l[k]):=aM (LP hk) rfl
     have h1:(cells F (.int .u8) l)[k]? = some (.i .u8 l[k]):=by simpa[szT]using h1
     obtain⟨x,hx,hrep⟩:=hcell k _ h1;cases hrep;rw[Nat.zero_add];exact hx
   ·exact ad
  ·exact ad
 ·rename_i l hs hd;split
  ·rename_i he;refine ao ?_;intro own g w a m hle hm hr;rw[ho]at hr;rcases wV (wA (reps1 hr))with⟨rfl,p,e⟩ | ⟨b,q,cap,f,_,_,_,e,hcell,hrep⟩
   ·exact⟨_,key (hT.und _ _ hs) (hT.und _ _ he) (hT.und _ _ hd) e nil,mk_s _⟩
   ·refine⟨_,key (hT.und _ _ hs) (hT.und _ _ he) (hT.und _ _ hd) e (Cp λk hk=>?_),mk_s _⟩;have h1:(cells F (.int .u8) l)[k*szT F (.int .u8)+0]? = some (.i .u8 l[k]):=aM (LP hk) rfl
    have h1:(cells F (.int .u8) l)[k]? = some (.i .u8 l[k]):=by simpa[szT]using h1
    rw[hcell k _ h1];have hk2:=hrep k _ h1;generalize f k=v at hk2;cases hk2;rfl
  ·exact ad
 ·exact ad
end
set_option linter.unusedVariables false
set_option linter.unusedSimpArgs false
section
variable{F:Fam}{P:Program}{T:TypeId→Option (TI F)}{o:Oper}{vals:List (Dat F)}{mm:Nat→Option (Blk F)}{c:Nat}{R:Type}{K:Res F→Option R}{own:Ow}{g:G}{w:World}{m:Nat→Option (Blk F)}
theorem DN(fn:Int→Int→Int)(step:Value→Value→Sem Value)(hs:∀(k:IntKind)(x y:Int)(w:World),(step (.int k x) (.int k y)).run P w = .ok (.int k (fn x y)) w) :
  ∀(l:List (Dat F)) (vs:List Value) (k:IntKind) (n r:Int),uo fn k n l=some r→vs.length=l.length→(∀(j:Nat)(d:Dat F)(x:Value),l[j]? = some d→vs[j]? = some x→RepD P g w d x)→
   (vs.foldlM step (.int k n)).run P w = .ok (.int k r) w:=by
 intro l
 induction l with
 | nil=>
  intro vs k n r h hl _
  have:vs = []:=List.eq_nil_of_length_eq_zero (by simpa using hl)
  subst this;simp only[uo,Option.some.injEq]at h;subst h;simp
 | cons d l ih=>
  intro vs k n r h hl hr;unfold uo at h;split at h
  ·rename_i heq;cases heq
  ·rename_i k' m' l' heq;simp only[List.cons.injEq]at heq;obtain⟨rfl,rfl⟩:=heq;split at h
   ·rename_i hk;subst hk
    match vs,hl with
    | v::vs,hl=>
     have hv:=bE (hr 0 _ v rfl rfl);subst hv;simp only[List.foldlM_cons,Sem.run_bind,hs,Result.andThen_ok]
     exact ih vs k (fn n m') r h (by simpa using hl) (λj d x h1 h2=>hr (j+1) d x (by simpa using h1) (by simpa using h2))
   ·cases h
  ·cases h
theorem B5{mx:Bool}{args:Array Operand}{ats:Array TypeId}(ho:o.op = .call { callee:=.builtin (if mx then .max else .min),args,argTypes:=ats }) :
  Rule P o vals mm c K (tFold vals K (if mx then imax else imin)):=by
 unfold tFold;split
 ·rename_i k n0 l;split
  ·rename_i n hn;refine ao ?_;intro own g w a m hle hm hr;rw[ho]at hr
   have hargs:(Op.call { callee:=.builtin (if mx then .max else .min),args,argTypes:=ats }).operands.toList.map a.eval=(args.map a.eval).toList:=by simp[Op.operands,Call.operands]
   rw[hargs]at hr
   cases hvs:(args.map a.eval).toList with
   | nil=>rw[hvs]at hr;have:=hr.1;simp at this
   | cons v vs=>
    rw[hvs,aL]at hr;have hv:=bE hr.1;subst hv;obtain⟨hl,hr'⟩:=hr.2;refine⟨.int k n,?_,mk_i _ _⟩
    cases mx with
    | true=>
     have:=DN (P:=P) (g:=g) (w:=w) imax Builtin.max2 (λk x y w=>by simp[Builtin.max2,imax]) l vs k n0 n hn hl hr'
     simp only[execOp,ho,resolve,invoke,builtin,Sem.run_bind,Sem.run_pure,Result.andThen_ok,if_true,Builtin.max_,hvs,this]
    | false=>
     have:=DN (P:=P) (g:=g) (w:=w) imin Builtin.min2 (λk x y w=>by simp[Builtin.min2,imin]) l vs k n0 n hn hl hr'
     simp only[execOp,ho,resolve,invoke,builtin,Sem.run_bind,Sem.run_pure,Result.andThen_ok,Bool.false_eq_true,if_false,Builtin.min_,hvs,this]
  ·exact ad
 ·exact ad
theorem lV(isSlice:Bool)(len cap:Nat)(lo hi:Option Value)(x y:Int)(hlo:(lo=none∧x=0)∨∃k,lo=some (.int k x))(hhi:(hi=none∧y=len)∨∃k,hi=some (.int k y))
  (h0:0≤x) (hxy:x≤y) (hy:y≤cap):(Instr.sliceBounds isSlice len cap lo hi none).run P w = .ok (x.toNat,y.toNat,cap) w:=by
 have hb:∀(k:IntKind)(n:Int)(c:Nat)(code:BoundsCode),0≤n→n≤c→(Instr.sliceBound (.int k n) c code).run P w = .ok n.toNat w:=by intro k n c code h1 h2;simp[Instr.sliceBound,asIntOf,h1,h2]
 have hyn:(y.toNat:Int)=y:=Int.toNat_of_nonneg (by omega)
 rcases hlo with⟨rfl,rfl⟩ | ⟨k,rfl⟩<;>rcases hhi with⟨rfl,rfl⟩ | ⟨k',rfl⟩
 ·simp[Instr.sliceBounds]
 ·simp[Instr.sliceBounds,hb k' y cap _ (by omega) hy]
 ·simp only[Instr.sliceBounds,Sem.run_bind,Sem.run_pure,Result.andThen_ok];rw[hb k x len _ h0 hxy];simp
 ·simp only[Instr.sliceBounds,Sem.run_bind,Sem.run_pure,Result.andThen_ok]
  rw[hb k' y cap _ (by omega) hy]
  simp only[Result.andThen_ok]
  rw[hb k x y.toNat _ h0 (by rw[hyn];exact hxy)]
  simp
theorem Fw(l:List UInt8)(i j:Nat):(⟨⟨l⟩⟩:ByteArray).extract i j=⟨⟨(l.take j).drop i⟩⟩:=by apply ByteArray.ext;apply Array.ext';simp[List.extract_eq_take_drop,List.drop_take]
theorem E5{α : Type}{l r:List α}{a b:Int}(h:slc l a b=some r):r=sub l a.toNat (b.toNat - a.toNat):=by obtain⟨_,_,_,rfl⟩:=Ag h;simp[sub,List.drop_take]
theorem z7{t:Ty}{l:List (ET F t)}{v:Value}(hv:RepI w g.imm (.sl t l) v){p q:Nat}(hpq:p≤q)(hq:q≤l.length) :
  ∃ptr cap,v = .slice ptr l.length cap∧q≤cap∧RepI w g.imm (.sl t (sub l p (q - p))) (.slice (if cap=p then ptr else ptr.map (·.add (p*szT F t))) (q - p) (cap - p)):=by
 rcases wV hv with⟨rfl,ptr,rfl⟩ | ⟨b,o,cap,f,hb,hcap,hmx,rfl,hc,hr⟩
 ·refine⟨ptr,0,rfl,by simpa using hq,?_⟩
  simp only[List.length_nil]at hq
  have h1:p=0:=by omega
  have h2:q=0:=by omega
  subst h1 h2;simp only[sub,List.drop_nil,List.take_nil,Nat.sub_self,if_true];exact .sl0 t ptr
 ·refine⟨_,cap,rfl,by omega,?_⟩
  have hlen:(sub l p (q - p)).length=q - p:=by simp only[sub,List.length_take,List.length_drop];omega
  have mk:∀(b' o':Nat)(f':Nat→Value),g.imm b'→(∀k d,(cells F t (sub l p (q - p)))[k]? = some d→w.cell? ⟨b',o'+k,none⟩=some (f' k))→(∀k d,(cells F t (sub l p (q - p)))[k]? = some d→RepI w g.imm d (f' k))→
    RepI w g.imm (.sl t (sub l p (q - p))) (.slice (some ⟨b',o',none⟩) (q - p) (cap - p)):=by
   intro b' o' f' h1 h2 h3
   have:=RepI.sl (F:=F) (w:=w) (imm:=g.imm) t (sub l p (q - p)) b' o' (cap - p) f' h1 (by omega) (by omega) h2 h3
   rwa [hlen]at this
  split
  ·refine mk b o f hb ?_ ?_
   all_goals
    intro k d hk
    have h0:q - p=0:=by omega
    rw[h0]at hk;simp[sub,cells]at hk
  ·simp only[Option.map_some,Addr.add_lit];refine mk b (o+p*szT F t) (λk=>f (p*szT F t+k)) hb ?_ ?_
   ·intro k d hk;rw[Nat.add_assoc];exact hc _ d (h_ hk)
   ·intro k d hk;exact hr _ d (h_ hk)
theorem FN(hT:TblOk P T){t:TypeId}{x:Operand}{lo hi:Option Operand}(ho:o.op = .slice t x lo hi none) :
  Rule P o vals mm c K (Dt T vals mm K t (ob lo 1) (ob hi (hiPos lo))):=by
 have hops:∀a:Act,o.op.operands.toList.map a.eval=a.eval x::((lo.map a.eval).toList++(hi.map a.eval).toList):=by
  intro a;rw[ho]
  cases lo<;>cases hi<;>simp[Op.operands]
 have hlo:∀{dflt n:Int}{a:Act}{g:G}{w:World},RepDs P g w vals (o.op.operands.toList.map a.eval)→bound vals (ob lo 1) dflt=some n→(lo.map a.eval=none∧n=dflt)∨∃k,lo.map a.eval=some (.int k n):=by
  intro dflt n a g w hr hh;rw[hops]at hr
  cases lo with
  | none=>simp only[ob,bound,Option.some.injEq]at hh;exact .inl ⟨rfl,hh.symm⟩
  | some l=>
   simp only[ob,bound]at hh;split at hh
   ·rename_i k n' hq;cases hh
    have:=hr.2 1 _ (a.eval l) hq (by simp)
    exact .inr ⟨k,by rw[Option.map_some,bE this]⟩
   ·cases hh
 have hhi:∀{dflt n:Int}{a:Act}{g:G}{w:World},RepDs P g w vals (o.op.operands.toList.map a.eval)→bound vals (ob hi (hiPos lo)) dflt=some n→(hi.map a.eval=none∧n=dflt)∨∃k,hi.map a.eval=some (.int k n):=by
  intro dflt n a g w hr hh;rw[hops]at hr
  cases hi with
  | none=>simp only[ob,bound,Option.some.injEq]at hh;exact .inl ⟨rfl,hh.symm⟩
  | some l=>
   simp only[ob,bound]at hh;split at hh
   ·rename_i k n' hq;cases hh
    have:=hr.2 _ _ (a.eval l) hq (by cases lo<;>simp[hiPos])
    exact .inr ⟨k,by rw[Option.map_some,bE this]⟩
   ·cases hh
 have hx0:∀{d:Dat F}{a:Act}{g:G}{w:World},RepDs P g w vals (o.op.operands.toList.map a.eval)→vals[0]? = some d→RepD P g w d (a.eval x):=by intro d a g w hr hd;rw[hops]at hr;exact hr.2 0 d _ hd rfl
 have run:∀{w:World}{a:Act}{e:TypeId}{i te:TI F} {ptr:Option Addr} {len cap:Nat} {p q:Int},T t=some i→i.desc = .slice e→T e=some te→a.eval x = .slice ptr len cap→
   ((lo.map a.eval=none∧p=0)∨∃k,lo.map a.eval=some (.int k p))→((hi.map a.eval=none∧q=len)∨∃k,hi.map a.eval=some (.int k q))→0≤p→p≤q→q≤cap→
   (execOp a.eval o).run P w = .ok (.value (.slice (if cap=p.toNat then ptr else ptr.map (·.add (p.toNat*te.size))) (q.toNat - p.toNat) (cap - p.toNat))) w:=by
  intro w a e i te ptr len cap p q hi' hd hte e1 h1 h2 h3 h4 h5;have hu:=hT.und _ _ hi';rw[hd]at hu;have hr:=lV (P:=P) (w:=w) true len cap (lo.map a.eval) (hi.map a.eval) p q h1 h2 h3 h4 h5;simp only[execOp,ho,Instr.sliceAt,Instr.slice,Sem.run_bind,run_underlying hu,Result.andThen_ok,e1,Option.map_none];rw[hr];simp only[Result.andThen_ok,bi hT hte,Sem.run_pure]
 unfold Dt;split
 ·rename_i l ht h0;split
  ·rename_i p q hp hq;refine ax λr hr=>ao ?_;intro own g w a m hle hm hrep;obtain⟨c1,c2,c3,rfl⟩:=Ag hr;have hs:(⟨⟨l⟩⟩:ByteArray).size=l.length:=rfl;have hb:=lV (P:=P) (w:=w) false l.length l.length (lo.map a.eval) (hi.map a.eval) p q (hlo hrep hp) (hhi hrep hq) c1 c2 c3;refine⟨_,?_,mk_s _⟩;simp only[execOp,ho,Instr.sliceAt,Instr.slice,Sem.run_bind,run_underlying (hT.und _ _ ht),Result.andThen_ok,x_ (hx0 hrep h0),Option.map_none,Option.isSome_none,Bool.false_eq_true,if_false,hs,Sem.run_pure];rw[hb];simp only[Result.andThen_ok,Fw]
  ·exact ad
 ·rename_i e _ _ _ _ _ y ht h0;split
  ·exact ad
  ·rename_i te hte;split
   ·rename_i t' l;refine au (λhsz=>?_) (λ_=>ad);split
    ·rename_i p q hp hq;refine ax λr hr=>ao ?_;intro own g w a m hle hm hrep;obtain⟨c1,c2,c3,_⟩:=Ag hr;rw[E5 hr]
     obtain⟨ptr,cap,ev,h5,h6⟩:=z7 (wA (hx0 hrep h0)) (p:=p.toNat) (q:=q.toNat) (by omega) (by omega)
     rw[hsz]at h6
     exact⟨_,run ht rfl hte ev (hlo hrep hp) (hhi hrep hq) c1 c2 (by omega),.c (.im h6)⟩
    ·exact ad
   ·rename_i id;split
    ·rename_i t' l hrow;refine au (λhsz=>?_) (λ_=>ad);split
     ·rename_i p q hp hq;refine ax λpr hr=>ao ?_;intro own g w a m hle hm hrep;obtain⟨c1,c2,c3,rfl⟩:=Gr hr;rcases aU (aO (hx0 hrep h0))with⟨hid,ptr,ev⟩ | ⟨b,c',len,hid,h5,h6,ev⟩
      ·rcases hm.ok id _ (hle _ _ hrow)with⟨_,rfl⟩ | ⟨_,_,_,_,k1,_⟩
       ·simp only[List.length_nil]at c3 hq
        have hp0:p=0:=by omega
        have hq0:q=0:=by omega
        have hr:=run (w:=w) ht rfl hte ev (hlo hrep hp) (hhi hrep hq) c1 c2 (by omega)
        subst hp0 hq0
        exact⟨_,hr,by simpa using .c (.lsl0 ptr hid)⟩
       ·rw[hid]at k1;cases k1
      ·obtain⟨rfl,h7,_⟩:=bQ hm (hle _ _ hrow) hid
       have hr:=run (w:=w) ht rfl hte ev (hlo hrep hp) (hhi hrep hq) c1 c2 (by omega)
       refine⟨_,hr,.c ?_⟩;by_cases hpc:c'=p.toNat
       ·rw[if_pos hpc]
        refine .lsl hid (by omega) h7 ?_ h6
        by_cases h0:c'=0
        ·right;rw[← hpc,h0];simp
        ·left;omega
       ·rw[if_neg hpc,Option.map_some,Addr.add_lit,Nat.zero_add]
        exact .lsl hid (by omega) h7 (.inr rfl) h6
     ·exact ad
    ·rename_i t' l hrow;refine au (λhsz=>?_) (λ_=>ad);split
     ·rename_i p q hp hq;refine ax λr hr=>ao ?_;intro own g w a m hle hm hrep;obtain⟨c1,c2,c3,_⟩:=Ag hr;rw[E5 hr]
      obtain⟨ptr,cap,ev,h5,h6⟩:=z7 (sZ hm (hle _ _ hrow) (aO (hx0 hrep h0))) (p:=p.toNat) (q:=q.toNat) (by omega) (by omega)
      rw[hsz]at h6
      exact⟨_,run ht rfl hte ev (hlo hrep hp) (hhi hrep hq) c1 c2 (by omega),.c (.im h6)⟩
     ·exact ad
    ·exact ad
   ·exact ad
 ·exact ad
theorem Gz{v:Value}(h:v.oneCell'=true):v.cells = #[v]:=by
 cases v<;>first | rfl | simp[Value.oneCell']at h
theorem jn{d:Dat F}{v:Value}(h:RepD P g w d v)(hn:d.cells.all Cel.noAny=true)(hne:0<d.cells.length) :
  v.cells.toList.length=d.cells.length∧(∀(k:Nat)(c:Cel F)(x:Value),d.cells[k]? = some c→v.cells.toList[k]? = some x→RepC g w c x)∧∀x∈v.cells.toList,x.oneCell'=true:=by
 cases d with
 | c x=>
  cases h with
  | c h=>
   have hx:x≠.any:=by rintro rfl;simp[Dat.cells,Cel.noAny]at hn
   have h1:=h.oneCell hx;rw[Gz h1]
   refine⟨rfl,?_,by simpa using h1⟩
   intro k c y h2 h3
   cases k with
   | zero=>simp only[Dat.cells,List.getElem?_cons_zero,Option.some.injEq]at h2 h3;subst h2 h3;exact h
   | succ k=>simp[Dat.cells]at h2
 | agg cs=>
  obtain⟨vs,rfl,hl,hr⟩:=n9 h
  refine⟨by simpa[Value.cells,Dat.cells]using hl,by simpa[Value.cells,Dat.cells]using hr,?_⟩
  intro x hx;simp only[Value.cells]at hx;obtain⟨k,hk⟩:=List.getElem?_of_mem hx
  have hlt:k<cs.length:=by rw[← hl];exact(LQ.1 hk).1
  have hc:=hr k _ x (LP hlt) hk;refine hc.oneCell ?_;intro e
  have:=List.all_eq_true.1 hn cs[k] (by simp[Dat.cells])
  rw[e]at this;simp[Cel.noAny]at this
 | tup ds=>simp[Dat.cells]at hne
 | clo fn fs cs=>simp[Dat.cells]at hne
 | fv ks r φ=>simp[Dat.cells]at hne
theorem DJ(off:Nat):∀(l:List Value)(i:Nat)(arr:List Value),off+i+l.length≤arr.length→
  (l.zipIdx i).foldl (λ(cs:Array Value)(p:Value×Nat)=>cs.setIfInBounds (off+p.2) p.1) ⟨arr⟩=⟨arr.take (off+i)++l++arr.drop (off+i+l.length)⟩
 | [],i,arr,_=>by simp
 | v::l,i,arr,h=>by
  simp only[List.zipIdx_cons,List.foldl_cons]
  have e:(⟨arr⟩:Array Value).setIfInBounds (off+i) v=⟨arr.set (off+i) v⟩:=by apply Array.ext';simp
  rw[e,DJ off l (i+1) (arr.set (off+i) v) (by simp at h ⊢;omega)]
  congr 1
  have e2:=list_seg_step arr (off+i) v l (by simp at h;omega)
  simpa[Nat.add_assoc]using e2
theorem Gp(off:Nat)(v:Value)(arr:List Value)(h:off+v.cells.size≤arr.length) :
  v.cells.zipIdx.foldl (λ(cs:Array Value)(p:Value×Nat)=>cs.setIfInBounds (off+p.2) p.1) ⟨arr⟩=⟨arr.take off++v.cells.toList++arr.drop (off+v.cells.size)⟩:=by
 have:=DJ off v.cells.toList 0 arr (by simpa using h)
 rw[← Array.foldl_toList];simpa using this
theorem EF{cs ds:List (Cel F)}{xs ys:List Value}{off:Nat}(hl:xs.length=cs.length)(hr:∀(k:Nat)(c:Cel F)(x:Value),cs[k]? = some c→xs[k]? = some x→RepC g w c x)
  (kl:ys.length=ds.length) (kr:∀(k:Nat)(c:Cel F)(x:Value),ds[k]? = some c→ys[k]? = some x→RepC g w c x) :
  (xs.take off++ys++xs.drop (off+ys.length)).length=(cs.take off++ds++cs.drop (off+ds.length)).length∧
  ∀(k:Nat)(c:Cel F)(x:Value),(cs.take off++ds++cs.drop (off+ds.length))[k]? = some c→(xs.take off++ys++xs.drop (off+ys.length))[k]? = some x→RepC g w c x:=by
 constructor
 ·simp[hl,kl]
 ·intro k c x h1 h2
  have e1:(xs.take off).length=(cs.take off).length:=by simp[hl]
  rw[List.append_assoc]at h1 h2;by_cases hk:k<(cs.take off).length
  ·rw[List.getElem?_append_left hk]at h1
   rw[List.getElem?_append_left (by rw[e1];exact hk)]at h2
   rw[List.getElem?_take]at h1 h2;split at h1
   ·rename_i hk2;rw[if_pos hk2]at h2;exact hr k c x h1 h2
   ·cases h1
  ·rw[List.getElem?_append_right (by omega)]at h1
   rw[List.getElem?_append_right (by omega)]at h2
   rw[e1]at h2;by_cases hk2:k - (cs.take off).length<ds.length
   ·rw[List.getElem?_append_left hk2]at h1
    rw[List.getElem?_append_left (by rw[kl];exact hk2)]at h2
    exact kr _ c x h1 h2
   ·rw[List.getElem?_append_right (by omega)]at h1
    rw[List.getElem?_append_right (by omega)]at h2
    rw[List.getElem?_drop]at h1 h2;rw[kl]at h2;exact hr _ c x h1 h2
theorem zd(place:Nat→Option (Nat×Nat)):∀(ps:List (Nat×Dat F)) (vs:List (Nat×Value)) (cs cs':List (Cel F)) (arr:List Value),lay place cs ps=some cs'→
  vs.map (·.1)=ps.map (·.1)→(∀(k:Nat)(d:Nat×Dat F)(x:Nat×Value),ps[k]? = some d→vs[k]? = some x→RepD P g w d.2 x.2)→
  arr.length=cs.length→(∀(k:Nat)(c:Cel F)(x:Value),cs[k]? = some c→arr[k]? = some x→RepC g w c x)→
  ∃arr':List Value,Instr.fill place ⟨arr⟩ vs=some ⟨arr'⟩∧arr'.length=cs'.length∧cs'.length=cs.length∧∀(k:Nat)(c:Cel F)(x:Value),cs'[k]? = some c→arr'[k]? = some x→RepC g w c x
 | [],vs,cs,cs',arr,h,hv,_,hl,hr=>by
  have:vs = []:=by simpa using hv
  subst this;simp only[lay,Option.some.injEq]at h;subst h;exact⟨arr,rfl,hl,rfl,hr⟩
 | (i,d)::ps,vs,cs,cs',arr,h,hv,hd,hl,hr=>by
  match vs,hv with
  | (j,v)::vs,hv=>
   simp only[List.map_cons,List.cons.injEq]at hv;obtain⟨rfl,hv2⟩:=hv;unfold lay at h
   cases hp:place j with
   | none=>rw[hp]at h;cases h
   | some q=>
    obtain⟨off,size⟩:=q;rw[hp]at h;dsimp only at h;split at h
    ·rename_i hc;simp only[Bool.and_eq_true,decide_eq_true_eq,Nat.blt_eq]at hc;obtain⟨⟨⟨h1,h2⟩,h3⟩,h4⟩:=hc;have h2:=Nat.le_of_ble_eq_true h2;have hvd:=hd 0 (j,d) (j,v) rfl rfl
     obtain⟨c1,c2,c3⟩:=jn (d:=d) (v:=v) hvd h3 (by omega)
     have hsz:v.cells.size=size:=by rw[← Array.length_toList,c1,h1]
     have hle:off+size≤arr.length:=by omega
     have hseg:=EF (off:=off) hl hr c1 c2;have e1:v.cells.toList.length=v.cells.size:=Array.length_toList;rw[h1]at hseg;rw[e1,hsz]at hseg;obtain⟨arr',r1,r2,r3,r4⟩:=zd place ps vs _ cs' (arr.take off++v.cells.toList++arr.drop (off+size)) h hv2 (λk d x a b=>hd (k+1) d x a b) hseg.1 hseg.2;refine⟨arr',?_,r2,?_,r4⟩
     ·unfold Instr.fill;rw[hp];dsimp only
      rw[if_neg (by simp[hsz];omega)]
      have:=Gp off v arr (by omega)
      rw[hsz]at this;rw[this];exact r1
     ·rw[r3];simp[h1];omega
    ·cases h
theorem vD(hT:TblOk P T):∀(fs:List Field)(pl:List (Nat×Nat)),rz T fs=some pl→fs.mapM (λf=>(P.info? f.type).map λi=>(f.offset,i.size))=some pl
 | [],pl,h=>by simp only[rz,Option.some.injEq]at h;subst h;rfl
 | f::fs,pl,h=>by
  simp only[rz]at h;split at h
  ·cases h
  ·rename_i ti hti;split at h
   ·cases h
   ·rename_i r hr;cases h;obtain⟨j,hj,hs,_⟩:=hT.info _ _ hti;simp[List.mapM_cons,hj,hs,vD hT fs r hr]
theorem Ab(hT:TblOk P T){t:TypeId}{ti:TI F}(ht:T t=some ti):∃(j:TypeInfo)(z:Value),P.info? t=some j∧j.zero=some z∧z.cells.toList.length=(ti.zero.map (Cel.im (F:=F))).length∧
  ∀(w:World)(g:G)(k:Nat)(c:Cel F) (x:Value),(ti.zero.map Cel.im)[k]? = some c→z.cells.toList[k]? = some x→RepC g w c x:=by
 obtain⟨j,hj,hs,hb,z,hz,hzs,hzl,hr⟩:=hT.info t ti ht
 refine⟨j,z,hj,hz,by rw[Array.length_toList,hzs,List.length_map,hzl],?_⟩
 intro w g k c x h1 h2;obtain⟨d,hd,rfl⟩:=fu h1
 exact .im (hr w g.imm k d x hd (by simpa using h2))
theorem xH{a:Act}:∀(parts:List (Nat×Operand)) (vals:List (Dat F)),RepDs P g w vals (parts.map λp=>a.eval p.2)→
  (parts.map λ(i,x)=>(i,a.eval x)).map (·.1)=((parts.map (·.1)).zip vals).map (·.1)∧
  ∀(k:Nat)(d:Nat×Dat F)(x:Nat×Value),((parts.map (·.1)).zip vals)[k]? = some d→(parts.map λ(i,x)=>(i,a.eval x))[k]? = some x→RepD P g w d.2 x.2
 | [],vals,h=>by simp
 | p::l,vals,h=>by
  match vals,h with
  | [],h=>have:=h.1;simp at this
  | v::vals,h=>
   simp only[List.map_cons,aL]at h;obtain⟨h1,h2⟩:=xH l vals h.2
   refine⟨by simpa using h1,?_⟩
   intro k d x h3 h4
   cases k with
   | zero=>simp only[List.map_cons,List.zip_cons_cons,List.getElem?_cons_zero,Option.some.injEq]at h3 h4;subst h3 h4;exact h.1
   | succ k=>simp only[List.map_cons,List.zip_cons_cons,List.getElem?_cons_succ]at h3 h4;exact h2 k d x h3 h4
theorem FY(hT:TblOk P T){t:TypeId}{parts:Array (Nat×Operand)}(ho:o.op = .build t parts):Rule P o vals mm c K (D6 T vals K t (parts.toList.map (·.1))):=by
 have fin:∀(place:Nat→Option (Nat×Nat)) (ti:TI F) (cs:List (Cel F)),T t=some ti→(∀cells vs z j,P.info? t=some j→j.zero=some z→Instr.fill place z.cells vs=some cells→P.built t vs=some cells)→
   lay place (ti.zero.map .im) ((parts.toList.map (·.1)).zip vals)=some cs→DoesP P o vals mm (.agg cs):=by
  intro place ti cs hti hb hcs own g w a m hle hm hr;rw[ho]at hr
  have hr':RepDs P g w vals (parts.toList.map λp=>a.eval p.2):=by
   have:(Op.build t parts).operands.toList.map a.eval=parts.toList.map λp=>a.eval p.2:=by simp[Op.operands,Function.comp_def]
   rwa [this]at hr
  obtain⟨p1,p2⟩:=xH parts.toList vals hr';obtain⟨j,z,hj,hz,hzl,hzr⟩:=Ab hT hti;obtain⟨arr,r1,r2,r3,r4⟩:=zd (P:=P) (g:=g) (w:=w) place _ (parts.toList.map λ(i,x)=>(i,a.eval x)) _ cs z.cells.toList hcs p1 p2 hzl (hzr w g)
  have hbt:=hb ⟨arr⟩ (parts.map λ(i,x)=>(i,a.eval x)).toList z j hj hz (by simpa using r1)
  refine⟨.agg ⟨arr⟩,?_,.agg r2 r4⟩;simp only[execOp,ho,Sem.run_bind,run_build w t _ _ hbt,Result.andThen_ok,Sem.run_pure]
 unfold D6;split
 ·rename_i fs sz bt zero _ _ ht;split
  ·exact ad
  ·rename_i pl hpl;split
   ·exact ad
   ·rename_i cs hcs;refine ao (fin _ _ cs ht ?_ hcs);intro cells vs z j hj hz hf;have hu:=hT.und _ _ ht;simp only[Program.built,hj,hu,hz,vD hT _ _ hpl];simpa using hf
 ·rename_i n e' sz bt zero _ _ ht;split
  ·exact ad
  ·rename_i te hte;split
   ·exact ad
   ·rename_i cs hcs;refine ao (fin _ _ cs ht ?_ hcs);intro cells vs z j hj hz hf;have hu:=hT.und _ _ ht;obtain⟨j',hj',hs',_⟩:=hT.info _ _ hte;simp only[Program.built,hj,hu,hz,hj',hs'];exact hf
 ·exact ad
end
end Go.Fx
