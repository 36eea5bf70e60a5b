/-
  The framework, first part: what is known of a frame as typed data;that each operation that makes no call does what the evaluator says. Conditions: none.
-/
import Derived.Calls
import Derived.Orders
import Derived.Below
import Derived.Laws.MakeOwn
import Derived.Laws.Rows
import Derived.Laws.CopyRow
import Derived.Laws.CopyOwn
import Derived.Tactics
import Derived.KernelRfl
import Derived.Laws.StructEq
import Derived.Laws.Strings
import Derived.Laws.BytesString
namespace Go.Fx
open Go
set_option linter.unusedVariables false
set_option linter.unusedSimpArgs false
abbrev KQ:=@Bool.and_eq_true
abbrev Ku:=@Nat.le_refl
abbrev KV:=@Option.some.injEq
abbrev Mv:=@List.getElem?_append_left
abbrev K_:=@List.getElem_mem
abbrev Ld:=@List.length_take
abbrev KZ:=@List.map_cons
abbrev Nc:=@List.getElem?_append_right
abbrev LV:=@Result.andThen_ok
abbrev M4:=@List.getElem?_cons_zero
abbrev Li:=@List.mem_cons
abbrev M5:=@Nat.eq_of_beq_eq_true
abbrev MW:=@Nat.mul_le_mul_right
abbrev MF:=@List.append_assoc
abbrev MO:=@List.getElem?_take
abbrev Mi:=@List.mem_append
abbrev Lx:=@List.map_nil
abbrev MN:=@List.getElem?_map
abbrev LC:=@Sem.run_bind
abbrev Nb:=@Bool.false_eq_true
abbrev O1:=@List.eq_nil_of_length_eq_zero
abbrev LY:=@Nat.zero_add
abbrev Na:=@List.length_drop
abbrev MJ:=@Nat.le_trans
abbrev MI:=@Sem.run_pure
abbrev PZ:=@Array.getD_eq_getD_getElem?
abbrev PY:=@Array.getElem?_eq_some_iff
abbrev Ov:=@List.getElem?_drop
abbrev N9:=@List.all_eq_true
abbrev OZ:=@Nat.lt_of_lt_of_le
abbrev MV:=@Nat.blt_eq
abbrev Pw:=@List.mem_cons_of_mem
abbrev PX:=@Nat.le_of_ble_eq_true
abbrev Ox:=@List.length_map
abbrev SG:=@List.mem_or_eq_of_mem_set
abbrev RF:=@Option.map_eq_some_iff
abbrev Rk:=@List.mem_of_getElem?
abbrev RD:=@List.getElem?_of_mem
abbrev OY:=@List.nil_append
abbrev U4:=@List.take_succ_eq_append_getElem
abbrev Ot:=@List.mem_map
abbrev Pt:=@Bool.or_eq_true
abbrev Rj:=@Bool.not_eq_true'
abbrev Pv:=@List.nodup_cons
abbrev Ri:=@List.length_cons
abbrev SF:=@Array.length_toList
abbrev Pq:=@Nat.add_assoc
abbrev UL:=@Option.bind_eq_some_iff
abbrev OI:=@Nat.add_mul
abbrev Uo:=@List.take_append_drop
abbrev RB:=@List.length_set
abbrev SE:=@List.cons_append
abbrev UK:=@List.length_filter_le
abbrev SQ:=@Option.getD_some
abbrev UJ:=@Bool.or_eq_false_iff
abbrev Rh:=@Nat.succ_mul
abbrev SN:=@Option.map_some
abbrev SL:=@List.map_append
abbrev XF:=@Array.getElem?_setIfInBounds
abbrev Un:=@Int.toNat_natCast
abbrev U3:=@List.mem_of_mem_take
abbrev WC:=@List.mem_append_right
abbrev Um:=@List.take_length
abbrev WW:=@List.getElem?_cons_succ
abbrev WV:=@Nat.add_sub_cancel_left
abbrev RS:=@Nat.add_zero
abbrev WA:=@List.mem_append_left
abbrev Tv:=@Option.none_or
abbrev QcN:=@List.perm_append_comm
abbrev U2:=@List.flatten_cons
abbrev Tt:=@List.all_cons
abbrev ZA:=@Array.getElem?_append_left
abbrev XE:=@List.take_of_length_le
abbrev WU:=@List.getElem_of_mem
abbrev Wz:=@List.nodup_append
abbrev WT:=@List.mem_cons_self
abbrev XD:=@List.mem_of_mem_drop
abbrev SC:=@Int.not_le
abbrev QcX:=@Array.getElem?_eq_getElem
abbrev Zz:=@Array.getElem?_toList
abbrev WS:=@List.filter_cons
abbrev Qd_:=@Int.eq_ofNat_of_zero_le
abbrev WR:=@List.mem_filter
abbrev Zy:=@List.mem_map_of_mem
abbrev WQ:=@Nat.mul_le_mul
abbrev QdD:=@Array.getElem?_modify
abbrev WO:=@List.mem_range
abbrev QdF:=@List.getElem?_eq_none
abbrev Zx:=@List.filter_append
abbrev QdH:=@List.drop_eq_getElem_cons
abbrev QdI:=@List.mem_of_find?_eq_some
abbrev U1:=@Nat.zero_le
abbrev XC:=@List.append_nil
abbrev Zw:=@List.ext_getElem?
abbrev QdM:=@Array.toList_append
abbrev QdN:=@List.getElem_set_ne
abbrev QdO:=@Nat.add_sub_cancel'
abbrev QdP:=@List.map_congr_left
abbrev Zv:=@List.not_mem_nil
abbrev Zu:=@List.getElem_inj
abbrev WM:=@Nat.beq_refl
abbrev QdT:=@List.find?_eq_none
abbrev QdU:=@List.getElem_set_self
abbrev QdV:=@Nat.mul_min_mul_right
abbrev QdW:=@List.length_singleton
abbrev QdX:=@List.Perm.append_left
abbrev Wy:=@Nat.ble_eq
abbrev QdZ:=@List.range_eq_range'
abbrev Qe_:=@Nat.pow_le_pow_right
abbrev WL:=@Nat.le_succ
abbrev Zt:=@List.nodup_nil
abbrev Zr:=@List.drop_drop
abbrev XB:=@Nat.add_comm
abbrev QeE:=@List.drop_length
abbrev QeF:=@List.map_toArray
abbrev QeG:=@List.isEmpty_iff
abbrev XA:=@Nat.le_of_eq
abbrev QeI:=@Int.toNat_of_nonneg
abbrev QeJ:=@Array.eq_empty_of_size_eq_zero
abbrev QeK:=@List.length_nil
abbrev QeL:=@Int.natCast_mul
abbrev QeM:=@List.find?_eq_some_iff_getElem
abbrev QeN:=@List.find?_some
abbrev QeO:=@List.any_eq_false
abbrev QeP:=@Bool.and_eq_false_iff
abbrev Zq:=@Nat.ne_of_lt
abbrev QeR:=@List.set_getElem_self
abbrev QeS:=@List.mem_iff_getElem
abbrev QeT:=@Int.tdiv_eq_ediv_of_nonneg
abbrev QeU:=@Int.mul_assoc
abbrev QeV:=@List.getElem?_range
abbrev QeW:=@List.length_pos_iff
abbrev QeX:=@List.filter_eq_self
abbrev QeY:=@List.cons.injEq
abbrev QeZ:=@List.mem_replicate
abbrev Qf_:=@Nat.sub_zero
abbrev QfA:=@Option.isSome_iff_exists
abbrev QfB:=@Array.size_setIfInBounds
abbrev QfC:=@Nat.lt_of_le_of_lt
abbrev QfD:=@Bool.eq_false_iff
abbrev QfE:=@List.getElem?_set_self
abbrev QfF:=@List.Perm.append_right
abbrev QfG:=@List.filter_eq_nil_iff
abbrev QfH:=@List.countP_cons
abbrev QfI:=@List.nodup_range
abbrev QfJ:=@Nat.lt_succ_self
theorem IP.{u, v} {α : Type u} {β : Type v} (a:α) (f:α→Option β):(some a).bind f=f a:= rfl
theorem IR.{u} {α : Type u} {l:List α} {i:Nat} (h:i<l.length):l[i]? = some l[i]:= List.getElem?_eq_getElem h
theorem IS.{u} {α : Type u} {l:List α} {i:Nat} {a:α}:l[i]? = some a↔∃h:i<l.length, l[i]=a:= List.getElem?_eq_some_iff
theorem IT.{u} {α : Type u} {as bs:List α}:(as++bs).length=as.length+bs.length:= List.length_append
theorem IU.{u} {α : Type u} {a b:α}:a∈[b]↔a=b:= List.mem_singleton
inductive Ty where
 | int (k:IntKind)
 | bool
 | str
 | slice (t:Ty)
 | st (n:Nat)
 deriving DecidableEq
def Ty.KS:Ty→Bool
 | .st n=>Nat.ble 500 n
 | _=>false
def Ty.SI:Ty→Bool
 | .st n=>Nat.beq (n % 2) 1
 | _=>false
@[reducible] def El(S:Nat→Type):Ty→Type
 | .int _=>Int
 | .bool=>Bool
 | .str=>List UInt8
 | .slice t=>List (El S t)
 | .st n=>S n
inductive NP(S:Nat→Type) where
 | i (k:IntKind) (n:Int)
 | b (x:Bool)
 | s (l:List UInt8)
 | nl
 | sl (t:Ty) (l:List (El S t))
 | v (x:Value)
@[reducible] def NJ(S:Nat→Type):List Ty→Type
 | []=>Unit
 | t::r=>El S t×NJ S r
structure Fam where
 S:Nat→Type
 fs:Nat→List Ty
 un:(n:Nat)→S n→NJ S (fs n)
 up:(n:Nat)→NJ S (fs n)→S n
 um:∀n a,un n (up n a)=a
abbrev ND(F:Fam):=NP F.S
abbrev ET(F:Fam)(t:Ty):=El F.S t
abbrev Jk(F:Fam)(ts:List Ty):=NJ F.S ts
def enc1(F:Fam):(t:Ty)→ET F t→ND F
 | .int k,n=>.i k n
 | .bool,x=>.b x
 | .str,l=>.s l
 | .slice t,l=>.sl t l
 | .st _,_=>.nl
def Ru(F:Fam):(t:Ty)→ND F→Option (ET F t)
 | .int k,.i k' n=>if k'=k then some n else none
 | .bool,.b x=>some x
 | .str,.s l=>some l
 | .slice t,.sl t' l=>if h:t'=t then some (h▸l)else none
 | .slice t,.nl=>cond t.KS none (some [])
 | _,_=>none
def LJ(F:Fam):(ts:List Ty)→Jk F ts→List (ND F)
 | [],_=>[]
 | t::r,a=>enc1 F t a.1::LJ F r a.2
def OT(F:Fam):(ts:List Ty)→List (ND F)→Option (Jk F ts)
 | [],[]=>some ()
 | t::r,c::cs=>match Ru F t c with
  | none=>none
  | some x=>match OT F r cs with
   | none=>none
   | some y=>some (x,y)
 | _,_=>none
def Jc(F:Fam):(t:Ty)→ET F t→List (ND F)
 | .st n,x=>LJ F (F.fs n) (F.un n x)
 | .int k,n=>[.i k n]
 | .bool,x=>[.b x]
 | .str,l=>[.s l]
 | .slice t,l=>[.sl t l]
def Jf(F:Fam):Ty→Nat
 | .st n=>(F.fs n).length
 | _=>1
def Ty.K4:Ty→Bool
 | .st _=>true
 | _=>false
def Mg(F:Fam):(t:Ty)→List (ND F)→Option (ET F t)
 | .st n,cs=>match OT F (F.fs n) cs with
  | none=>none
  | some a=>some (F.up n a)
 | .int k,[c]=>Ru F (.int k) c
 | .bool,[c]=>Ru F .bool c
 | .str,[c]=>Ru F .str c
 | .slice t,[c]=>Ru F (.slice t) c
 | _,_=>none
inductive Rl{S:Nat→Type}:NP S→NP S→Prop where
 | refl (d:NP S):Rl d d
 | nl (t:Ty) (h:t.KS=false):Rl .nl (.sl t [])
def OJ{S:Nat→Type}(cs ds:List (NP S)):Prop:=cs.length=ds.length∧∀(k:Nat)(c d:NP S),cs[k]? = some c→ds[k]? = some d→Rl c d
theorem xV(F:Fam):∀(ts:List Ty)(a:Jk F ts),(LJ F ts a).length=ts.length
 | [],_=>rfl
 | t::r,a=>by simp[LJ,xV F r a.2]
theorem aS(F:Fam)(t:Ty)(x:ET F t):(Jc F t x).length=Jf F t:=by
 cases t<;>simp[Jc,Jf,xV]
theorem oE(F:Fam){t:Ty}{c:ND F}{x:ET F t}(h:Ru F t c=some x):Rl c (enc1 F t x):=by
 unfold Ru at h;split at h
 ·split at h
  ·rename_i hk;cases h;subst hk;exact .refl _
  ·cases h
 ·cases h;exact .refl _
 ·cases h;exact .refl _
 ·split at h
  ·rename_i hk;cases h;subst hk;exact .refl _
  ·cases h
 ·rename_i t
  cases ht:t.KS with
  | true=>rw[ht]at h;cases h
  | false=>rw[ht]at h;cases h;exact .nl _ ht
 ·cases h
theorem zc(F:Fam):∀{ts:List Ty}{cs:List (ND F)} {a:Jk F ts},OT F ts cs=some a→OJ cs (LJ F ts a)
 | [],cs,a,h=>by
  cases cs with
  | nil=>exact⟨rfl,by simp⟩
  | cons c cs=>simp[OT]at h
 | t::r,cs,a,h=>by
  cases cs with
  | nil=>simp[OT]at h
  | cons c cs=>
   simp only[OT]at h;split at h
   ·cases h
   ·rename_i x hx;split at h
    ·cases h
    ·rename_i y hy;cases h;obtain⟨h1,h2⟩:=zc F hy
     refine⟨by simp[LJ,h1],?_⟩
     intro k c' d' hc hd
     cases k with
     | zero=>simp only[LJ,M4,KV]at hc hd;subst hc;subst hd;exact oE F hx
     | succ k=>simp only[LJ,WW]at hc hd;exact h2 k c' d' hc hd
theorem sE{S:Nat→Type}{c d:NP S}(h:Rl c d):OJ [c] [d]:=by
 refine⟨rfl,?_⟩;intro k c' d' hc hd
 cases k with
 | zero=>simp only[M4,KV]at hc hd;subst hc;subst hd;exact h
 | succ k=>simp at hc
theorem bK(F:Fam){t:Ty}{cs:List (ND F)}{x:ET F t}(h:Mg F t cs=some x):OJ cs (Jc F t x):=by
 unfold Mg at h;split at h
 ·split at h
  ·cases h
  ·rename_i a ha;cases h;simp only[Jc,F.um];exact zc F ha
 ·exact sE (oE F h)
 ·exact sE (oE F h)
 ·exact sE (oE F h)
 ·exact sE (oE F h)
 ·cases h
def cells(F:Fam)(t:Ty)(l:List (ET F t)):List (ND F):=(l.map (Jc F t)).flatten
inductive Jm{F:Fam}(w:World)(IV:Nat→Prop):ND F→Value→Prop where
 | i (k:IntKind) (n:Int):Jm w IV (.i k n) (.int k n)
 | b (x:Bool):Jm w IV (.b x) (.bool x)
 | s (l:List UInt8):Jm w IV (.s l) (.string ⟨⟨l⟩⟩)
 | nl (p:Option Addr):Jm w IV .nl (.slice p 0 0)
 | v (x:Value) (h:x.oneCell'=true):Jm w IV (.v x) x
 | sl0 (t:Ty) (p:Option Addr):Jm w IV (.sl t []) (.slice p 0 0)
 | sl (t:Ty) (l:List (ET F t)) (b o cap:Nat) (f:Nat→Value) (hb:IV b) (hcap:l.length≤cap) (hm:cap≤maxLen)
   (hc:∀k d,(cells F t l)[k]? = some d→w.cell? ⟨b,o+k,none⟩=some (f k))
   (hr:∀k d,(cells F t l)[k]? = some d→Jm w IV d (f k)) :
   Jm w IV (.sl t l) (.slice (some ⟨b,o,none⟩) l.length cap)
theorem KN{w w':World}{a:Addr}(h:w'.heap[a.block]? = w.heap[a.block]?):w'.cell? a=w.cell? a:=by simp[World.cell?,h]
section
variable{F:Fam}
theorem Jm.mono{w w':World}{IV Jg:Nat→Prop}(hi:∀b,IV b→Jg b)(hw:∀b,IV b→w'.heap[b]? = w.heap[b]?)
  {d:ND F} {x:Value} (h:Jm w IV d x):Jm w' Jg d x:=by
 induction h with
 | i=>exact .i _ _
 | b=>exact .b _
 | s=>exact .s _
 | nl=>exact .nl _
 | v x h=>exact .v x h
 | sl0=>exact .sl0 _ _
 | sl t l b o cap f hb hcap hm hc hr ih=>
  exact .sl t l b o cap f (hi b hb) hcap hm (λk d hk=>by rw[KN (hw b hb)];exact hc k d hk) ih
theorem Jm.Uh{w:World}{IV:Nat→Prop}{d d':ND F}{x:Value}(hl:Rl d d')(h:Jm w IV d x):Jm w IV d' x:=by
 cases hl with
 | refl=>exact h
 | nl t ht=>cases h with | nl p=>exact .sl0 t p
theorem Jm.oneCell{w:World}{IV:Nat→Prop}{d:ND F}{x:Value}(h:Jm w IV d x):x.oneCell'=true:=by
 cases h<;>first | rfl | assumption
def NP.flat:NP F.S→Bool
 | .i _ _ | .b _ | .s _ | .v _=>true
 | _=>false
theorem Jm.flat{w w':World}{IV Jg:Nat→Prop}{d:ND F}{x:Value}(hf:d.flat=true)(h:Jm w IV d x):Jm w' Jg d x:=by
 cases h with
 | i=>exact .i _ _
 | b=>exact .b _
 | s=>exact .s _
 | v x h=>exact .v x h
 | _=>simp[NP.flat]at hf
def Ms(F:Fam):(ts:List Ty)→Jk F ts→List (List (ND F)×Bool)
 | [],_=>[]
 | t::r,x=>(Jc F t x.1,t.K4)::Ms F r x.2
inductive L8(w:World)(IV:Nat→Prop):List (ND F)×Bool→Value→Prop where
 | one {d:ND F} {v:Value} (h:Jm w IV d v):L8 w IV ([d],false) v
 | agg {cs:List (ND F)} {vs:List Value} (hl:vs.length=cs.length) (h:∀(k:Nat)(c:ND F)(x:Value),cs[k]? = some c→vs[k]? = some x→Jm w IV c x):L8 w IV (cs,true) (.agg ⟨vs⟩)
theorem L8.mono{w w':World}{IV Jg:Nat→Prop}(hi:∀b,IV b→Jg b)(hw:∀b,IV b→w'.heap[b]? = w.heap[b]?)
  {d:List (ND F)×Bool} {x:Value} (h:L8 w IV d x):L8 w' Jg d x:=by
 cases h with
 | one h=>exact .one (h.mono hi hw)
 | agg hl h=>exact .agg hl (λk c x a b=>(h k c x a b).mono hi hw)
def Q_(w:World)(IV:Nat→Prop)(ds:List (List (ND F)×Bool))(vs:List Value):Prop:=
 vs.length=ds.length∧∀(k:Nat)(d:List (ND F)×Bool) (x:Value),ds[k]? = some d→vs[k]? = some x→L8 w IV d x
def ba (P : Program) (f : FuncId) : Prop:=∃ fn,P.funcs[f]? = some fn ∧ (fn.name == "runtime.NumGoroutine") = false ∧ fn.body.isNone = false
def PN(P:Program)(F:Fam)(w:World)(IV:Nat→Prop)(ks:List Ty)(r:Ty)(φ : Jk F ks→Option (ET F r))(v:Value):Prop:=
 ∃fid bound captured,v = .func (.func fid) ⟨bound⟩ ⟨captured⟩∧(bound = []∨ks.length=1)∧ba P fid∧
  ∀(w':World)(Jg:Nat→Prop),(∀b,IV b→Jg b∧w'.heap[b]? = w.heap[b]?)→(∀b,Jg b→b<w'.heap.size)→∀a x vs,φ a=some x→Q_ w' Jg (Ms F ks a) vs→
   Calls P fid ⟨bound++vs++captured⟩ w' λe w''=>∃v,e = .returned v∧RowKit.Below w'.heap.size w' w''∧L8 w'' Jg (Jc F r x,r.K4) v∧w'.drawn≤w''.drawn
inductive Ko(F:Fam) where
 | im (d:ND F)
 | pt (cs:List (ND F)) (off:Nat)
 | ptr (id off:Nat)
 | Ma (id sz i off:Nat)
 | KP (id:Nat)
 | Nr (id sz off len:Nat)
 | OV (id sz i off:Nat)
 | Pn (id sz i off sz' j off':Nat)
 | OX (id n:Nat)
 | Oa (id:Nat)
 | PS (cs:List (ND F))
 | ln (d:ND F)
 | UE (cs:List (ND F)) (off:Nat)
 | any
 | one
abbrev NS:=List (Option (Nat×Nat×Nat))
def Km:NS→List Nat
 | []=>[]
 | some (b,_)::l=>b::Km l
 | none::l=>Km l
abbrev Pl:=Option (Nat×Nat×Nat×NS)
structure G where
 ids:Nat→Option Pl
 IV:Nat→Prop
 len:Nat→Prop
abbrev G.al(g:G)(b:Nat):Prop:=g.IV b∨g.len b
def G.blk(g:G)(id b:Nat):Prop:=∃b0 c,g.ids id=some (some (b0,c))∧b∈b0::Km c.2.2
theorem G.Kn{g:G}{id b:Nat}{c:Nat×Nat×NS}(h:g.ids id=some (some (b,c))):g.blk id b:=⟨b,c,h,WT⟩
theorem G.Om{g:G}{id b b':Nat}{x y:Nat}(h:g.ids id=some (some (b,x,y,[])))(hb:g.blk id b'):b'=b:=by obtain⟨b0,c,h1,h2⟩:=hb;rw[h]at h1;cases h1;simpa[Km]using h2
theorem G.Rx{g:G}{id b':Nat}(h:g.ids id=some none)(hb:g.blk id b'):False:=by obtain⟨b0,c,h1,h2⟩:=hb;rw[h]at h1;cases h1
def bD(w:World)(IV:Nat→Prop)(t:Ty)(l:List (ET F t)):Pl→Prop
 | none=>l = []
 | some (b,cap,n)=>n=(l.length,[])∧l.length≤cap∧cap≤maxLen∧∃cur e,w.heap[b]? = some (.cells ⟨cur⟩ e (0,0))∧cur.length=cap*Jf F t∧
   ∀(k:Nat)(d:ND F)(x:Value),(cells F t l)[k]? = some d→cur[k]? = some x→Jm w IV d x
def Lf:Pl→Value→Prop
 | none,v=>∃p,v = .slice p 0 0
 | some (b,cap,n),v=>v = .slice (some ⟨b,0,none⟩) n.1 cap
def KR:Option (Nat×Nat×Nat)→Pl
 | none=>none
 | some (b,cap,n)=>some (b,cap,n,[])
def LB(w:World)(IV:Nat→Prop):ND F→Value→Option (Nat×Nat×Nat)→Prop
 | .sl t l,x,pl=>bD w IV t l (KR pl)∧Lf (KR pl) x
 | d,x,pl=>pl=none∧d.flat=true∧Jm w IV d x
def M8(w:World)(IV:Nat→Prop)(t:Ty)(l:List (ET F t)):Pl→Prop
 | none=>l = []
 | some (b,cap,n)=>n.1=l.length∧l.length≤cap∧cap≤maxLen∧n.2.length=(cells F t l).length∧(b::Km n.2).Nodup∧∃cur e,w.heap[b]? = some (.cells ⟨cur⟩ e (0,0))∧cur.length=cap*Jf F t∧
   ∀(k:Nat)(d:ND F)(x:Value)(pl:Option (Nat×Nat×Nat)),(cells F t l)[k]? = some d→cur[k]? = some x→n.2[k]? = some pl→LB w IV d x pl
def MapAt(w:World)(IV:Nat→Prop)(t:Ty)(l:List (ET F t))(b:Nat):Prop:=
 ∃es:List MapEntry,w.heap[b]? = some (.map ⟨es⟩ es.length)∧es.length=l.length∧
  ∀(k:Nat)(x:ET F t)(e:MapEntry),l[k]? = some x→es[k]? = some e→e.born=k∧∃kd Ni,Jc F t x=kd::Ni∧Jm w IV kd e.key∧L8 w IV (Ni,t.SI) e.val
def LM(w:World)(IV:Nat→Prop)(t:Ty)(l:List (ET F t))(pl:Pl):Prop:=
 if t.KS=true then∃b,pl=some (b,0,0,[])∧MapAt w IV t l b else bD w IV t l pl
def Pg(t:Ty)(pl:Pl)(v:Value):Prop:=
 if t.KS=true then∃b,pl=some (b,0,0,[])∧v = .map (some b)else Lf pl v
theorem eX{b:Nat}{c:Nat×Nat}:∀{ns:NS}{k:Nat},ns[k]? = some (some (b,c))→b∈Km ns
 | [],k,h=>by simp at h
 | q::ns,0,h=>by simp at h;subst h;simp[Km]
 | q::ns,k+1,h=>by
  have:=eX (ns:=ns) (k:=k) (by simpa using h)
  cases q with
  | none=>exact this
  | some q=>exact Pw _ this
inductive Jz(g:G)(w:World):Ko F→Value→Prop where
 | im {d:ND F} {x:Value} (h:Jm w g.IV d x):Jz g w (.im d) x
 | pt (cs:List (ND F)) (off b o:Nat) (f:Nat→Value) (hb:g.IV b)
   (hc:∀k d,cs[k]? = some d→w.cell? ⟨b,o+k,none⟩=some (f k))
   (hr:∀k d,cs[k]? = some d→Jm w g.IV d (f k)) :
   Jz g w (.pt cs off) (.pointer (some ⟨b,o+off,none⟩))
 | ptr {id off b:Nat} {c:Nat×Nat×NS} (h:g.ids id=some (some (b,c))):Jz g w (.ptr id off) (.pointer (some ⟨b,off,none⟩))
 | Ma {id sz i off b:Nat} {c:Nat×Nat×NS} (h:g.ids id=some (some (b,c))):Jz g w (.Ma id sz i off) (.pointer (some ⟨b,i*sz+off,none⟩))
 | ML {id:Nat} (p:Option Addr) (h:g.ids id=some none):Jz g w (.KP id) (.slice p 0 0)
 | KP {id b c:Nat} {n:Nat×NS} (h:g.ids id=some (some (b,c,n))) (hl:n.1≤c) (hm:c≤maxLen):Jz g w (.KP id) (.slice (some ⟨b,0,none⟩) n.1 c)
 | OO {id sz:Nat} (p:Option Addr) (h:g.ids id=some none):Jz g w (.Nr id sz 0 0) (.slice p 0 0)
 | Nr {id sz off len b c o:Nat} {n:Nat×NS} (h:g.ids id=some (some (b,c,n))) (hl:off+len≤n.1) (hn:n.1≤c) (ho:(off=c∧0<c)∨o=off*sz) (hm:c≤maxLen):Jz g w (.Nr id sz off len) (.slice (some ⟨b,o,none⟩) len (c - off))
 | OV {id sz i off b c:Nat} {n:Nat×NS} {pl:Option (Nat×Nat×Nat)} {v:Value} (h:g.ids id=some (some (b,c,n))) (hk:n.2[i*sz+off]? = some pl) (hv:Lf (KR pl) v):Jz g w (.OV id sz i off) v
 | Pn {id sz i off sz' j off' b c b':Nat} {c':Nat×Nat} {n:Nat×NS} (h:g.ids id=some (some (b,c,n))) (hk:n.2[i*sz+off]? = some (some (b',c'))):Jz g w (.Pn id sz i off sz' j off') (.pointer (some ⟨b',j*sz'+off',none⟩))
 | OX {id n b:Nat} {c:Nat×Nat×NS} (h:g.ids id=some (some (b,c))) (hm:n≤maxLen):Jz g w (.OX id n) (.slice (some ⟨b,0,none⟩) n n)
 | Oa {id b:Nat} {c:Nat×Nat×NS} (h:g.ids id=some (some (b,c))):Jz g w (.Oa id) (.map (some b))
 | PS (cs:List (ND F)) (b o b2 o2:Nat) (f:Nat→Value) (hb:g.IV b) (hv:w.cell? ⟨b,o,none⟩=some (.pointer (some ⟨b2,o2,none⟩))) (hb2:g.IV b2)
   (hc:∀k d,cs[k]? = some d→w.cell? ⟨b2,o2+k,none⟩=some (f k))
   (hr:∀k d,cs[k]? = some d→Jm w g.IV d (f k)) :
   Jz g w (.PS cs) (.pointer (some ⟨b,o,none⟩))
 | ln {d:ND F} {x:Value} (h:Jm w g.al d x):Jz g w (.ln d) x
 | UE (cs:List (ND F)) (off b o:Nat) (f:Nat→Value) (hb:g.al b)
   (hc:∀k d,cs[k]? = some d→w.cell? ⟨b,o+k,none⟩=some (f k))
   (hr:∀k d,cs[k]? = some d→Jm w g.al d (f k)) :
   Jz g w (.UE cs off) (.pointer (some ⟨b,o+off,none⟩))
 | any {x:Value}:Jz g w .any x
 | one {x:Value} (h:x.oneCell'=true):Jz g w .one x
structure Le(g:G)(w:World)(g':G)(w':World):Prop where
 ids:∀id r,g.ids id=some r→g'.ids id=some r
 IV:∀b,g.IV b→g'.IV b
 heap:∀b,g.IV b→w'.heap[b]? = w.heap[b]?
 len:∀b,g.len b→g'.len b
 T_:∀b,g.len b→w'.heap[b]? = w.heap[b]?
theorem Le.refl(g:G)(w:World):Le g w g w:=⟨λ_ _ h=>h,λ_ h=>h,λ_ _=>rfl,λ_ h=>h,λ_ _=>rfl⟩
theorem Le.trans{g g' g'':G}{w w' w'':World}(h:Le g w g' w')(k:Le g' w' g'' w''):Le g w g'' w'':=
 ⟨λ_ _ x=>k.ids _ _ (h.ids _ _ x),λ_ x=>k.IV _ (h.IV _ x),λb x=>(k.heap b (h.IV b x)).trans (h.heap b x),λ_ x=>k.len _ (h.len _ x),λb x=>(k.T_ b (h.len b x)).trans (h.T_ b x)⟩
theorem Le.al{g g':G}{w w':World}(hl:Le g w g' w'){b:Nat}(h:g.al b):g'.al b:=h.imp (hl.IV b) (hl.len b)
theorem Le.Y3{g g':G}{w w':World}(hl:Le g w g' w'){b:Nat}(h:g.al b):w'.heap[b]? = w.heap[b]?:=h.elim (hl.heap b) (hl.T_ b)
theorem Jm.leL{g g':G}{w w':World}(hl:Le g w g' w'){d:ND F}{x:Value}(h:Jm w g.al d x):Jm w' g'.al d x:=
 h.mono (λ_=>hl.al) (λ_=>hl.Y3)
theorem Jm.le{g g':G}{w w':World}(hl:Le g w g' w'){d:ND F}{x:Value}(h:Jm w g.IV d x):Jm w' g'.IV d x:=
 h.mono hl.IV hl.heap
theorem Jz.le{g g':G}{w w':World}(hl:Le g w g' w'){c:Ko F}{x:Value}(h:Jz g w c x):Jz g' w' c x:=by
 cases h with
 | im h=>exact .im (h.le hl)
 | pt cs off b o f hb hc hr=>
  exact .pt cs off b o f (hl.IV b hb) (λk d hk=>by rw[KN (hl.heap b hb)];exact hc k d hk) (λk d hk=>(hr k d hk).le hl)
 | ptr h=>exact .ptr (hl.ids _ _ h)
 | Ma h=>exact .Ma (hl.ids _ _ h)
 | ML p h=>exact .ML p (hl.ids _ _ h)
 | KP h h1 h2=>exact .KP (hl.ids _ _ h) h1 h2
 | OO p h=>exact .OO p (hl.ids _ _ h)
 | Nr h h1 h2 h3 h4=>exact .Nr (hl.ids _ _ h) h1 h2 h3 h4
 | OV h h1 h2=>exact .OV (hl.ids _ _ h) h1 h2
 | Pn h h1=>exact .Pn (hl.ids _ _ h) h1
 | OX h hm=>exact .OX (hl.ids _ _ h) hm
 | Oa h=>exact .Oa (hl.ids _ _ h)
 | PS cs b o b2 o2 f hb hv hb2 hc hr=>
  exact .PS cs b o b2 o2 f (hl.IV b hb) (by rw[KN (hl.heap b hb)];exact hv) (hl.IV b2 hb2) (λk d hk=>by rw[KN (hl.heap b2 hb2)];exact hc k d hk) (λk d hk=>(hr k d hk).le hl)
 | ln h=>exact .ln (h.leL hl)
 | UE cs off b o f hb hc hr=>
  exact .UE cs off b o f (hl.al hb) (λk d hk=>by rw[KN (hl.Y3 hb)];exact hc k d hk) (λk d hk=>(hr k d hk).leL hl)
 | any=>exact .any
 | one h=>exact .one h
theorem Jz.oneCell{g:G}{w:World}{c:Ko F}{x:Value}(h:Jz g w c x)(hc:c≠.any):x.oneCell'=true:=by
 cases h with
 | OV h hk hv=>
  rename_i pl
  cases pl with
  | none=>obtain⟨p,rfl⟩:=hv;rfl
  | some q=>simp only[KR,Lf]at hv;subst hv;rfl
 | im h=>exact h.oneCell
 | ln h=>exact h.oneCell
 | any=>exact absurd rfl hc
 | one h=>exact h
 | _=>rfl
inductive Dat(F:Fam) where
 | c (x:Ko F)
 | agg (cs:List (Ko F))
 | MC (ds:List (Dat F))
 | NG (fn:Fn) (fs cs:List (Dat F))
 | fv (ks:List Ty) (r:Ty) (φ : Jk F ks→Option (ET F r))
 | gh (id:Nat)
inductive Jr(P:Program)(g:G)(w:World):Dat F→Value→Prop where
 | c {x:Ko F} {v:Value} (h:Jz g w x v):Jr P g w (.c x) v
 | agg {cs:List (Ko F)} {vs:List Value} (hl:vs.length=cs.length) (h:∀(k:Nat)(c:Ko F)(x:Value),cs[k]? = some c→vs[k]? = some x→Jz g w c x):Jr P g w (.agg cs) (.agg ⟨vs⟩)
 | MC {ds:List (Dat F)} {vs:List Value} (hl:vs.length=ds.length) (h:∀(k:Nat)(d:Dat F)(x:Value),ds[k]? = some d→vs[k]? = some x→Jr P g w d x):Jr P g w (.MC ds) (.tuple ⟨vs⟩)
 | NG {fn:Fn} {fs cs:List (Dat F)} {vs us:List Value} (h1:vs.length=fs.length) (h2:us.length=cs.length)
   (hf:∀(k:Nat)(c:Dat F)(x:Value),fs[k]? = some c→vs[k]? = some x→Jr P g w c x)
   (hc:∀(k:Nat)(c:Dat F)(x:Value),cs[k]? = some c→us[k]? = some x→Jr P g w c x):Jr P g w (.NG fn fs cs) (.func fn ⟨vs⟩ ⟨us⟩)
 | fv {ks:List Ty} {r:Ty} {φ : Jk F ks→Option (ET F r)} {v:Value} (h:PN P F w g.IV ks r φ v):Jr P g w (.fv ks r φ) v
 | gh {id b:Nat} {c:Nat×Nat×NS} {v:Value} (h:g.ids id=some (some (b,c))):Jr P g w (.gh id) v
theorem PN.le{P:Program}{g g':G}{w w':World}(hl:Le g w g' w'){ks:List Ty}{r:Ty}{φ : Jk F ks→Option (ET F r)}{v:Value}(h:PN P F w g.IV ks r φ v):PN P F w' g'.IV ks r φ v:=by obtain⟨fid,bound,captured,h1,h0,h2,h3⟩:=h;refine⟨fid,bound,captured,h1,h0,h2,λw2 ZW k1 k2 a x vs k3 k4=>h3 w2 ZW (λb hb=>⟨(k1 b (hl.IV b hb)).1,((k1 b (hl.IV b hb)).2).trans (hl.heap b hb)⟩) k2 a x vs k3 k4⟩
theorem Jr.le{P:Program}{g g':G}{w w':World}(hl:Le g w g' w'){d:Dat F}{x:Value}(h:Jr P g w d x):Jr P g' w' d x:=by
 induction h with
 | c h=>exact .c (h.le hl)
 | agg h1 h2=>exact .agg h1 (λk c x a b=>(h2 k c x a b).le hl)
 | MC h1 _ ih=>exact .MC h1 ih
 | NG h1 h2 _ _ i1 i2=>exact .NG h1 h2 i1 i2
 | fv h=>exact .fv (h.le hl)
 | gh h=>exact .gh (hl.ids _ _ h)
inductive Jw(F:Fam) where
 | box (cs:List (Ko F))
 | row (t:Ty) (l:List (ET F t))
 | KM (t:Ty) (l:List (ET F t))
 | Oz (t:Ty) (l:List (ET F t))
 | Ww (cs:List (ND F))
 | mp (t:Ty) (l:List (ET F t))
 | it (ob:Obj)
 | ME (k n:Nat)
 | NY (t:Ty) (l:List (ET F t)) (i:Nat) (ks:List Nat)
 | K5 (t:Ty) (l:List (ET F t)) (j:Nat)
def Jw.owned:Jw F→Bool
 | .box _ | .row _ _ | .KM _ _ | .mp _ _ | .it _ | .NY _ _ _ _ | .K5 _ _ _=>true
 | _=>false
def Jw.YV:Jw F→Bool
 | .ME _ _=>true
 | _=>false
theorem Jw.MQ{B:Jw F}(h:B.owned=true):B.YV=false:=by cases B<;>first | rfl | cases h
def Nf(w:World)(t:Ty)(l:List (ET F t))(C:Nat→ND F→Value→Option (Nat×Nat×Nat)→Prop):Pl→Prop
 | none=>l = []
 | some (b,cap,n)=>n.1=l.length∧l.length≤cap∧cap≤maxLen∧n.2.length=(cells F t l).length∧(b::Km n.2).Nodup∧∃cur e,w.heap[b]? = some (.cells ⟨cur⟩ e (0,0))∧cur.length=cap*Jf F t∧
   ∀(k:Nat)(d:ND F)(x:Value)(pl:Option (Nat×Nat×Nat)),(cells F t l)[k]? = some d→cur[k]? = some x→n.2[k]? = some pl→C k d x pl
def pY(w:World)(IV:Nat→Prop)(sz i:Nat)(ks:List Nat)(k:Nat)(d:ND F)(x:Value)(pl:Option (Nat×Nat×Nat)):Prop:=
 ((∃q∈ks,k=i*sz+q)→pl=none∧x.oneCell'=true)∧((¬ ∃q∈ks,k=i*sz+q)→LB w IV d x pl)
def Rv(w:World)(IV:Nat→Prop)(sz j:Nat)(k:Nat)(d:ND F)(x:Value)(pl:Option (Nat×Nat×Nat)):Prop:=
 (k<j*sz→LB w IV d x pl)∧(¬ k<j*sz→pl=none∧Jm w IV d x)
def Lb(k:Nat)(p q:Option Pl):Prop:=(∃b c n n',p=some (some (b,c,n))∧q=some (some (b,c,n'))∧n'.1=n.1∧n.1=k)∨(p=some none∧q=some none∧k=0)
def KL(g:G)(w:World)(id:Nat):Jw F→Prop
 | .box cs=>∃(b:Nat)(c:Nat×Nat)(arr:List Value)(t:TypeId),g.ids id=some (some (b,c.1,c.2,[]))∧w.heap[b]? = some (.cells ⟨arr⟩ t (0,0))∧arr.length=cs.length∧
   ∀(k:Nat)(c:Ko F)(x:Value),cs[k]? = some c→arr[k]? = some x→Jz g w c x
 | .row t l=>(g.ids id=some none∧l = [])∨
   ∃b cap cur e,g.ids id=some (some (b,cap,l.length,[]))∧w.heap[b]? = some (.cells ⟨cur⟩ e (0,0))∧l.length≤cap∧cap≤maxLen∧cur.length=cap*Jf F t∧
    ∀(k:Nat)(d:ND F)(x:Value),(cells F t l)[k]? = some d→cur[k]? = some x→Jm w g.IV d x
 | .KM t l=>∃pl,g.ids id=some pl∧M8 w g.IV t l pl
 | .Oz t l=>(g.ids id=some none∧l = [])∨
   ∃b cap ns,g.ids id=some (some (b,cap,l.length,ns))∧(∀b'∈Km ns,g.IV b')∧g.IV b∧l.length≤cap∧cap≤maxLen∧
    ∀(k:Nat)(d:ND F),(cells F t l)[k]? = some d→∃x,w.cell? ⟨b,k,none⟩=some x∧Jm w g.IV d x
 | .Ww cs=>∃(b:Nat)(c:Nat×Nat),g.ids id=some (some (b,c.1,c.2,[]))∧g.IV b∧∀(k:Nat)(d:ND F),cs[k]? = some d→∃x,w.cell? ⟨b,k,none⟩=some x∧Jm w g.IV d x
 | .mp t l=>∃b,g.ids id=some (some (b,0,0,[]))∧MapAt w g.IV t l b
 | .it ob=>∃b,g.ids id=some (some (b,0,0,[]))∧w.heap[b]? = some ob
 | .ME k n=>Lb n (g.ids id) (g.ids k)
 | .NY t l i ks=>∃pl,g.ids id=some pl∧Nf w t l (pY w g.IV (Jf F t) i ks) pl
 | .K5 t l j=>∃pl,g.ids id=some pl∧Nf w t l (Rv w g.IV (Jf F t) j) pl
theorem MapAt.Ml{w w':World}{IV Jg:Nat→Prop}(hi:∀b,IV b→Jg b)(hw:∀b,IV b→w'.heap[b]? = w.heap[b]?){t:Ty}{l:List (ET F t)}{b:Nat}(hb:w'.heap[b]? = w.heap[b]?)(h:MapAt w IV t l b):MapAt w' Jg t l b:=by obtain⟨es,h1,h2,h3⟩:=h;refine⟨es,hb.trans h1,h2,λk x e a a'=>?_⟩;obtain⟨q1,kd,Ni,q2,q3,q4⟩:=h3 k x e a a';exact⟨q1,kd,Ni,q2,q3.mono hi hw,q4.mono hi hw⟩
theorem bD.Ml{w w':World}{IV Jg:Nat→Prop}(hi:∀b,IV b→Jg b)(hw:∀b,IV b→w'.heap[b]? = w.heap[b]?){t:Ty}{l:List (ET F t)}{pl:Pl}(hb:∀b c,pl=some (b,c)→w'.heap[b]? = w.heap[b]?)(h:bD w IV t l pl):bD w' Jg t l pl:=by
 cases pl with
 | none=>exact h
 | some q=>obtain⟨b,cap,n⟩:=q;obtain⟨q1,q2,q3,cur,e,q4,q5,q6⟩:=h;exact⟨q1,q2,q3,cur,e,(hb b _ rfl).trans q4,q5,λk d x a b=>(q6 k d x a b).mono hi hw⟩
theorem LM.Ml{w w':World}{IV Jg:Nat→Prop}(hi:∀b,IV b→Jg b)(hw:∀b,IV b→w'.heap[b]? = w.heap[b]?){t:Ty}{l:List (ET F t)}{pl:Pl}(hb:∀b c,pl=some (b,c)→w'.heap[b]? = w.heap[b]?)(h:LM w IV t l pl):LM w' Jg t l pl:=by
 unfold LM at h ⊢;split
 ·rename_i hm;rw[if_pos hm]at h;obtain⟨b,rfl,h⟩:=h;exact⟨b,rfl,h.Ml hi hw (hb b _ rfl)⟩
 ·rename_i hm;rw[if_neg hm]at h;exact h.Ml hi hw hb
theorem dB{w:World}{IV:Nat→Prop}{t:Ty}{l:List (ET F t)}{pl:Pl}(h:t.KS=false):LM w IV t l pl=bD w IV t l pl:=by unfold LM;rw[if_neg (by simp[h])]
theorem gf{t:Ty}{pl:Pl}{v:Value}(h:t.KS=false):Pg t pl v=Lf pl v:=by unfold Pg;rw[if_neg (by simp[h])]
theorem LB.Ml{w w':World}{IV Jg:Nat→Prop}(hi:∀b,IV b→Jg b)(hw:∀b,IV b→w'.heap[b]? = w.heap[b]?){d:ND F}{x:Value}{pl:Option (Nat×Nat×Nat)}(hb:∀b c,pl=some (b,c)→w'.heap[b]? = w.heap[b]?)(h:LB w IV d x pl):LB w' Jg d x pl:=by
 cases d with
 | sl t l=>
  refine⟨h.1.Ml hi hw ?_,h.2⟩;intro b c e
  cases pl with
  | none=>cases e
  | some q=>obtain⟨b',c',n'⟩:=q;simp only[KR,KV,Prod.mk.injEq]at e;exact hb b (c',n') (by rw[← e.1])
 | _=>exact⟨h.1,h.2.1,h.2.2.mono hi hw⟩
theorem M8.Ml{w w':World}{IV Jg:Nat→Prop}(hi:∀b,IV b→Jg b)(hw:∀b,IV b→w'.heap[b]? = w.heap[b]?){t:Ty}{l:List (ET F t)}{pl:Pl}(hb:∀b0 c,pl=some (b0,c)→∀b∈b0::Km c.2.2,w'.heap[b]? = w.heap[b]?)(h:M8 w IV t l pl):M8 w' Jg t l pl:=by
 cases pl with
 | none=>exact h
 | some q=>obtain⟨b,cap,n⟩:=q;obtain⟨q1,q2,q3,q4,q5,cur,e,q6,q7,q8⟩:=h;have hb:=hb b _ rfl;refine⟨q1,q2,q3,q4,q5,cur,e,(hb b WT).trans q6,q7,λk d x pl h1 h2 h3=>(q8 k d x pl h1 h2 h3).Ml hi hw ?_⟩;rintro b' c' rfl;exact hb b' (Pw _ (eX h3))
theorem Nf.Ml{w w':World}{t:Ty}{l:List (ET F t)}{C C':Nat→ND F→Value→Option (Nat×Nat×Nat)→Prop}{pl:Pl}(hb:∀b0 c,pl=some (b0,c)→∀b∈b0::Km c.2.2,w'.heap[b]? = w.heap[b]?)
  (hC:∀k d x p,(∀b c,p=some (b,c)→w'.heap[b]? = w.heap[b]?)→C k d x p→C' k d x p) (h:Nf w t l C pl):Nf w' t l C' pl:=by
 cases pl with
 | none=>exact h
 | some q=>obtain⟨b,cap,n⟩:=q;obtain⟨q1,q2,q3,q4,q5,cur,e,q6,q7,q8⟩:=h;have hb:=hb b _ rfl;refine⟨q1,q2,q3,q4,q5,cur,e,(hb b WT).trans q6,q7,λk d x pl h1 h2 h3=>hC k d x pl ?_ (q8 k d x pl h1 h2 h3)⟩;rintro b' c' rfl;exact hb b' (Pw _ (eX h3))
theorem pY.Ml{w w':World}{IV Jg:Nat→Prop}(hi:∀b,IV b→Jg b)(hw:∀b,IV b→w'.heap[b]? = w.heap[b]?){sz i:Nat}{ks:List Nat}{k:Nat}{d:ND F}{x:Value}{p:Option (Nat×Nat×Nat)}(hb:∀b c,p=some (b,c)→w'.heap[b]? = w.heap[b]?)(h:pY w IV sz i ks k d x p):pY w' Jg sz i ks k d x p:=
 ⟨h.1,λhn=>(h.2 hn).Ml hi hw hb⟩
theorem Rv.Ml{w w':World}{IV Jg:Nat→Prop}(hi:∀b,IV b→Jg b)(hw:∀b,IV b→w'.heap[b]? = w.heap[b]?){sz j:Nat}{k:Nat}{d:ND F}{x:Value}{p:Option (Nat×Nat×Nat)}(hb:∀b c,p=some (b,c)→w'.heap[b]? = w.heap[b]?)(h:Rv w IV sz j k d x p):Rv w' Jg sz j k d x p:=
 ⟨λhn=>(h.1 hn).Ml hi hw hb,λhn=>⟨(h.2 hn).1,(h.2 hn).2.mono hi hw⟩⟩
theorem Lb.mono{k:Nat}{p q p' q':Option Pl}(hp:∀r,p=some r→p'=some r)(hq:∀r,q=some r→q'=some r)(h:Lb k p q):Lb k p' q':=by
 rcases h with⟨b,c,n,n',h1,h2,h3⟩ | ⟨h1,h2,h3⟩
 ·exact .inl ⟨b,c,n,n',hp _ h1,hq _ h2,h3⟩
 ·exact .inr ⟨hp _ h1,hq _ h2,h3⟩
theorem KL.le{g g':G}{w w':World}(hl:Le g w g' w'){id:Nat}{B:Jw F}(h:KL g w id B)
  (hb:B.owned=true→∀b,g.blk id b→w'.heap[b]? = w.heap[b]?):KL g' w' id B:=by
 cases B with
 | box cs=>obtain⟨b,c,arr,t,h1,h2,h3,h4⟩:=h;exact⟨b,c,arr,t,hl.ids _ _ h1,(hb rfl b (G.Kn h1)).trans h2,h3,λk c x a b=>(h4 k c x a b).le hl⟩
 | row t l=>
  rcases h with⟨h1,h2⟩ | ⟨b,cap,cur,e,h1,h2,h3,h4,h5,h6⟩
  ·exact .inl ⟨hl.ids _ _ h1,h2⟩
  ·exact .inr ⟨b,cap,cur,e,hl.ids _ _ h1,(hb rfl b (G.Kn h1)).trans h2,h3,h4,h5,λk d x a b=>(h6 k d x a b).le hl⟩
 | KM t l=>obtain⟨pl,h1,h2⟩:=h;refine⟨pl,hl.ids _ _ h1,h2.Ml hl.IV hl.heap ?_⟩;rintro b0 c rfl b hbb;exact hb rfl b ⟨b0,c,h1,hbb⟩
 | Oz t l=>
  rcases h with⟨h1,h2⟩ | ⟨b,cap,ns,h1,hn,h2,h3,h4,h5⟩
  ·exact .inl ⟨hl.ids _ _ h1,h2⟩
  ·refine .inr ⟨b,cap,ns,hl.ids _ _ h1,λb' hb'=>hl.IV b' (hn b' hb'),hl.IV b h2,h3,h4,λk d hk=>?_⟩;obtain⟨x,k1,k2⟩:=h5 k d hk
   exact⟨x,by rw[KN (hl.heap b h2)];exact k1,k2.le hl⟩
 | Ww cs=>
  obtain⟨b,c,h1,h2,h5⟩:=h;refine⟨b,c,hl.ids _ _ h1,hl.IV b h2,λk d hk=>?_⟩;obtain⟨x,k1,k2⟩:=h5 k d hk
  exact⟨x,by rw[KN (hl.heap b h2)];exact k1,k2.le hl⟩
 | mp t l=>obtain⟨b,h1,h2⟩:=h;exact⟨b,hl.ids _ _ h1,h2.Ml hl.IV hl.heap (hb rfl b (G.Kn h1))⟩
 | it ob=>obtain⟨b,h1,h2⟩:=h;exact⟨b,hl.ids _ _ h1,(hb rfl b (G.Kn h1)).trans h2⟩
 | ME k n=>exact Lb.mono (λr=>hl.ids _ r) (λr=>hl.ids _ r) h
 | NY t l i ks=>obtain⟨pl,h1,h2⟩:=h;refine⟨pl,hl.ids _ _ h1,h2.Ml ?_ λk d x p hp hc=>hc.Ml hl.IV hl.heap hp⟩;rintro b0 c rfl b hbb;exact hb rfl b ⟨b0,c,h1,hbb⟩
 | K5 t l j=>obtain⟨pl,h1,h2⟩:=h;refine⟨pl,hl.ids _ _ h1,h2.Ml ?_ λk d x p hp hc=>hc.Ml hl.IV hl.heap hp⟩;rintro b0 c rfl b hbb;exact hb rfl b ⟨b0,c,h1,hbb⟩
theorem sy{b:Nat}:∀{ns:NS},b∈Km ns→∃(k:Nat)(c:Nat×Nat),ns[k]? = some (some (b,c))
 | [],h=>by simp[Km]at h
 | none::ns,h=>by
  obtain⟨k,c,hk⟩:=sy (ns:=ns) h
  exact⟨k+1,c,by simpa using hk⟩
 | some (b',c')::ns,h=>by
  rcases Li.1 h with rfl | h
  ·exact⟨0,c',rfl⟩
  ·obtain⟨k,c,hk⟩:=sy (ns:=ns) h
   exact⟨k+1,c,by simpa using hk⟩
theorem d5(t:Ty)(l:List (ET F t)):(cells F t l).length=l.length*Jf F t:=by
 unfold cells
 induction l with
 | nil=>simp
 | cons a l ih=>simp only[KZ,U2,IT,aS,Ri,Rh,ih];omega
theorem Nf.at{w:World}{t:Ty}{l:List (ET F t)}{C:Nat→ND F→Value→Option (Nat×Nat×Nat)→Prop}{b cap:Nat}{n:Nat×NS}(h:Nf w t l C (some (b,cap,n))){k:Nat}{pl:Option (Nat×Nat×Nat)}(hk:n.2[k]? = some pl) :
  ∃d x,(cells F t l)[k]? = some d∧C k d x pl:=by
 obtain⟨q1,q2,q3,q4,q5,cur,e,q6,q7,q8⟩:=h;have hlt:k<n.2.length:=(IS.1 hk).1
 have h1:k<(cells F t l).length:=by omega
 have h2:(cells F t l).length≤cur.length:=by rw[q7,d5];exact MW _ q2
 exact⟨_,_,IR h1,q8 k _ _ _ (IR h1) (IR (by omega:k<cur.length)) hk⟩
theorem wz{w:World}{IV:Nat→Prop}{d:ND F}{x:Value}{q:Nat×Nat×Nat}(h:LB w IV d x (some q)):∃t' l',d = .sl t' l'∧bD w IV t' l' (some (q.1,q.2.1,q.2.2,[])):=by
 cases d with
 | sl t' l'=>exact⟨t',l',rfl,h.1⟩
 | _=>exact absurd h.1 (by simp)
theorem M8.sub{w:World}{IV:Nat→Prop}{t:Ty}{l:List (ET F t)}{b cap:Nat}{n:Nat×NS}(h:M8 w IV t l (some (b,cap,n))){k b':Nat}{c':Nat×Nat}(hk:n.2[k]? = some (some (b',c'))) :
  ∃t' l',(cells F t l)[k]? = some (.sl t' l')∧bD w IV t' l' (some (b',c'.1,c'.2,[])):=by
 obtain⟨d,x,h1,h2⟩:=Nf.at (C:=λ_=>LB w IV) h hk;obtain⟨t',l',rfl,h3⟩:=wz h2;exact⟨t',l',h1,h3⟩
theorem Nf.blk{w:World}{t:Ty}{l:List (ET F t)}{C:Nat→ND F→Value→Option (Nat×Nat×Nat)→Prop}{b cap:Nat}{n:Nat×NS}(h:Nf w t l C (some (b,cap,n)))(hC:∀k d x q,C k d x (some q)→∃IV,LB w IV d x (some q)){b':Nat}(hb:b'∈b::Km n.2):b'<w.heap.size:=by
 have key:∀{b:Nat}{o:Obj},w.heap[b]? = some o→b<w.heap.size:=λh=>(PY.1 h).1;rcases Li.1 hb with rfl | h4
 ·obtain⟨_,_,_,_,_,cur,e,q6,_⟩:=h;exact key q6
 ·obtain⟨k,c',hk⟩:=sy h4;obtain⟨d,x,_,h2⟩:=Nf.at h hk;obtain⟨IV,h3⟩:=hC _ _ _ _ h2;obtain⟨t',l',_,_,_,_,cur,e,q,_⟩:=wz h3;exact key q
theorem pY.some{w:World}{IV:Nat→Prop}{sz i:Nat}{ks:List Nat}{k:Nat}{d:ND F}{x:Value}{q:Nat×Nat×Nat}(h:pY w IV sz i ks k d x (some q)):LB w IV d x (some q):=by
 by_cases hn:∃q∈ks,k=i*sz+q
 ·exact absurd (h.1 hn).1 (by simp)
 ·exact h.2 hn
theorem Rv.some{w:World}{IV:Nat→Prop}{sz j:Nat}{k:Nat}{d:ND F}{x:Value}{q:Nat×Nat×Nat}(h:Rv w IV sz j k d x (some q)):LB w IV d x (some q):=by
 by_cases hn:k<j*sz
 ·exact h.1 hn
 ·exact absurd (h.2 hn).1 (by simp)
theorem KL.place{g:G}{w:World}(hi:∀b,g.IV b→b<w.heap.size){id:Nat}{B:Jw F}(ho:B.YV=false)(h:KL g w id B){b:Nat}(hb:g.blk id b) :
  b<w.heap.size:=by
 have key:∀{b:Nat}{o:Obj},w.heap[b]? = some o→b<w.heap.size:=λh=>(PY.1 h).1
 cases B with
 | box cs=>obtain⟨b',c',arr,t,h1,h2,_⟩:=h;rw[G.Om h1 hb];exact key h2
 | row t l=>
  rcases h with⟨h1,h2⟩ | ⟨b',cap,cur,e,h1,h2,_⟩
  ·exact(G.Rx h1 hb).elim
  ·rw[G.Om h1 hb];exact key h2
 | KM t l=>
  obtain⟨pl,h1,h2⟩:=h;obtain⟨b0,c,h3,h4⟩:=hb;rw[h1]at h3;cases h3;rcases Li.1 h4 with rfl | h4
  ·obtain⟨_,_,_,_,_,cur,e,q6,_⟩:=h2;exact key q6
  ·obtain⟨k,c',hk⟩:=sy h4;obtain⟨t',l',_,_,_,_,cur,e,q,_⟩:=M8.sub (n:=c.2) h2 hk;exact key q
 | Oz t l=>
  rcases h with⟨h1,h2⟩ | ⟨b',cap,ns,h1,hn,h2,_⟩
  ·exact(G.Rx h1 hb).elim
  ·obtain⟨b0,c,h3,h4⟩:=hb;rw[h1]at h3;cases h3;rcases Li.1 h4 with rfl | h4
   ·exact hi _ h2
   ·exact hi _ (hn _ h4)
 | Ww cs=>obtain⟨b',c',h1,h2,_⟩:=h;rw[G.Om h1 hb];exact hi _ h2
 | mp t l=>obtain⟨b',h1,es,h2,_⟩:=h;rw[G.Om h1 hb];exact key h2
 | it ob=>obtain⟨b',h1,h2⟩:=h;rw[G.Om h1 hb];exact key h2
 | ME k n=>cases ho
 | NY t l i ks=>obtain⟨pl,h1,h2⟩:=h;obtain⟨b0,c,h3,h4⟩:=hb;rw[h1]at h3;cases h3;exact Nf.blk (n:=c.2) h2 (λ_ _ _ _ hc=>⟨_,hc.some⟩) h4
 | K5 t l j=>obtain⟨pl,h1,h2⟩:=h;obtain⟨b0,c,h3,h4⟩:=hb;rw[h1]at h3;cases h3;exact Nf.blk (n:=c.2) h2 (λ_ _ _ _ hc=>⟨_,hc.some⟩) h4
structure Ow where
 o:Nat→Prop
 i:Nat→Prop
 nm:Nat→Option Pl
structure Je(ow:Ow)(g:G)(w:World)(m:Nat→Option (Jw F)):Prop where
 ok:∀id B,m id=some B→KL g w id B
 Ou:∀id id' B B' b,m id=some B→m id'=some B'→B.owned=true→B'.owned=true→g.blk id b→g.blk id' b→id=id'
 own:∀id B b,m id=some B→B.owned=true→g.blk id b→ow.o b∧¬ g.IV b
 IV:∀b,g.IV b→b<w.heap.size
 io:∀b,g.IV b→ow.i b∨ow.o b
 len:∀b,g.len b→¬ ow.o b∧b<w.heap.size
structure Stp(m:Nat→Option (Jw F))(g:G)(w:World)(g':G)(w':World):Prop where
 le:Le g w g' w'
 os:w'.os=w.os
 tape:w'.tape=w.tape
 output:w'.output=w.output
 size:w.heap.size≤w'.heap.size
 frame:∀b,b<w.heap.size→(∀id B,m id=some B→B.owned=true→¬ g.blk id b)→w'.heap[b]? = w.heap[b]?
 drawn:w.drawn≤w'.drawn
theorem Stp.refl(m:Nat→Option (Jw F))(g:G)(w:World):Stp m g w g w:=⟨.refl _ _,rfl,rfl,rfl,Ku _,λ_ _ _=>rfl,Ku _⟩
structure RG(own:Ow)(W0 w:World):Prop where
 os:w.os=W0.os
 tape:w.tape=W0.tape
 output:w.output=W0.output
 size:W0.heap.size≤w.heap.size
 fresh:∀b,W0.heap.size≤b→own.o b
 block:∀b,b<W0.heap.size→¬ own.o b→w.heap[b]? = W0.heap[b]?
 drawn:W0.drawn≤w.drawn
theorem RG.stp{own:Ow}{W0 w w':World}{g g':G}{m:Nat→Option (Jw F)}(h:RG own W0 w)(hm:Je own g w m)(hs:Stp m g w g' w'):RG own W0 w':=by refine⟨hs.os.trans h.os,hs.tape.trans h.tape,hs.output.trans h.output,MJ h.size hs.size,h.fresh,λb hb ho=>?_,MJ h.drawn hs.drawn⟩;rw[← h.block b hb ho];exact hs.frame b (OZ hb h.size) (λid B hB hw hi=>ho (hm.own id B b hB hw hi).1)
structure St(F:Fam) where
 e:Nat→Option (Dat F)
 m:Nat→Option (Jw F)
 u:Nat→Bool
structure Good(P:Program)(own:Ow)(W0:World)(n:Nat)(s:St F)(g:G)(a:Act)(w:World):Prop where
 Po:a.defers = []
 OH:a.tmps.size=n
 env:∀x d,s.e x=some d→Jr P g w d (a.tmps.getD x undef)
 mem:Je own g w s.m
 dom:∀id,s.u id=false→g.ids id=none
 OW:∀b,own.i b→g.IV b
 K7:RG own W0 w
 NU:∀id p,own.nm id=some p→g.ids id=some p
def Kl(P:Program)(g:G)(w:World)(ds:List (Dat F))(vs:List Value):Prop:=
 vs.length=ds.length∧∀(k:Nat)(d:Dat F)(x:Value),ds[k]? = some d→vs[k]? = some x→Jr P g w d x
end
set_option linter.unusedVariables false
set_option linter.unusedSimpArgs false
structure TI(F:Fam) where
 desc:TypeDesc
 size:Nat
 bytes:Nat
 zero:List (ND F)
 ty:Option Ty
 eq:Bool:=false
def dj:TypeDesc→Bool
 | .struct _ | .array _ _=>true
 | _=>false
def look{α : Type}:List (Nat×α)→Nat→Option α
 | [],_=>none
 | (y,a)::r,x=>if Nat.beq y x then some a else look r x
def Jp(x:Nat):List Nat→Bool
 | []=>false
 | y::l=>if Nat.beq y x then true else Jp x l
structure Oq(F:Fam) where
 val:Dat F
 mw:List (Nat×Option (Jw F)):=[]
 nu:Nat:=0
inductive Kd where
 | v (t:Ty) (ow:List Nat)
 | box (t:Ty) (ow:List Nat)
 | rp (t:Ty)
 | fn (ks:List Ty) (r:Ty)
 | row (t:Ty) (arr:Bool)
 | OU (t:Ty)
 | pk (k:Nat) (t:Ty)
 | ln (t:Ty)
 | nb (t:Ty) (ow:List Nat)
 | cl (f n:Nat)
section
variable(F:Fam)
@[reducible] def Kd.El:Kd→Type
 | .v t _=>ET F t
 | .box t _=>ET F t
 | .rp t=>ET F t
 | .fn ks r=>Jk F ks→Option (ET F r)
 | .row t _=>List (ET F t)
 | .OU t=>ET F t
 | .pk _ t=>ET F t
 | .ln t=>ET F t
 | .nb t _=>ET F t
 | .cl _ _=>Unit
@[reducible] def HL:List Kd→Type
 | []=>Unit
 | k::r=>k.El F×HL r
@[reducible] def TL:List Kd→Type
 | []=>Unit
 | [k]=>k.El F
 | k::l::r=>k.El F×TL (l::r)
end
def Kd.Us:Kd→Bool
 | .ln _=>true
 | _=>false
def Kd.YT:Kd→Bool
 | .v _ []=>true
 | .rp _=>true
 | .fn _ _=>true
 | .OU _=>true
 | .pk _ _=>true
 | .ln _=>true
 | _=>false
def zn(ks:List Kd):Bool:=ks.all (λk=>!k.Us)||ks.all Kd.YT
def Kd.PE:Kd→Bool
 | .cl _ _=>true
 | _=>false
def Kd.KO:Kd→Bool
 | .box _ _=>true
 | .row _ _=>true
 | _=>false
structure Spec(F:Fam) where
 ks:List Kd
 rs:List Kd
 D:HL F ks→Option (TL F (rs++ks.filter Kd.KO))
def Lp{α : Type}(p:α→Bool)(l:List α)(z:α):α:=(l.find? p).getD z
def Oc{α : Type}(p:α→Bool)(l:List α):Bool:=l.any p
def Ll{α : Type}(p:α→Bool)(l:List α)(y:α):List α:=match l with
 | []=>[y]
 | x::r=>cond (p x) (y::r) (x::Ll p r y)
def nz(x:Int):Option Unit:=if x≠0 then some ()else none
def nn(x:Int):Option Unit:=if 0≤x then some ()else none
def idx{α : Type}(l:List α)(i:Int):Option α:=if 0≤i then l[i.toNat]? else none
def Ka(i:Int)(n:Nat):Option Nat:=if 0≤i∧i.toNat<n then some i.toNat else none
def Mj(a b:Int)(n:Nat):Option (Nat×Nat):=if 0≤a∧a≤b∧b≤n then some (a.toNat,b.toNat - a.toNat)else none
def slc{α : Type}(l:List α)(a b:Int):Option (List α):=if 0≤a∧a≤b∧b≤l.length then some ((l.take b.toNat).drop a.toNat)else none
def cat(l m:List UInt8):Option (List UInt8):=if Nat.ble (l.length+m.length) 9223372036854775807 then some (l++m)else none
def app{α : Type}(b:Nat)(l m:List α):Option (List α):=if(l++m).length≤maxLen∧(l++m).length*b≤140737488355328 then some (l++m)else none
def PV{α : Type}(b:Nat)(n m:Int)(z:α):Option (List α):=if 0≤n∧n≤m∧m.toNat≤maxLen∧b*m.toNat≤281474976710656 then some (List.replicate n.toNat z)else none
def sub{α : Type}(l:List α)(a n:Nat):List α:=(l.drop a).take n
def LD{α : Type}(l:List α)(a n:Nat)(ys:List α):List α:=l.take a++ys.take n++l.drop (a+min n ys.length)
def Od(x y:Int):Int:=if y<x then y else x
def imax(x y:Int):Int:=if y>x then y else x
abbrev I8(x:Int):Int:=IntKind.i64.wrap x
abbrev NW(k:IntKind)(a b:Int):Int:=k.wrap (a*2 ^ min b.toNat k.bits)
abbrev Md(_k:IntKind)(a b:Int):Int:=a.fdiv (2 ^ min b.toNat _k.bits)
abbrev Pb(k:IntKind)(a b:Int):Int:=k.wrap ((BitVec.ofInt k.bits a &&& BitVec.ofInt k.bits b).toNat)
abbrev orK(k:IntKind)(a b:Int):Int:=k.wrap ((BitVec.ofInt k.bits a ||| BitVec.ofInt k.bits b).toNat)
abbrev akX(k:IntKind)(a b:Int):Int:=k.wrap ((BitVec.ofInt k.bits a ^^^ BitVec.ofInt k.bits b).toNat)
def OA(l m:List UInt8):Bool:=Op.bytesLess l m||l == m
section
variable{F:Fam}
def Uf:Value→Ko F
 | .int k n=>.im (.i k n)
 | .bool b=>.im (.b b)
 | .string s=>.im (.s s.data.toList)
 | .slice none 0 0=>.im .nl
 | .agg _ | .tuple _=>.any
 | x=>.im (.v x)
def VQ:Value→Dat F
 | .agg cs=>.agg (cs.toList.map Uf)
 | x=>.c (Uf x)
def Zk(e:Nat→Option (Dat F)):Operand→Dat F
 | .tmp t=>(e t).getD (.c .any)
 | .const v=>VQ v
 | .global g=>.c (.im (.v (.pointer (some ⟨g,0,none⟩))))
 | .func f=>.c (.im (.v (.func (.func f) #[] #[])))
def Dat.cells:Dat F→List (Ko F)
 | .c x=>[x]
 | .agg cs=>cs
 | _=>[]
def Ko.Nu:Ko F→Bool
 | .any=>false
 | _=>true
def aap(t:Ty)(x:ET F t):Dat F:=
 match t,x with
 | .st n,x=>.agg ((Jc F (.st n) x).map .im)
 | .int k,n=>.c (.im (.i k n))
 | .bool,b=>.c (.im (.b b))
 | .str,l=>.c (.im (.s l))
 | .slice t,l=>.c (.im (.sl t l))
def Kc(m:Nat→Option (Jw F)):List (Nat×Option (Jw F))→Nat→Option (Jw F)
 | []=>m
 | (id,B)::r=>Kc (λx=>if Nat.beq id x then B else m x) r
def OM(mm:Nat→Option (Jw F)):Nat→Nat→Nat
 | 0,id=>id
 | n+1,id=>match mm id with
  | some (.ME k _)=>OM mm n k
  | _=>id
def Rm(mm:Nat→Option (Jw F))(id:Nat):Nat:=match mm id with
 | some (.ME k _)=>OM mm 8 k
 | _=>id
def SX(mm:Nat→Option (Jw F)):Ko F→Ko F
 | .KP id=>.KP (Rm mm id)
 | .Ma id sz i off=>.Ma (Rm mm id) sz i off
 | .Nr id sz off n=>.Nr (Rm mm id) sz off n
 | c=>c
def Xa(mm:Nat→Option (Jw F)):Dat F→Dat F
 | .c x=>.c (SX mm x)
 | d=>d
def Vn(mm:Nat→Option (Jw F))(id:Nat):Option (ND F×List Nat):=match mm id with
 | some (.row t l)=>some (.sl t l,[id])
 | some (.KM t l)=>some (.sl t l,[id])
 | some (.Oz t l)=>some (.sl t l,[])
 | _=>none
def NT(mm:Nat→Option (Jw F)):Ko F→Option (ND F×List Nat)
 | .im d=>some (d,[])
 | .KP id=>Vn mm (Rm mm id)
 | .Nr id sz off n=>match mm id with
  | some (.row t l)=>if sz=Jf F t then some (.sl t (sub l off n),[id])else none
  | some (.Oz t l)=>if sz=Jf F t then some (.sl t (sub l off n),[])else none
  | _=>none
 | _=>none
def bM(mm:Nat→Option (Jw F)):List (Ko F)→Option (List (ND F)×List Nat)
 | []=>some ([],[])
 | c::r=>match NT mm c with
  | none=>none
  | some (d,i)=>match bM mm r with
   | none=>none
   | some (ds,j)=>some (d::ds,i++j)
def PL(mm:Nat→Option (Jw F))(ids:List Nat)(id:Nat):Option (Jw F):=
 match mm id with
 | some (.row t l)=>some (.Oz t l)
 | some (.KM t l)=>some (.Oz t l)
 | some (.box cs)=>match bM mm cs with
  | some (ds,fz)=>cond (fz.all (λx=>Jp x ids)) (some (.Ww ds)) none
  | none=>none
 | b=>b
def SK(mm:Nat→Option (Jw F))(ids:List Nat):List (Nat×Option (Jw F)):=ids.map λid=>(id,PL mm ids id)
def sn(mm:Nat→Option (Jw F)):Ko F→Option (ND F×Option Nat)
 | .KP id=>match mm id with
  | some (.row t l)=>cond t.KS none (some (.sl t l,some id))
  | _=>none
 | .Oa id=>match mm id with
  | some (.mp t l)=>cond t.KS (some (.sl t l,some id)) none
  | _=>none
 | .im .nl=>some (.nl,none)
 | _=>none
def wh(mm:Nat→Option (Jw F))(id:Nat):Option (ND F×Option Nat):=match mm id with
 | some (.KM t l)=>some (.sl t l,some id)
 | _=>none
def qj(mm:Nat→Option (Jw F)):Ko F→Option (ND F×Option Nat)
 | .KP id=>wh mm (Rm mm id)
 | .im .nl=>some (.nl,none)
 | _=>none
def dG(mm:Nat→Option (Jw F))(ow:List Nat):Nat→List (Ko F)→Option (List (ND F)×List (Option Nat)×List Nat)
 | _,[]=>some ([],[],[])
 | k,c::r=>
  if Jp k ow then
   match sn mm c with
   | none=>none
   | some (d,o)=>match dG mm ow (k+1) r with
    | none=>none
    | some (ds,os,fz)=>some (d::ds,o::os,fz)
  else if Jp (k+1000) ow then
   match qj mm c with
   | none=>none
   | some (d,o)=>match dG mm ow (k+1) r with
    | none=>none
    | some (ds,os,fz)=>some (d::ds,o::os,fz)
  else
   match NT mm c with
   | none=>none
   | some (d,i)=>match dG mm ow (k+1) r with
    | none=>none
    | some (ds,os,fz)=>some (d::ds,os,i++fz)
def yV(t:Ty):Dat F→Option (List (Ko F))
 | .c x=>if t.K4 then none else some [x]
 | .agg cs=>if t.K4 then some cs else none
 | _=>none
structure Pk(α : Type) where
 x:α
 os:List (Option Nat)
 fz:List Nat
 bx:List Nat
abbrev Ctx(F:Fam):=List (Nat×Spec F)
def R8(mm:Nat→Option (Jw F))(t:Ty)(ow:List Nat)(d:Dat F):Option (Pk (ET F t)):=
 match yV t d with
 | none=>none
 | some cs=>match dG mm ow 0 cs with
  | none=>none
  | some (ds,os,fz)=>match Mg F t ds with
   | none=>none
   | some x=>some ⟨x,os,fz,[]⟩
def jC(mm:Nat→Option (Jw F))(t:Ty)(ow:List Nat):Dat F→Option (Pk (ET F t))
 | .c (.ptr id 0)=>match mm id with
  | some (.box cs)=>match dG mm ow 0 cs with
   | none=>none
   | some (ds,os,fz)=>match Mg F t ds with
    | none=>none
    | some x=>some ⟨x,some id::os,fz,[id]⟩
  | _=>none
 | _=>none
def vi(t:Ty)(arr:Bool):Dat F→Option Nat
 | .c (.ptr id 0)=>cond t.KS none (if arr then some id else none)
 | .c (.KP id)=>cond t.KS none (if arr then none else some id)
 | .c (.Oa id)=>cond t.KS (some id) none
 | _=>none
def Mt(t:Ty)(arr:Bool)(id:Nat):Dat F:=cond t.KS (.c (.Oa id)) (if arr then .c (.ptr id 0)else .c (.KP id))
def Oy(t:Ty)(l:List (ET F t)):Jw F:=cond t.KS (.mp t l) (.row t l)
def aas(F:Fam)(t:Ty)(id:Nat):Ko F:=cond t.KS (.Oa id) (.KP id)
def pO(mm:Nat→Option (Jw F))(t:Ty)(id:Nat):Option (Pk (List (ET F t))):=
 match mm id with
 | some (.row t' l)=>if h:t'=t then cond t.KS none (some ⟨h▸l,[some id],[],[id]⟩)else none
 | some (.mp t' l)=>if h:t'=t then cond t.KS (some ⟨h▸l,[some id],[],[id]⟩) none else none
 | _=>none
def vZ(mm:Nat→Option (Jw F))(t:Ty)(arr:Bool)(d:Dat F):Option (Pk (List (ET F t))):=
 match vi t arr d with
 | some id=>pO mm t id
 | none=>none
def Cl(mm:Nat→Option (Jw F))(t:Ty)(ow:List Nat)(d:Dat F):Option (Pk (ET F t)):=
 match jC mm t ow d with
 | some p=>some ⟨p.x,p.os,p.fz,[]⟩
 | none=>none
def u9(mm:Nat→Option (Jw F))(t:Ty):Dat F→Option (Pk (ET F t))
 | .c (.pt cs 0)=>match Mg F t cs with
  | some x=>some ⟨x,[],[],[]⟩
  | none=>none
 | .c (.ptr id 0)=>match mm id with
  | some (.box cs)=>match bM mm cs with
   | none=>none
   | some (ds,fz)=>match Mg F t ds with
    | none=>none
    | some x=>some ⟨x,[],id::fz,[]⟩
  | some (.Ww cs)=>match Mg F t cs with
   | some x=>some ⟨x,[],[],[]⟩
   | none=>none
  | _=>none
 | _=>none
def sF(mm:Nat→Option (Jw F))(t:Ty):Dat F→Option (Pk (ET F t))
 | .c (.ptr id 0)=>match mm id with
  | some (.box [.ptr id2 0])=>match mm id2 with
   | some (.box cs)=>match bM mm cs with
    | none=>none
    | some (ds,fz)=>match Mg F t ds with
     | none=>none
     | some x=>some ⟨x,[],id::id2::fz,[]⟩
   | _=>none
  | some (.box [.pt cs 0])=>match Mg F t cs with
   | none=>none
   | some x=>some ⟨x,[],[id],[]⟩
  | _=>none
 | _=>none
def vF(mm:Nat→Option (Jw F))(k:Nat)(t:Ty):Dat F→Option (Pk (ET F t))
 | .c (.ptr id 0)=>match mm id with
  | some (.box [.ptr id2 0])=>match mm id2 with
   | some (.box cs)=>match cs[k]? with
    | some (.im d)=>match Mg F t [d]with
     | some x=>some ⟨x,[],[id,id2],[]⟩
     | none=>none
    | _=>none
   | _=>none
  | _=>none
 | _=>none
def Vo:Ko F→Ko F
 | .ln d=>.im d
 | c=>c
def RU:Dat F→Dat F
 | .c x=>.c (Vo x)
 | .agg cs=>.agg (cs.map Vo)
 | d=>d
def Cb(mm:Nat→Option (Jw F))(t:Ty)(d:Dat F):Option (Pk (ET F t)):=
 match R8 mm t [] (RU d)with
 | none=>none
 | some p=>some ⟨p.x,[],[],[]⟩
def P7(mm:Nat→Option (Jw F)):(k:Kd)→Dat F→Option (Pk (k.El F))
 | .v t [],d=>R8 mm t [] d
 | .rp t,d=>u9 mm t d
 | .OU t,d=>sF mm t d
 | .pk k t,d=>vF mm k t d
 | _,_=>none
def Mf(mm:Nat→Option (Jw F)):(kk:List Kd)→(fs:List (Dat F))→(ks:List Ty)→(cs:List (Dat F))→Option (Pk (Jk F ks→HL F kk))
 | k::kk,d::fs,ks,cs=>match P7 mm k d with
  | none=>none
  | some p=>match Mf mm kk fs ks cs with
   | none=>none
   | some q=>some ⟨λa=>(p.x,q.x a),[],p.fz++q.fz,[]⟩
 | .v t' []::kk,[],t::ks,cs=>if h:t=t' then match Mf mm kk [] ks cs with
   | none=>none
   | some q=>some ⟨λa=>(h▸a.1,q.x a.2),[],q.fz,[]⟩else none
 | k::kk,[],[],d::cs=>match P7 mm k d with
  | none=>none
  | some p=>match Mf mm kk [] [] cs with
   | none=>none
   | some q=>some ⟨λa=>(p.x,q.x a),[],p.fz++q.fz,[]⟩
 | [],[],[],[]=>some ⟨λ_=>(),[],[],[]⟩
 | _,_,_,_=>none
def wu(ks:List Kd)(t r:Ty):(bl:List Kd)→(HL F ks→Option (TL F ([.v t []]++bl)))→Option (HL F ks→Option (ET F r))
 | [],D=>if e:t=r then some (λa=>(e▸(D a:Option (ET F t)):Option (ET F r)))else none
 | _::_,_=>none
def cN(sp:Spec F)(r:Ty):Option (HL F sp.ks→Option (ET F r)):=
 match sp with
 | ⟨ks,[.v t []],D⟩=>wu ks t r (ks.filter Kd.KO) D
 | _=>none
def cC(F:Fam):Ty→Bool
 | .slice _=>false
 | .st n=>(F.fs n).all λt=>match t with | .slice _=>false | .st _=>false | _=>true
 | _=>true
def yR(Γ : Ctx F)(mm:Nat→Option (Jw F))(ks:List Ty)(r:Ty):Dat F→Option (Pk (Jk F ks→Option (ET F r)))
 | .fv ks' r' φ=>if h:ks'=ks then if h':r'=r then some ⟨h▸h'▸φ,[],[],[]⟩else none else none
 | .NG (.func f) [] cs=>if cC F r then match look Γ f with
  | none=>none
  | some sp=>match cN sp r,Mf mm sp.ks [] ks cs with
   | some D,some q=>some ⟨λa=>D (q.x a),[],q.fz,[]⟩
   | _,_=>some ⟨λ_=>none,[],[],[]⟩
  else none
 | .NG (.func f) (d::fs) cs=>if cC F r&&Nat.beq ks.length 1 then match look Γ f with
  | none=>none
  | some sp=>match cN sp r,Mf mm sp.ks (d::fs) ks cs with
   | some D,some q=>some ⟨λa=>D (q.x a),[],q.fz,[]⟩
   | _,_=>none
  else none
 | .c (.im (.v (.func (.func f) ⟨[]⟩ ⟨[]⟩)))=>if cC F r then match look Γ f with
  | none=>none
  | some sp=>match cN sp r,Mf mm sp.ks [] ks []with
   | some D,some q=>some ⟨λa=>D (q.x a),[],q.fz,[]⟩
   | _,_=>none
  else none
 | _=>none
def Nl(Γ : Ctx F)(mm:Nat→Option (Jw F)):(k:Kd)→Dat F→Option (Pk (k.El F))
 | .v t ow,d=>R8 mm t ow d
 | .box t ow,d=>jC mm t ow d
 | .rp t,d=>u9 mm t d
 | .fn ks r,d=>yR Γ mm ks r d
 | .row t arr,d=>vZ mm t arr d
 | .OU t,d=>sF mm t d
 | .pk k t,d=>vF mm k t d
 | .ln t,d=>Cb mm t d
 | .nb t ow,d=>Cl mm t ow d
 | .cl _ _,_=>none
def yX(f n:Nat):List (Dat F)→Option (List (Dat F))
 | .NG (.func f') [] cs::ds=>if Nat.beq f' f&&Nat.beq cs.length n then some (cs++ds)else none
 | _=>none
def gJ(Γ : Ctx F)(mm:Nat→Option (Jw F)):(ks:List Kd)→List (Dat F)→Option (Pk (HL F ks))
 | [],[]=>some ⟨(),[],[],[]⟩
 | .cl f n::ks,ds=>match yX f n ds with
  | none=>none
  | some ds'=>match gJ Γ mm ks ds' with
   | none=>none
   | some q=>some ⟨((),q.x),q.os,q.fz,q.bx⟩
 | k::ks,d::ds=>match Nl Γ mm k d with
  | none=>none
  | some p=>match gJ Γ mm ks ds with
   | none=>none
   | some q=>some ⟨(p.x,q.x),p.os++q.os,p.fz++q.fz,p.bx++q.bx⟩
 | _,_=>none
def LX(ow:List Nat):Nat→Nat→List (ND F)→List (Ko F)×List (Nat×Jw F)×Nat
 | _,c,[]=>([],[],c)
 | k,c,d::r=>
  if Jp k ow then
   match d with
   | .sl t l=>match LX ow (k+1) (c+1) r with
    | (cs,bs,c')=>(aas F t c::cs,(c,Oy t l)::bs,c')
   | d=>match LX ow (k+1) c r with
    | (cs,bs,c')=>(.im d::cs,bs,c')
  else if Jp (k+1000) ow then
   match d with
   | .sl t l=>match LX ow (k+1) (c+1) r with
    | (cs,bs,c')=>(.KP c::cs,(c,.KM t l)::bs,c')
   | d=>match LX ow (k+1) c r with
    | (cs,bs,c')=>(.im d::cs,bs,c')
  else match LX ow (k+1) c r with
   | (cs,bs,c')=>(.im d::cs,bs,c')
def Sg(t:Ty)(cs:List (Ko F)):Dat F:=if t.K4 then .agg cs else match cs with | [x]=>.c x | _=>.c .any
def Mk:(k:Kd)→k.El F→Nat→Dat F×List (Nat×Jw F)×Nat
 | .v t ow,x,c=>match LX ow 0 c (Jc F t x)with
  | (cs,bs,c')=>(Sg t cs,bs,c')
 | .box t ow,x,c=>match LX ow 0 (c+1) (Jc F t x)with
  | (cs,bs,c')=>(.c (.ptr c 0),(c,.box cs)::bs,c')
 | .rp t,x,c=>(.c (.pt (Jc F t x) 0),[],c)
 | .fn ks r,φ,c=>(.fv ks r φ,[],c)
 | .row t arr,x,c=>(Mt t arr c,[(c,Oy t x)],c+1)
 | .OU t,x,c=>(.c (.PS (Jc F t x)),[],c)
 | .pk k t,x,c=>(.c .any,[],c)
 | .ln t,x,c=>(.c .any,[],c)
 | .nb t ow,x,c=>match LX ow 0 (c+1) (Jc F t x)with
  | (cs,bs,c')=>(.c (.ptr c 0),(c,.box cs)::bs,c')
 | .cl _ _,x,c=>(.c .any,[],c)
def VW(t:Ty)(x:ET F t):Dat F:=Sg t ((Jc F t x).map λd=>if d.flat then .im d else .ln d)
def O_:(ks:List Kd)→HL F ks→List (Dat F)→List (Dat F)
 | [],_,ds=>ds
 | _::_,_,[]=>[]
 | .cl _ _::_,_,ds=>ds
 | .ln t::ks,a,_::ds=>VW t a.1::O_ ks a.2 ds
 | _::ks,a,d::ds=>d::O_ ks a.2 ds
def K6:(ks:List Kd)→HL F ks→Nat→List (Dat F)×List (Nat×Jw F)×Nat
 | [],_,c=>([],[],c)
 | .cl f n::ks,a,c=>match K6 ks a.2 c with
  | (ds,bs,c')=>(.NG (.func f) [] (ds.take n)::ds.drop n,bs,c')
 | k::ks,a,c=>match Mk k a.1 c with
  | (d,bs,c')=>match K6 ks a.2 c' with
   | (ds,bs',c'')=>(d::ds,bs++bs',c'')
def oo(ow:List Nat):List Nat:=if Jp 7000 ow then[]else ow
def ap:(ks:List Kd)→TL F ks→List Nat→Nat→List (Dat F)×List (Nat×Jw F)×Nat
 | [],_,_,c=>([],[],c)
 | [.box t ow],x,b::_,c=>match LX (oo ow) 0 c (Jc F t x)with
  | (cs,bs,c')=>([],(b,.box cs)::bs,c')
 | .box t ow::l::ks,a,b::bx,c=>match LX (oo ow) 0 c (Jc F t a.1)with
  | (cs,bs,c')=>match ap (l::ks) a.2 bx c' with
   | (ds,bs',c'')=>(ds,(b,.box cs)::(bs++bs'),c'')
 | [.row t _],x,b::_,c=>([],[(b,Oy t x)],c)
 | .row t _::l::ks,a,b::bx,c=>match ap (l::ks) a.2 bx c with
   | (ds,bs',c'')=>(ds,(b,Oy t a.1)::bs',c'')
 | [k],a,_,c=>match Mk k a c with
  | (d,bs,c')=>([d],bs,c')
 | k::l::ks,a,bx,c=>match Mk k a.1 c with
  | (d,bs,c')=>match ap (l::ks) a.2 bx c' with
   | (ds,bs',c'')=>(d::ds,bs++bs',c'')
def aN:(ks:List Kd)→HL F ks→Nat→List Nat
 | [],_,_=>[]
 | .box t ow::ks,a,c=>c::aN ks a.2 (Mk (.box t ow) a.1 c).2.2
 | .row t arr::ks,a,c=>c::aN ks a.2 (Mk (.row t arr) a.1 c).2.2
 | k::ks,a,c=>aN ks a.2 (Mk k a.1 c).2.2
def sR(F:Fam)(ow:List Nat):Nat→List Ty→Bool
 | _,[]=>true
 | k,t::ts=>(match t with | .slice e=>Jp k ow&&cC F e&&!e.KS | .st _=>false | _=>true)&&sR F ow (k+1) ts
def Kd.KD(F:Fam):Kd→Bool
 | .v t []=>cC F t
 | .v (.st n) ow=>Jp 9999 ow&&sR F ow 0 (F.fs n)
 | .v (.slice t) ow=>Jp 0 ow&&cC F t&&!t.KS
 | _=>false
def cD:List Nat→Bool
 | []=>true
 | x::l=>!(Jp x l)&&cD l
def Kh:List (Option Nat)→List Nat
 | []=>[]
 | some x::l=>x::Kh l
 | none::l=>Kh l
def Ny:List Nat→List Nat→Bool
 | [],_=>true
 | x::l,m=>!(Jp x m)&&Ny l m
def SS:List (Dat F)→Dat F
 | [d]=>d
 | ds=>.MC ds
end
set_option linter.unusedVariables false
set_option linter.unusedSimpArgs false
section
variable{F:Fam}{R:Type}
def db(ti:TI F)(cs:List (Ko F))(off:Nat):Option (Dat F):=
 if dj ti.desc then(if Nat.ble (off+ti.size) cs.length then some (.agg ((cs.drop off).take ti.size))else none)else match cs[off]? with | some x=>some (.c x) | none=>none
def pK(o:Option (Dat F))(K:Oq F→Option R):Option R:=match o with | some d=>K { val:=d } | none=>none
section
variable(T:TypeId→Option (TI F))(Γ : Ctx F)(vals:List (Dat F))(mm:Nat→Option (Jw F))(c:Nat)(K:Oq F→Option R)
abbrev kI(k:IntKind)(n:Int):Option R:=K { val:=.c (.im (.i k n)) }
abbrev kB(b:Bool):Option R:=K { val:=.c (.im (.b b)) }
def Si:Operand→Bool
 | .const (.int _ n)=>n != 0
 | _=>false
def TV:Operand→Bool
 | .const (.int _ n)=>decide (0≤n)
 | _=>false
def vV(op:BinOp)(k:IntKind)(n m:Int)(y:Operand):Option R:=
 match op with
 | .add=>kI K k (k.wrap (n+m))
 | .sub=>kI K k (k.wrap (n - m))
 | .mul=>kI K k (k.wrap (n*m))
 | .quo=>if Si y then kI K k (k.wrap (n.tdiv m))else(nz m).bind λ_=>kI K k (k.wrap (n.tdiv m))
 | .rem=>if Si y then kI K k (n.tmod m)else(nz m).bind λ_=>kI K k (n.tmod m)
 | .and=>kI K k (Pb k n m)
 | .or=>kI K k (orK k n m)
 | .xor=>kI K k (akX k n m)
 | .eql=>kB K (n == m)
 | .neq=>kB K (n != m)
 | .lss=>kB K (decide (n<m))
 | .leq=>kB K (decide (n≤m))
 | .gtr=>kB K (decide (n>m))
 | .geq=>kB K (decide (n≥m))
 | _=>none
def wj(op:BinOp)(l m:List UInt8):Option R:=
 match op with
 | .add=>(cat l m).bind λr=>K { val:=.c (.im (.s r)) }
 | .eql=>kB K (l == m)
 | .neq=>kB K (!(l == m))
 | .lss=>kB K (Op.bytesLess l m)
 | .leq=>kB K (OA l m)
 | .gtr=>kB K (!(OA l m))
 | .geq=>kB K (!(Op.bytesLess l m))
 | _=>none
def Pf(d:Option TypeDesc)(a b:Ko F):Option Bool:=
 match d,a,b with
 | some (.int _),.im (.i k n),.im (.i k' m)=>if k=k' then some (n == m)else none
 | some .bool,.im (.b x),.im (.b y)=>some (x == y)
 | some .string,.im (.s l),.im (.s m)=>some (l == m)
 | _,_,_=>none
def ez(t:TypeId):Option TypeDesc:=match T t with | some ti=>some ti.desc | none=>none
def iX:List Field→Nat→List (Ko F)→List (Ko F)→Option Bool
 | [],_,[],[]=>some true
 | [f],off,[a],[b] => if f.name != "_" && f.offset == off then Pf (ez T f.type) a b else none
 | f :: f' :: fs,off,a :: l,b :: r => if f.name != "_" && f.offset == off then match Pf (ez T f.type) a b with
  | none=>none
  | some x=>match iX (f'::fs) (off+1) l r with
   | none=>none
   | some y=>some (x&&y)
  else none
 | _,_,_,_=>none
def Sn(f:Field)(cs ds:List (Ko F)):Option (Bool×Nat):=
 match T f.type with
 | some ⟨.struct gs,n,_,_,_,true⟩=>if Nat.ble n cs.length&&Nat.ble n ds.length then match iX T gs.toList 0 (cs.take n) (ds.take n)with
  | some x=>some (x,n)
  | none=>none
  else none
 | some ti=>match cs,ds with
  | a::_,b::_=>match Pf (some ti.desc) a b with
   | some x=>some (x,1)
   | none=>none
  | _,_=>none
 | none=>none
def kV:List Field→Nat→List (Ko F)→List (Ko F)→Option Bool
 | [],_,[],[]=>some true
 | [f],off,cs,ds => if f.name != "_" && f.offset == off then match Sn T f cs ds with
  | some (x,n)=>if cs.length=n∧ds.length=n then some x else none
  | none=>none
  else none
 | f :: f' :: fs,off,cs,ds => if f.name != "_" && f.offset == off then match Sn T f cs ds with
  | some (x,n)=>match kV (f'::fs) (off+n) (cs.drop n) (ds.drop n)with
   | some y=>some (x&&y)
   | none=>none
  | none=>none
  else none
 | _,_,_,_=>none
def Ue(fs:List Field)(cs ds:List (Ko F)):Option Bool:=
 match iX T fs 0 cs ds with
 | some b=>some b
 | none=>kV T fs 0 cs ds
def ZH(op:BinOp)(xT:TypeId)(y:Operand):Option R:=
 match vals with
 | [.c (.im (.i k n)),.c (.im (.i k' m))]=>
  match op with
  | .shl=>if TV y then kI K k (NW k n m)else(nn m).bind λ_=>kI K k (NW k n m)
  | .shr=>if TV y then kI K k (Md k n m)else(nn m).bind λ_=>kI K k (Md k n m)
  | _=>if k=k' then vV K op k n m y else none
 | [.c (.im (.s l)),.c (.im (.s m))]=>wj K op l m
 | [.c (.im (.b x)),.c (.im (.b y))]=>
  match T xT,op with
  | some ⟨.bool,_,_,_,_,_⟩,.eql=>kB K (x == y)
  | some ⟨.bool,_,_,_,_,_⟩,.neq=>kB K (!(x == y))
  | _,_=>none
 | [.agg cs,.agg ds]=>
  match T xT,op with
  | some ⟨.struct fs,_,_,_,_,true⟩,.eql=>match Ue T fs.toList cs ds with | some b=>kB K b | none=>none
  | some ⟨.struct fs,_,_,_,_,true⟩,.neq=>match Ue T fs.toList cs ds with | some b=>kB K (!b) | none=>none
  | _,_=>none
 | [.c (.im (.sl _ l)),.c (.im .nl)]=>
  match y,T xT,op with
  | .const (.slice none 0 0),some ⟨.slice _,_,_,_,_,_⟩,.eql=>cond l.isEmpty none (kB K false)
  | .const (.slice none 0 0),some ⟨.slice _,_,_,_,_,_⟩,.neq=>cond l.isEmpty none (kB K true)
  | _,_,_=>none
 | _=>none
def tUn(op:UnOp):Option R:=
 match op,vals with
 | .neg,[.c (.im (.i k n))]=>kI K k (k.wrap (0 - n))
 | .not,[.c (.im (.b x))]=>kB K (!x)
 | _,_=>none
def toB(n:Int):UInt8:=UInt8.ofNat n.toNat
def Vw(src dst:TypeId):Option R:=
 match T src,T dst,vals with
 | some _,some ⟨.int k,_,_,_,_,_⟩,[.c (.im (.i _ n))]=>kI K k (k.wrap n)
 | some _,some ⟨.string,_,_,_,_,_⟩,[.c (.im (.s l))]=>K { val:=.c (.im (.s l)) }
 | some ⟨.slice e,_,_,_,_,_⟩,some ⟨.string,_,_,_,_,_⟩,[.c (.KP id)]=>match T e with
  | some ⟨.int .u8,_,_,_,_,_⟩=>match mm id with
   | some (.row (.int .u8) l)=>K { val:=.c (.im (.s (l.map toB))) }
   | _=>none
  | _=>none
 | some ⟨.slice e,_,_,_,_,_⟩,some ⟨.string,_,_,_,_,_⟩,[.c (.im (.sl (.int .u8) l))]=>match T e with
  | some ⟨.int .u8,_,_,_,_,_⟩=>K { val:=.c (.im (.s (l.map toB))) }
  | _=>none
 | _,_,_=>none
def yu(s:TypeId)(f:Nat):Option R:=
 match T s with
 | some ⟨.struct fs,_,_,_,_,_⟩=>match fs[f]? with
  | none=>none
  | some UU=>match T UU.type with
   | none=>none
   | some ti=>if ti.size=0 then none else
    match vals with
    | [.c (.ptr id off)]=>K { val:=.c (.ptr id (off+UU.offset)) }
    | [.c (.Ma id sz i off)]=>K { val:=.c (.Ma id sz i (off+UU.offset)) }
    | [.c (.pt cs off)]=>K { val:=.c (.pt cs (off+UU.offset)) }
    | [.c (.Pn id sz i off sz' j off')]=>K { val:=.c (.Pn id sz i off sz' j (off'+UU.offset)) }
    | _=>none
 | _=>none
def Vs(s:TypeId)(f:Nat):Option R:=
 match T s,vals with
 | some ⟨.struct fs,size,_,_,_,_⟩,[.agg cs]=>match fs[f]? with
  | none=>none
  | some UU=>match T UU.type with
   | none=>none
   | some ti=>if cs.length=size then pK (db ti cs UU.offset) K else none
 | _,_=>none
def Pe(n:Nat):Operand→Option Nat
 | .const (.int _ (.ofNat k))=>if Nat.blt k n then some k else none
 | _=>none
def qH(t:TypeId)(y:Operand):Option R:=
 match T t with
 | some ⟨.slice e,_,_,_,_,_⟩=>match T e with
  | none=>none
  | some te=>match vals with
   | [.c (.im (.sl t' l)),.c (.im (.i _ n))]=>if Jf F t'=te.size then(idx l n).bind λx=>K { val:=.c (.pt (Jc F t' x) 0) }else none
   | [.c (.KP id),.c (.im (.i _ n))]=>match mm id with
    | some (.row t' l)=>if Jf F t'=te.size then(Ka n l.length).bind λi=>K { val:=.c (.Ma id te.size i 0) }else none
    | some (.KM t' l)=>if Jf F t'=te.size then(Ka n l.length).bind λi=>K { val:=.c (.Ma id te.size i 0) }else none
    | some (.NY t' l _ _)=>if Jf F t'=te.size then(Ka n l.length).bind λi=>K { val:=.c (.Ma id te.size i 0) }else none
    | some (.K5 t' l _)=>if Jf F t'=te.size then(Ka n l.length).bind λi=>K { val:=.c (.Ma id te.size i 0) }else none
    | some (.Oz t' l)=>if Jf F t'=te.size then(idx l n).bind λx=>K { val:=.c (.pt (Jc F t' x) 0) }else none
    | _=>none
   | [.c (.OV id sz i off),.c (.im (.i _ n))]=>match mm id with
    | some (.KM t' l)=>if sz=Jf F t' then(l[i]?).bind λx=>match(Jc F t' x)[off]? with
     | some (.sl t2 l2)=>if Jf F t2=te.size then(Ka n l2.length).bind λj=>K { val:=.c (.Pn id sz i off te.size j 0) }else none
     | _=>none
     else none
    | _=>none
   | [.c (.Nr id sz off len),.c (.im (.i _ n))]=>if sz=te.size then(Ka n len).bind λi=>K { val:=.c (.Ma id sz (off+i) 0) }else none
   | [.c (.OX id len),.c (.im (.i _ n))]=>if te.size=1 then(Ka n len).bind λi=>K { val:=.c (.ptr id i) }else none
   | _=>none
 | some ⟨.array len e,_,_,_,_,_⟩=>match T e with
  | none=>none
  | some te=>match vals with
   | [.c (.ptr id off),.c (.im (.i _ n))]=>match mm id,off with
    | some (.row t' _),0=>if Jf F t'=te.size then
      match Pe len y with
      | some i=>K { val:=.c (.Ma id te.size i 0) }
      | none=>(Ka n len).bind λi=>K { val:=.c (.Ma id te.size i 0) }
     else none
    | some (.box _),off=>match Pe len y with
     | some i=>K { val:=.c (.ptr id (off+i*te.size)) }
     | none=>none
    | _,_=>none
   | [.c (.Ma id sz j off),.c (.im (.i _ _))]=>match Pe len y with
    | some i=>K { val:=.c (.Ma id sz j (off+i*te.size)) }
    | none=>none
   | [.c (.pt cs off),.c (.im (.i _ _))]=>match Pe len y with
    | some i=>K { val:=.c (.pt cs (off+i*te.size)) }
    | none=>none
   | _=>none
 | _=>none
def y9(t:TypeId):Option R:=
 match T t,vals with
 | some ⟨.string,_,_,_,_,_⟩,[.c (.im (.s l)),.c (.im (.i _ n))]=>(idx l n).bind λch=>kI K .u8 ch.toNat
 | _,_=>none
def Vt(t:TypeId):Option R:=
 match T t with
 | none=>none
 | some ti=>match vals with
  | [.c (.pt cs off)]=>pK (db ti (cs.map .im) off) K
  | [.c (.PS cs)]=>if dj ti.desc then none else K { val:=.c (.pt cs 0) }
  | [.c (.ptr id off)]=>match mm id with
   | some (.box cs)=>pK (db ti cs off) K
   | some (.Ww cs)=>pK (db ti (cs.map .im) off) K
   | _=>none
  | [.c (.Ma id sz i off)]=>match mm id with
   | some (.row t' l)=>if sz=Jf F t' then(l[i]?).bind λx=>pK (db ti ((Jc F t' x).map .im) off) K else none
   | some (.Oz t' l)=>if sz=Jf F t' then(l[i]?).bind λx=>pK (db ti ((Jc F t' x).map .im) off) K else none
   | some (.KM t' l)=>if sz=Jf F t'&&!(dj ti.desc)then(l[i]?).bind λx=>match(Jc F t' x)[off]? with
    | some (.sl _ _)=>K { val:=.c (.OV id sz i off) }
    | some d=>if d.flat then K { val:=.c (.im d) }else none
    | none=>none
    else none
   | _=>none
  | _=>none
def yy(t:TypeId):Option R:=
 match T t with
 | none=>none
 | some ti=>match vals with
  | [.c (.ptr id off),v]=>match mm id with
   | some (.box cs)=>
    let vs:=v.cells
    if vs.length=ti.size&&vs.all Ko.Nu&&Nat.ble (off+vs.length) cs.length&&Nat.blt 0 vs.length then
     K { val:=.c .any,mw:=[(id,some (.box (cs.take off++vs++cs.drop (off+vs.length))))] }else none
   | _=>none
  | [.c (.Ma id sz i off),v]=>match mm id,bM mm v.cells with
   | some (.row t' l),some (ds,fz)=>
    if ds.length=ti.size&&sz == Jf F t'&&Nat.ble (off+ds.length) (Jf F t')&&Nat.blt 0 ds.length&&!(Jp id fz)&&cD fz then
     (l[i]?).bind λx=>
      let cs:=Jc F t' x
      match Mg F t' (cs.take off++ds++cs.drop (off+ds.length))with
      | some y=>K { val:=.c .any,mw:=SK mm fz++[(id,some (.row t' (l.set i y)))] }
      | none=>none
    else none
   | _,_=>none
  | [.c (.Pn id sz i off sz' j off'),v]=>match mm id,bM mm v.cells with
   | some (.KM t' l),some (ds,fz)=>
    if ds.length=ti.size&&sz == Jf F t'&&Nat.blt 0 ds.length&&fz.isEmpty then
     (l[i]?).bind λx=>
      match(Jc F t' x)[off]? with
      | some (.sl t2 l2)=>if sz' == Jf F t2&&Nat.ble (off'+ds.length) (Jf F t2)then
        (l2[j]?).bind λy=>
         match Mg F t2 ((Jc F t2 y).take off'++ds++(Jc F t2 y).drop (off'+ds.length))with
         | some z=>match Mg F t' ((Jc F t' x).set off (.sl t2 (l2.set j z)))with
          | some x'=>K { val:=.c .any,mw:=[(id,some (.KM t' (l.set i x')))] }
          | none=>none
         | none=>none
       else none
      | _=>none
    else none
   | _,_=>none
  | _=>none
def rt(tt:Ty):Dat F→Option (List (ET F tt))
 | .c (.im .nl)=>some []
 | .c (.im (.sl t' l))=>if h:t'=tt then some (h▸l)else none
 | .c (.KP id)=>match mm id with
  | some (.row t' l)=>if h:t'=tt then some (h▸l)else none
  | some (.Oz t' l)=>if h:t'=tt then some (h▸l)else none
  | _=>none
 | .c (.Nr id sz off n)=>match mm id with
  | some (.row t' l)=>if h:t'=tt then if sz=Jf F t' then some (h▸sub l off n)else none else none
  | some (.Oz t' l)=>if h:t'=tt then if sz=Jf F t' then some (h▸sub l off n)else none else none
  | _=>none
 | _=>none
def Ag(tt:Ty):List (Dat F)→Option (List Nat×List (ET F tt)×List (ET F tt))
 | [.c (.im .nl),.c (.KP id2)]=>match mm id2 with
  | some (.KM t2 l2)=>if h:t2=tt then some ([id2],[],h▸l2)else none
  | _=>none
 | [.c (.KP id),.c (.KP id2)]=>match mm id,mm id2 with
  | some (.KM t1 l1),some (.KM t2 l2)=>if h:t1=tt then if h2:t2=tt then if Nat.beq id id2 then none else some ([id,id2],h▸l1,h2▸l2)else none else none
  | _,_=>none
 | _=>none
def wa(t0 t1:TypeId):Option R:=
 if t1 != t0 then none else
 match T t0 with
 | some ⟨.slice e,_,_,_,_,_⟩=>match T e with
  | none=>none
  | some te=>match te.ty with
   | none=>none
   | some tt=>if te.size=0 then none else
    match Ag mm tt vals with
    | some (rm,l,ys)=>(app te.bytes l ys).bind λl'=>K { val:=.c (.KP c),mw:=rm.map (λr=>(r,none))++[(c,some (.KM tt l'))],nu:=1 }
    | none=>
    match vals with
    | [x,y]=>match rt mm tt y with
     | none=>none
     | some ys=>match x with
      | .c (.im .nl)=>(app te.bytes [] ys).bind λl'=>K { val:=.c (.KP c),mw:=[(c,some (.row tt l'))],nu:=1 }
      | .c (.KP id)=>match mm id with
       | some (.row t' l)=>if h:t'=tt then(app te.bytes (h▸l) ys).bind λl'=>K { val:=.c (.KP c),mw:=[(id,none),(c,some (.row tt l'))],nu:=1 }else none
       | _=>none
      | _=>none
    | _=>none
 | _=>none
def Tz(t:TypeId):Option R:=
 match T t with
 | some ⟨.slice e,_,_,_,_,_⟩=>match T e with
  | none=>none
  | some te=>match te.ty with
   | none=>none
   | some tt=>if te.size=0 then none else
    match vals,Mg F tt te.zero with
    | [.c (.im (.i _ n)),.c (.im (.i _ m))],some z=>(PV te.bytes n m z).bind λl=>K { val:=.c (.KP c),mw:=[(c,some (.row tt l))],nu:=1 }
    | _,_=>none
 | _=>none
def Xe:Operand→Option Nat
 | .const (.int _ (.ofNat k))=>some k
 | _=>none
def qd(t:TypeId)(x y:Operand):Option Nat:=
 match T t,Xe x,Xe y with
 | some ⟨.slice e,_,_,_,_,_⟩,some n,some m=>match T e with
  | some ⟨.slice _,1,b,[.nl],_,_⟩=>if n=m∧0<n∧n≤8∧b≤1000 then some n else none
  | _=>none
 | _,_,_=>none
def Ct(n:Nat):Option R:=K { val:=.c (.OX c n),mw:=[(c,some (.box (List.replicate n (.im .nl))))],nu:=1 }
def lay(place:Nat→Option (Nat×Nat))(cells:List (Ko F)):List (Nat×Dat F)→Option (List (Ko F))
 | []=>some cells
 | (i,v)::rest=>
  match place i with
  | none=>none
  | some (off,size)=>
   if v.cells.length=size&&Nat.ble (off+size) cells.length&&(v.cells.all Ko.Nu)&&Nat.blt 0 size then lay place (cells.take off++v.cells++cells.drop (off+size)) rest else none
def nG:List Field→Option (List (Nat×Nat))
 | []=>some []
 | f::l=>match T f.type with
  | none=>none
  | some ti=>match nG l with
   | none=>none
   | some r=>some ((f.offset,ti.size)::r)
def y7(t:TypeId)(ix:List Nat):Option R:=
 match T t with
 | some ⟨.struct fs,_,_,zero,_,_⟩=>match nG T fs.toList with
  | none=>none
  | some pl=>match lay (λi=>pl[i]?) (zero.map .im) (ix.zip vals)with
   | none=>none
   | some cs=>K { val:=.agg cs }
 | some ⟨.array _ e,_,_,zero,_,_⟩=>match T e with
  | none=>none
  | some te=>match lay (λi=>some (i*te.size,te.size)) (zero.map .im) (ix.zip vals)with
   | none=>none
   | some cs=>K { val:=.agg cs }
 | _=>none
def iZ(tt:Ty)(sz:Nat):Nat→List (ND F)→Option (List (ET F tt))
 | 0,_=>some []
 | n+1,l=>match Mg F tt (l.take sz)with
  | none=>none
  | some x=>match iZ tt sz n (l.drop sz)with
   | none=>none
   | some r=>some (x::r)
def pD(t:TypeId)(len:Nat)(ix:List Nat):Option R:=
 match T t with
 | some ⟨.slice e,_,_,_,_,_⟩=>match T e with
  | none=>none
  | some te=>match te.ty with
   | none=>none
   | some tt=>if te.size=0||Nat.blt 1048576 (len*te.size)||Jf F tt != te.size then none else
    match lay (λi=>some (i*te.size,te.size)) ((List.replicate len te.zero).flatten.map .im) (ix.zip vals)with
    | none=>none
    | some cs=>match bM mm cs with
     | none=>none
     | some (ds,fz)=>match iZ tt te.size len ds with
      | none=>none
      | some l=>if ds.length=len*te.size&&cD fz then K { val:=.c (.KP c),mw:=SK mm fz++[(c,some (.row tt l))],nu:=1 }else none
 | _=>none
def jP:List (Ko F)→Option (List (ND F)×List (Option Nat))
 | []=>some ([],[])
 | .KP id::r=>match mm id with
  | some (.row t l)=>match jP r with
   | some (ds,os)=>some (.sl t l::ds,some id::os)
   | none=>none
  | _=>none
 | .im .nl::r=>match jP r with
  | some (ds,os)=>some (.nl::ds,none::os)
  | none=>none
 | .im d::r=>if d.flat then match jP r with
  | some (ds,os)=>some (d::ds,none::os)
  | none=>none
  else none
 | _::_=>none
def oJ(t:TypeId)(len:Nat)(ix:List Nat):Option R:=
 match T t with
 | some ⟨.slice e,_,_,_,_,_⟩=>match T e with
  | none=>none
  | some te=>match te.ty with
   | none=>none
   | some tt=>if te.size=0||Nat.blt 1048576 (len*te.size)||Jf F tt != te.size then none else
    match lay (λi=>some (i*te.size,te.size)) ((List.replicate len te.zero).flatten.map .im) (ix.zip vals)with
    | none=>none
    | some cs=>match jP mm cs with
     | none=>none
     | some (ds,os)=>match iZ tt te.size len ds with
      | none=>none
      | some l=>if ds.length=len*te.size&&cD (Kh os)then K { val:=.c (.KP c),mw:=(Kh os).map (λr=>(r,none))++[(c,some (.KM tt l))],nu:=1 }else none
 | _=>none
def Au:Ctx F→Bool
 | (a,_)::(b,_)::_=>Nat.beq a b
 | _=>false
def aiK(t:TypeId):Bool:=
 match T t with
 | some ⟨.slice e,_,_,_,_,_⟩=>match T e with
  | some te=>match te.ty with
   | some tt=>tt.K4&&!(cC F tt)
   | none=>false
  | none=>false
 | _=>false
def Ur(elem:TypeId)(cs:List (Ko F)):Option R:=
 match T elem with
 | none=>none
 | some ti=>if cs.length=ti.size&&cs.all Ko.Nu&&Nat.blt 0 cs.length then
  match ti.desc with
  | .array len e=>match T e with
   | none=>none
   | some te=>match te.ty with
    | none=>none
    | some tt=>match bM mm cs with
     | none=>none
     | some (ds,fz)=>match iZ tt te.size len ds with
      | none=>none
      | some l=>if te.size=0||ds.length != len*te.size||Jf F tt != te.size||!(Nat.ble len 1048576)||!(fz.isEmpty)then none else
       K { val:=.c (.ptr c 0),mw:=[(c,some (.row tt l))],nu:=1 }
  | _=>K { val:=.c (.ptr c 0),mw:=[(c,some (.box cs))],nu:=1 }
 else none
def bound(o:Option Nat)(dflt:Int):Option Int:=match o with
 | none=>some dflt
 | some k=>match(vals[k]? : Option (Dat F))with | some (.c (.im (.i _ n)))=>some n | _=>none
def yj(t:TypeId)(lo hi:Option Nat):Option R:=
 match T t,(vals[0]? : Option (Dat F))with
 | some ⟨.string,_,_,_,_,_⟩,some (.c (.im (.s l)))=>match bound vals lo 0,bound vals hi l.length with
  | some a,some b=>(slc l a b).bind λr=>K { val:=.c (.im (.s r)) }
  | _,_=>none
 | some ⟨.slice e,_,_,_,_,_⟩,some (.c x)=>match T e with
  | none=>none
  | some te=>match x with
   | .im (.sl t' l)=>if Jf F t'=te.size then match bound vals lo 0,bound vals hi l.length with
    | some a,some b=>(slc l a b).bind λr=>K { val:=.c (.im (.sl t' r)) }
    | _,_=>none
    else none
   | .KP id=>match mm id with
    | some (.row t' l)=>if Jf F t'=te.size then match bound vals lo 0,bound vals hi l.length with
     | some a,some b=>(Mj a b l.length).bind λp=>K { val:=.c (.Nr id te.size p.1 p.2) }
     | _,_=>none
     else none
    | some (.Oz t' l)=>if Jf F t'=te.size then match bound vals lo 0,bound vals hi l.length with
     | some a,some b=>(slc l a b).bind λr=>K { val:=.c (.im (.sl t' r)) }
     | _,_=>none
     else none
    | _=>none
   | _=>none
 | _,_=>none
def ZG(t:TypeId):Option R:=
 match T t,vals with
 | some ⟨.string,_,_,_,_,_⟩,[.c (.im (.s l))]=>kI K .i64 l.length
 | some ⟨.slice _,_,_,_,_,_⟩,[.c (.im (.sl _ l))]=>kI K .i64 l.length
 | some ⟨.slice _,_,_,_,_,_⟩,[.c (.im .nl)]=>kI K .i64 0
 | some ⟨.slice _,_,_,_,_,_⟩,[.c (.KP id)]=>match mm id with
  | some (.row _ l)=>kI K .i64 l.length
  | some (.Oz _ l)=>kI K .i64 l.length
  | some (.KM _ l)=>kI K .i64 l.length
  | some (.NY _ l _ _)=>kI K .i64 l.length
  | some (.K5 _ l _)=>kI K .i64 l.length
  | _=>none
 | some ⟨.slice _,_,_,_,_,_⟩,[.c (.Nr _ _ _ n)]=>kI K .i64 n
 | some ⟨.slice _,_,_,_,_,_⟩,[.c (.OX _ n)]=>kI K .i64 n
 | some ⟨.array n _,_,_,_,_,_⟩,[_]=>kI K .i64 n
 | some ⟨.map _ _,_,_,_,_,_⟩,[.c (.Oa id)]=>match mm id with
  | some (.mp _ l)=>kI K .i64 l.length
  | _=>none
 | _,_=>none
def MG(tt:Ty)(kd:ND F)(x:ET F tt):Bool:=match kd,Jc F tt x with
 | .i _ n,.i _ m::_=>n == m
 | .s a,.s b::_=>a == b
 | _,_=>false
def Oj(tt:Ty)(D:Option TypeDesc)(kd:ND F):Bool:=match tt with
 | .st n=>match F.fs n,D,kd with
  | .int K::_,some (.int K'),.i K'' _=>decide (K=K')&&decide (K'=K'')
  | .str::_,some .string,.s _=>true
  | _,_,_=>false
 | _=>false
def pL(tt:Ty)(x:ET F tt):Option (Dat F):=match Jc F tt x with
 | _::Ni=>cond tt.SI (some (.agg (Ni.map .im))) (match Ni with | [d]=>some (.c (.im d)) | _=>none)
 | []=>none
def P8(t:TypeId):Option (TypeId×TypeId×Ty):=match T t with
 | some ⟨.map k v,_,_,_,some (.slice tt),_⟩=>cond tt.KS (some (k,v,tt)) none
 | _=>none
def vQ(v:TypeId)(tt:Ty)(kd:ND F):Option (ET F tt):=match T v with
 | some te=>cond (dj te.desc == tt.SI) (Mg F tt (kd::te.zero)) none
 | none=>none
def uB(t:TypeId):Option R:=
 match P8 T t with
 | some (_,_,tt)=>K { val:=.c (.Oa c),mw:=[(c,some (.mp tt []))],nu:=1 }
 | none=>none
def vP(t:TypeId)(ok:Bool):Option R:=
 match P8 T t,vals with
 | some (k,v,tt),[.c (.Oa id),.c (.im kd)]=>match mm id with
  | some (.mp O5 l)=>if h:O5=tt then cond (Oj tt (ez T k) kd) (match vQ T v tt kd with
   | some z=>match pL tt (Lp (MG tt kd) (h▸l) z)with
    | some d=>K { val:=cond ok (.MC [d,.c (.im (.b (Oc (MG tt kd) (h▸l))))]) d }
    | none=>none
   | none=>none) none else none
  | _=>none
 | _,_=>none
def sd(tt:Ty):Dat F→Option (List (Ko F))
 | .c x=>cond tt.SI none (some [x])
 | .agg cs=>cond tt.SI (some cs) none
 | _=>none
def qz(t:TypeId):Option R:=
 match P8 T t,vals with
 | some (k,_,tt),[.c (.Oa id),.c (.im kd),d]=>match mm id,sd tt d with
  | some (.mp O5 l),some cs=>if h:O5=tt then cond (Oj tt (ez T k) kd) (match bM mm cs with
   | some (ds,[])=>match Mg F tt (kd::ds)with
    | some y=>K { val:=.c .any,mw:=[(id,some (.mp tt (Ll (MG tt kd) (h▸l) y)))] }
    | none=>none
   | _=>none) none else none
  | _,_=>none
 | _,_=>none
def qe(f:Int→Int→Int)(k:IntKind)(n:Int):List (Dat F)→Option Int
 | []=>some n
 | .c (.im (.i k' m))::l=>if k=k' then qe f k (f n m) l else none
 | _=>none
def TB(f:Int→Int→Int):Option R:=
 match vals with
 | .c (.im (.i k n))::l=>match qe f k n l with
  | some m=>kI K k m
  | none=>none
 | _=>none
def nones(l:List Nat):List (Nat×Option (Jw F)):=l.map λi=>(i,none)
def blks(l:List (Nat×Jw F)):List (Nat×Option (Jw F)):=l.map λp=>(p.1,some p.2)
def nmF:Nat→List (Jw F)→List (Nat×Jw F)
 | _,[]=>[]
 | c,B::r=>(c,B)::nmF (c+1) r
def bB(F:Fam):Nat→List (ND F)→List (Nat×Jw F)
 | _,[]=>[]
 | k,d::r=>match d with
  | .sl t l=>(k,.row t l)::bB F (k+1) r
  | _=>bB F (k+1) r
def takeC(F:Fam):Nat→List (ND F)→List (Ko F)
 | _,[]=>[]
 | c,d::r=>match d with
  | .sl _ _=>.KP c::takeC F (c+1) r
  | d=>.im d::takeC F c r
def NP.okN:ND F→Bool
 | .sl _ _=>true
 | d=>d.flat
def mh(mm:Nat→Option (Jw F)):Ko F→Option (ND F×Option Nat)
 | .KP id=>match mm id with
  | some (.row t l)=>some (.sl t l,some id)
  | _=>none
 | .im d=>match d with
  | .nl=>some (.nl,none)
  | d=>if d.flat then some (d,none)else none
 | _=>none
def du(mm:Nat→Option (Jw F)):List (Ko F)→Option (List (ND F)×List (Option Nat))
 | []=>some ([],[])
 | c::r=>match mh mm c with
  | none=>none
  | some (d,o)=>match du mm r with
   | none=>none
   | some (ds,os)=>some (d::ds,o::os)
def U9(id c n:Nat)(os:List (Option Nat))(B:Jw F):List (Nat×Option (Jw F)):=nones (id::Kh os)++[(c,some B),(id,some (.ME c n))]
def Nk(id c:Nat)(t:Ty)(l:List (ET F t))(i:Nat)(ks:List Nat)(rs:List (Jw F)):List (Nat×Option (Jw F)):=
 (id,none)::(c,some (.NY t l i ks))::blks (nmF (c+1) rs)++[(id,some (.ME c l.length))]
def fgC(ks:List Nat):Ko F→Ko F
 | .im d=>cond d.flat (.im d) .one
 | .KP id=>cond (Jp id ks) (.KP id) .one
 | .any=>.any
 | _=>.one
def fgD(ks:List Nat):Dat F→Dat F
 | .c x=>.c (fgC ks x)
 | .agg cs=>.agg (cs.map (fgC ks))
 | _=>.c .any
def UW:Nat×Jw F→Bool
 | (_,.row t _)=>cC F t
 | _=>false
def fgt:Ctx F→Bool
 | a::b::c::_=>Nat.beq a.1 b.1&&Nat.beq b.1 c.1
 | _=>false
def mark:Ctx F→Ctx F
 | []=>[]
 | a::l=>a::a::a::l
def yg(f:FuncId)(args:List (Dat F)):Option R:=
 match look Γ f with
 | none=>none
 | some sp=>match gJ Γ mm sp.ks (args.map RU)with
  | none=>none
  | some p=>if cD (Kh p.os)&&Ny (Kh p.os) p.fz then
    (sp.D p.x).bind λr=>
     match ap (sp.rs++sp.ks.filter Kd.KO) r p.bx c with
     | (ds,bs,c')=>K { val:=SS (ds.map (fgD ((bs.filter UW).map (·.1)))),mw:=nones (Kh p.os)++blks (bs.filter UW),nu:=c' - c }
   else none
def u_(f:FuncId)(args:List (Dat F)):Option R:=
 cond (fgt Γ) (yg Γ mm c K f args) <|
 match look Γ f with
 | none=>none
 | some sp=>match gJ Γ mm sp.ks (cond ((sp.rs++sp.ks.filter Kd.KO).all (Kd.KD F)) (args.map RU) args)with
  | none=>none
  | some p=>if cD (Kh p.os)&&Ny (Kh p.os) p.fz then
    (sp.D p.x).bind λr=>
     match ap (sp.rs++sp.ks.filter Kd.KO) r p.bx c with
     | (ds,bs,c')=>K { val:=SS ds,mw:=(if(sp.rs++sp.ks.filter Kd.KO).all (Kd.KD F)then[]else SK mm p.fz)++nones (Kh p.os)++blks bs,nu:=c' - c }
   else none
def pT(ks:List Ty)(r:Ty)(φ : Jk F ks→Option (ET F r))(args:List (Dat F)):Option R:=
 match Mf mm (ks.map λt=>.v t []) args [] []with
 | none=>none
 | some q=>if cC F r then match R4 ks (q.x ())with
   | a=>(φ a).bind λx=>K { val:=aap r x }
  else none
where R4:(ks:List Ty)→HL F (ks.map λt=>.v t [])→Jk F ks
 | [],_=>()
 | _::ks,a=>(a.1,R4 ks a.2)
def Vv(t:TypeId):Option R:=
 match T t with
 | some ⟨.slice e,_,_,_,_,_⟩=>match T e with
  | none=>none
  | some te=>match vals with
   | [.c (.KP id),y]=>match mm id with
    | some (.row t l)=>if Jf F t=te.size then match rt mm t y with
     | some ys=>K { val:=.c (.im (.i .i64 (min l.length ys.length:Nat))),mw:=[(id,some (.row t (LD l 0 l.length ys)))] }
     | none=>none
     else none
    | _=>none
   | [.c (.Nr id sz off n),y]=>match mm id with
    | some (.row t l)=>if Jf F t=te.size&&sz == te.size then match rt mm t y with
     | some ys=>K { val:=.c (.im (.i .i64 (min n ys.length:Nat))),mw:=[(id,some (.row t (LD l off n ys)))] }
     | none=>none
     else none
    | _=>none
   | _=>none
 | _=>none
def zp(t:TypeId):Option R:=
 match T t,vals with
 | some ⟨.slice e,_,_,_,_,_⟩,[.c (.Nr id sz off n)]=>match T e with
  | none=>none
  | some te=>match mm id with
   | some (.row tt l)=>if Jf F tt=te.size&&sz == te.size&&Nat.blt 0 te.size then match Mg F tt te.zero with
    | some z=>K { val:=.MC [],mw:=[(id,some (.row tt (LD l off n (List.replicate n z))))] }
    | none=>none
    else none
   | _=>none
 | _,_=>none
def Vu(t:TypeId)(hi:Option Nat):Option R:=
 match T t,vals with
 | some ⟨.slice e,_,_,_,_,_⟩,.c (.KP id)::_=>match T e with
  | none=>none
  | some te=>match mm id with
   | some (.row t' l)=>if Jf F t'=te.size then match bound vals hi l.length with
    | some b=>(Mj 0 b l.length).bind λp=>K { val:=.c (.KP c),mw:=[(id,none),(c,some (.row t' (l.take p.2)))],nu:=1 }
    | none=>none
    else none
   | _=>none
 | _,_=>none
def Vx(cl:Call):Option R:=
 match cl.callee with
 | .builtin .len=>match cl.argTypes,cl.args with
  | ⟨[t]⟩,⟨[_]⟩=>ZG T vals mm K t
  | _,_=>none
 | .builtin .append=>match cl.argTypes,cl.args with
  | ⟨[t0,t1]⟩,⟨[_,_]⟩=>wa T vals mm c K t0 t1
  | _,_=>none
 | .builtin .copy=>match cl.argTypes,cl.args with
  | ⟨[t,_]⟩,⟨[_,_]⟩=>Vv T vals mm K t
  | _,_=>none
 | .builtin .clear=>match cl.argTypes,cl.args with
  | ⟨[t]⟩,⟨[_]⟩=>zp T vals mm K t
  | _,_=>none
 | .builtin .min=>TB vals K Od
 | .builtin .max=>TB vals K imax
 | .value _=>match vals with
  | .c (.im (.v (.func (.func f) ⟨[]⟩ ⟨[]⟩)))::args=>u_ Γ mm c K f args
  | .NG (.func f) fs cs::args=>u_ Γ mm c K f (fs++args++cs)
  | .fv ks r φ::args=>pT mm K ks r φ args
  | _=>none
 | _=>none
def Vr:Option R:=
 match vals with
 | [.c (.im (.b x)),a,b]=>cond x (K { val:=a }) (K { val:=b })
 | _=>none
def rz:Option R:=
 match vals with
 | [.c (.ptr id off)]=>K { val:=.c (.ptr id off) }
 | [.c (.Ma id sz i off)]=>K { val:=.c (.Ma id sz i off) }
 | [.c (.pt cs off)]=>K { val:=.c (.pt cs off) }
 | _=>none
def zo(fn:Fn)(first captured:Nat):Option R:=
 if first=0&&captured=0 then K { val:=.c (.im (.v (.func fn #[] #[]))) }
 else K { val:=.NG fn (vals.take first) (vals.drop first) }
def TY(lo:Option Operand):Nat:=match lo with | some _=>2 | none=>1
def ob(o:Option Operand)(k:Nat):Option Nat:=match o with | some _=>some k | none=>none
def Xt(o:Op):Option R:=
 match o with
 | .move _ | .assign _=>match vals with | [x]=>K { val:=x } | _=>none
 | .pick _ _ _=>Vr vals K
 | .alloc elem=>match T elem with | some ti=>Ur T mm c K elem (ti.zero.map .im) | none=>none
 | .box elem _=>match vals with | [x]=>Ur T mm c K elem x.cells | _=>none
 | .build t parts=>y7 T vals K t (parts.toList.map (·.1))
 | .buildSlice t len parts=>if Au Γ && aiK T t then oJ T vals mm c K t len (parts.toList.map (·.1))else pD T vals mm c K t len (parts.toList.map (·.1))
 | .load t _=>Vt T vals mm K t
 | .store t _ _=>yy T vals mm K t
 | .nilCheck _=>rz vals K
 | .binOp op t _ y _=>ZH T vals K op t y
 | .unOp op _ _=>tUn vals K op
 | .convert s d _=>Vw T vals mm K s d
 | .makeFunc fn first captured=>zo vals K fn first.size captured.size
 | .makeSlice t x y=>if Au Γ then(match qd T t x y with | some n=>Ct c K n | none=>Tz T vals c K t)else Tz T vals c K t
 | .slice t _ lo hi none=>if fgt Γ && lo.isNone then Vu T vals mm c K t (ob hi 1)else yj T vals mm K t (ob lo 1) (ob hi (TY lo))
 | .fieldAddr s _ f=>yu T vals K s f
 | .field s _ f=>Vs T vals K s f
 | .indexAddr t _ y=>qH T vals mm K t y
 | .index t _ _=>y9 T vals K t
 | .makeMap t none=>uB T c K t
 | .lookup t _ _ ok=>vP T vals mm K t ok
 | .mapUpdate t _ _ _=>qz T vals mm K t
 | .extract _ i=>match vals with | [.MC ds]=>(match ds[i]? with | some d=>K { val:=d } | none=>none) | _=>none
 | .call cl=>Vx T Γ vals mm c K cl
 | _=>none
end
end
set_option linter.unusedVariables false
set_option linter.unusedSimpArgs false
structure Rec where
 rs:List Nat
 d:Option Nat
 tm:List Nat
 wm:List Nat
 Uk:Nat
def nJ:List Operand→List Nat
 | []=>[]
 | .tmp t::l=>t::nJ l
 | _::l=>nJ l
def KA:List Edge→List Nat
 | []=>[]
 | x::l=>if Region.binds .any x then x.on::KA l else KA l
def M9(recs:List Rec):List Nat→Nat
 | []=>0
 | i::l=>Nat.lor (Nat.lor (2 ^ i) ((recs[i]?).elim 0 (·.Uk))) (M9 recs l)
def Nw(ops:List Oper)(j:Nat):Option Nat:=(ops[j]?).bind (·.dst)
def meets(a b:List Nat):Bool:=match a with | []=>false | x::l=>Jp x b||meets l b
def Rec.conflict(a b:Rec):Bool:=
 (match a.d with | some x=>Jp x b.rs||(match b.d with | some y=>Nat.beq x y | none=>false) | none=>false) ||
 (match b.d with | some y=>Jp y a.rs | none=>false) ||
 meets a.wm b.tm||meets a.wm b.wm||meets b.wm a.tm
def qg(b:Rec):Nat→List Rec→Bool
 | _,[]=>true
 | i,a::l=>(Nat.testBit b.Uk i||!(a.conflict b))&&qg b (i+1) l
def rP(all:List Rec):List Rec→Bool
 | []=>true
 | b::l=>qg b 0 (all.take (all.length - (b::l).length))&&rP all l
def pW:Nat→List Oper→Bool
 | _,[]=>true
 | i,o::l=>(KA o.after.toList).all (λk=>Nat.blt k i)&&pW (i+1) l
section
variable{F:Fam}
def Ko.ids:Ko F→List Nat
 | .ptr id _ | .Ma id _ _ _ | .Nr id _ _ _ | .KP id | .OV id _ _ _ | .Pn id _ _ _ _ _ _ | .OX id _ | .Oa id=>[id]
 | _=>[]
def vU:List (Ko F)→List Nat
 | []=>[]
 | c::l=>c.ids++vU l
mutual
def Dat.ids:Dat F→List Nat
 | .c x=>x.ids
 | .agg cs=>vU cs
 | .NG _ fs cs=>lG fs++lG cs
 | .gh id=>[id]
 | _=>[]
def lG:List (Dat F)→List Nat
 | []=>[]
 | d::l=>d.ids++lG l
end
def yE(mm:Nat→Option (Jw F)):Nat→Nat→List Nat
 | 0,_=>[]
 | n+1,k=>k::match mm k with | some (.ME k' _)=>yE mm n k' | _=>[]
def xU(mm:Nat→Option (Jw F)):List Nat→List Nat
 | []=>[]
 | id::l=>id::((match mm id with | some (.ME k _)=>yE mm 9 k | _=>[])++xU mm l)
def CC(mm:Nat→Option (Jw F)):List Nat→List Nat
 | []=>[]
 | id::l=>(match mm id with | some (.box cs)=>xU mm (vU cs) | some (.ME k _)=>yE mm 9 k | _=>[])++CC mm l
def reach(mm:Nat→Option (Jw F))(ids:List Nat):List Nat:=ids++CC mm ids
def Ai(mm:Nat→Option (Jw F))(o:Op)(vals:List (Dat F)):List Nat:=
 match o with
 | .call _=>reach mm (reach mm (lG vals))
 | .indexAddr _ _ _=>lG vals
 | .load _ _=>xU mm (lG vals)
 | .store _ _ _ | .slice _ _ _ _ _ | .buildSlice _ _ _ | .box _ _ | .convert _ _ _ | .lookup _ _ _ _ | .mapUpdate _ _ _ _=>reach mm (lG vals)
 | _=>[]
def TJ(m:Nat→Option (Jw F))(l:List Nat):Nat→Option (Jw F):=λid=>if Jp id l then m id else none
structure TS(F:Fam) where
 E:List (Nat×Dat F)
 M:List (Nat×Jw F)
 c:Nat
 dE:List Nat:=[]
 dM:List Nat:=[]
def Rn(E:List (Nat×Dat F))(dst:Option Nat)(d:Dat F):List (Nat×Dat F):=
 match dst with
 | some x=>(x,d)::E
 | none=>E
def NI(M:List (Nat×Jw F)):List (Nat×Option (Jw F))→List (Nat×Jw F)
 | []=>M
 | (id,none)::r=>NI (M.filter λp=>!(Nat.beq id p.1)) r
 | (id,some B)::r=>NI ((id,B)::M.filter λp=>!(Nat.beq id p.1)) r
section
variable(T:TypeId→Option (TI F))(Γ : Ctx F)(nv n:Nat)
def dirty(dE:List Nat):Option Nat→List Nat
 | some x=>if Nat.blt x nv then x::dE else dE
 | none=>dE
variable{R:Type}
def Vy(vals:List (Dat F))(mm:Nat→Option (Jw F))(c:Nat)(K:Oq F→Option R)(o:Op)(id sz i off:Nat):Option R:=
 match mm id with
 | some (.KM t l)=>if sz=Jf F t then(l[i]?).bind λx=>match(Jc F t x)[off]? with
  | some (.sl t2 l2)=>Xt T Γ (.c (.KP (c+1))::vals.tail) (Kc mm (Nk id c t l i [off] [.row t2 l2])) (c+2) (λr=>K ⟨r.val,Nk id c t l i [off] [.row t2 l2]++r.mw,2+r.nu⟩) o
  | _=>none
  else none
 | _=>none
def Tx(mm:Nat→Option (Jw F))(c:Nat)(K:Oq F→Option R)(ty:TypeId)(id sz i off:Nat)(v:Dat F)(t:Ty)(l:List (ET F t))(i0:Nat)(ks:List Nat):Option R:=
 match T ty with
 | none=>none
 | some ti=>match du mm v.cells with
  | none=>none
  | some (ds,os)=>
   if ds.length=ti.size&&sz == Jf F t&&Nat.ble (off+ds.length) (Jf F t)&&Nat.blt 0 ds.length&&cD (id::Kh os)&&ks.all (λq=>Nat.ble off q&&Nat.blt q (off+ds.length))then
    cond (ks.isEmpty||Nat.beq i i0) ((l[i]?).bind λx=>match Mg F t ((Jc F t x).take off++ds++(Jc F t x).drop (off+ds.length))with
     | some y=>K { val:=.c .any,mw:=U9 id c l.length os (.KM t (l.set i y)),nu:=1 }
     | none=>none) none
   else none
def Vp(mm:Nat→Option (Jw F))(c:Nat)(K:Oq F→Option R)(ty:TypeId)(id sz i off:Nat)(v:Dat F)(t:Ty)(l:List (ET F t))(j:Nat):Option R:=
 match T ty with
 | none=>none
 | some ti=>match du mm v.cells with
  | none=>none
  | some (ds,os)=>
   if ds.length=ti.size&&sz == Jf F t&&Nat.ble (off+ds.length) (Jf F t)&&Nat.blt 0 ds.length&&cD (id::Kh os)then
    cond (Nat.beq i j) ((l[i]?).bind λx=>
     if((Jc F t x).take off++(Jc F t x).drop (off+ds.length)).all NP.flat then
      match Mg F t ((Jc F t x).take off++ds++(Jc F t x).drop (off+ds.length))with
      | some y=>K { val:=.c .any,mw:=U9 id c l.length os (.K5 t (l.set i y) (j+1)),nu:=1 }
      | none=>none
     else none) none
   else none
def yl(c:Nat)(K:Oq F→Option R)(ty:TypeId)(id sz i off:Nat)(t:Ty)(l:List (ET F t)):Option R:=
 match T ty with
 | none=>none
 | some ti=>if sz == Jf F t&&dj ti.desc then(l[i]?).bind λx=>
   if(((Jc F t x).drop off).take ti.size).all NP.flat then pK (db ti ((Jc F t x).map λd=>cond d.flat (.im d) .one) off) (λr=>K r)
   else if(Jc F t x).all NP.okN then match db ti (takeC F (c+1) (Jc F t x)) off with
    | some d=>K { val:=d,mw:=Nk id c t l i ((bB F 0 (Jc F t x)).map (·.1)) ((bB F 0 (Jc F t x)).map (·.2)),nu:=1+(bB F 0 (Jc F t x)).length }
    | none=>none
   else none
  else none
def xO(K:Oq F→Option R)(ty:TypeId)(sz i off:Nat)(t:Ty)(l:List (ET F t))(j:Nat):Option R:=
 match T ty with
 | none=>none
 | some ti=>if sz == Jf F t then cond (Nat.ble j i) ((l[i]?).bind λx=>pK (db ti ((Jc F t x).map .im) off) (λr=>K r)) none else none
def WZ(vals:List (Dat F))(mm:Nat→Option (Jw F))(c:Nat)(K:Oq F→Option R)(o:Op):Option R:=
 match o,vals with
 | .call ⟨.builtin .append,_,_⟩,.c (.OV id sz i off)::_=>Vy T Γ vals mm c K o id sz i off
 | .store ty _ _,[.c (.Ma id sz i off),v]=>match mm id with
  | some (.KM t l)=>Tx T mm c K ty id sz i off v t l 0 []
  | some (.NY t l i0 ks)=>Tx T mm c K ty id sz i off v t l i0 ks
  | some (.K5 t l j)=>Vp T mm c K ty id sz i off v t l j
  | _=>Xt T Γ vals mm c K o
 | .load ty _,[.c (.Ma id sz i off)]=>match mm id with
  | some (.KM t l)=>match T ty with
   | some ti=>if dj ti.desc then yl T c K ty id sz i off t l else Xt T Γ vals mm c K o
   | none=>none
  | some (.K5 t l j)=>xO T K ty sz i off t l j
  | _=>Xt T Γ vals mm c K o
 | .indexAddr ty _ _,[.c (.KP id),.c (.im (.i _ n))]=>match mm id with
  | some (.ME _ len)=>match T ty with
   | some ⟨.slice e,_,_,_,_,_⟩=>match T e with
    | some te=>(Ka n len).bind λi=>K { val:=.c (.Ma id te.size i 0) }
    | none=>none
   | _=>none
  | _=>Xt T Γ vals mm c K o
 | _,_=>Xt T Γ vals mm c K o
def ZF(vals:List (Dat F))(mm:Nat→Option (Jw F))(c:Nat)(K:Oq F→Option R)(o:Op):Option R:=
 match o with
 | .indexAddr _ _ _=>WZ T Γ vals mm c K o
 | o=>WZ T Γ (vals.map (Xa mm)) mm c K o
def tGo(o:Oper)(gs:List Nat)(s:TS F)(recs:List Rec)(K:TS F→List Rec→Option R):Option R:=
 let vals:=o.op.operands.toList.map (Zk (look s.E))
 let tm:=Ai (look s.M) o.op vals
 ZF T Γ vals (TJ (look s.M) tm) s.c (λres=>
  if(match o.dst with | some d=>Nat.blt d n | none=>true)then
   K ⟨Rn s.E o.dst res.val,NI s.M res.mw,s.c+res.nu,dirty nv s.dE o.dst,res.mw.map (·.1)++s.dM⟩
    (recs++[⟨gs++nJ o.op.operands.toList,o.dst,tm,res.mw.map (·.1),M9 recs (KA o.after.toList)⟩])
  else none) o.op
def R6(o:Oper)(gs:List Nat)(s:TS F)(recs:List Rec)(K:TS F→List Rec→Option R):Option R:=
 if(match o.dst with | some d=>Nat.blt d n | none=>true)then
  K ⟨Rn s.E o.dst (.MC []),s.M,s.c,dirty nv s.dE o.dst,s.dM⟩ (recs++[⟨gs,o.dst,[],[],M9 recs (KA o.after.toList)⟩])
 else none
def Vq(ops:List Oper)(o:Oper)(s:TS F)(recs:List Rec)(K:TS F→List Rec→Option R):Option R:=
 match o.guard with
 | none=>tGo T Γ nv n o [] s recs K
 | some (j,want)=>match Nw ops j with
  | none=>none
  | some d=>match look s.E d with
   | some (.c (.im (.b x)))=>
    cond x
     (let s':TS F:=⟨(d,.c (.im (.b true)))::s.E,s.M,s.c,s.dE,s.dM⟩
      if want then tGo T Γ nv n o [d] s' recs K else R6 nv n o [d] s' recs K)
     (let s':TS F:=⟨(d,.c (.im (.b false)))::s.E,s.M,s.c,s.dE,s.dM⟩
      if want then R6 nv n o [d] s' recs K else tGo T Γ nv n o [d] s' recs K)
   | some (.MC [])=>R6 nv n o [d] s recs K
   | _=>none
def SV(ops:List Oper):List Oper→TS F→List Rec→(TS F→List Rec→Option R)→Option R
 | [],s,recs,K=>K s recs
 | o::l,s,recs,K=>Vq T Γ nv n ops o s recs λs' agb=>SV ops l s' agb K
def qa(kp:List Nat):List (Nat×Dat F)→List Nat→(List (Nat×Dat F)→Option R)→Option R
 | [],_,K=>K []
 | (x,d)::r,seen,K=>if(Nat.blt x nv||Jp x kp)&&!(Jp x seen)then qa kp r (x::seen) λr'=>K ((x,d)::r')else qa kp r seen K
def v_:List Oper→List Nat
 | []=>[]
 | [o]=>o.dst.toList
 | _::l=>v_ l
def OL(kp:List Nat)(ops:List Oper)(draw:Bool)(s:TS F)(K:TS F→Option R):Option R:=
 SV T Γ nv n ops ops s [] λs' recs=>
  if(if draw then pW 0 ops&&rP recs recs else true)then
   qa nv (v_ ops++kp) s'.E [] λE'=>K ⟨E',s'.M,s'.c,s'.dE,s'.dM⟩
  else none
end
abbrev Ks:=List (Nat×Kd)
section
variable(F:Fam)
@[reducible] def TLS:Ks→Type
 | []=>Unit
 | [k]=>k.2.El F
 | k::l::r=>k.2.El F×TLS (l::r)
@[reducible] def ExT:List (Nat×Ks)→Type
 | []=>Empty
 | [x]=>TLS F x.2
 | x::y::r=>TLS F x.2 ⊕ ExT (y::r)
end
inductive Hint where
 | z
 | s (a b:Hint)
 | c (a b:Hint)
 | b (a:Hint)
 | r (kp:List Nat)
 | l (ks:Ks) (dr:List Nat) (xs:List (Nat×Ks)) (a:Hint)
 | j (dr:List Nat) (xs:List (Nat×Ks)) (a:Hint)
 | u (n:Nat) (a:Hint)
 | g (ks:Ks) (dr:List Nat) (a:Hint)
 | p (a b:Hint)
 | m (x ix ex:Nat) (dr:List Nat) (a:Hint)
def Hint.isL:Hint→Bool
 | .l _ _ _ _=>true
 | _=>false
def keysOf(ks:Ks):List Nat:=ks.map (·.1)
def MR(xs:List (Nat×Ks)):List Nat:=xs.flatMap λx=>keysOf x.2
section
variable(T:TypeId→Option (TI F))(Γ : Ctx F)(nv n:Nat)
def Py:List Nat→Option Nat
 | []=>none
 | x::_=>if Nat.ble 5000 x then some (x - 5000)else none
def UY(ow:List Nat)(id:Nat):Dat F:=match Py ow with | some n=>cond (Nat.beq n 4997) (.gh id) (.c (.OX id n)) | none=>.c (.ptr id 0)
def R5:Dat F→Dat F
 | .c (.OX id _)=>.c (.ptr id 0)
 | .gh id=>.c (.ptr id 0)
 | d=>d
def dI(k:Kd)(d:Option (Dat F)):Option Nat:=
 match k,d with
 | .box _ ow,some (.c (.ptr id 0))=>match Py ow with | none=>some id | some _=>none
 | .box _ ow,some (.c (.OX id n))=>match Py ow with | some m=>if Nat.beq n m&&!(Nat.beq m 4997)then some id else none | none=>none
 | .box _ ow,some (.gh id)=>match Py ow with | some m=>if Nat.beq m 4997 then some id else none | none=>none
 | .row t arr,some d=>vi t arr d
 | _,_=>none
def vA(s0 s:TS F)(x:Nat)(k:Kd):Option (Pk (k.El F)):=
 match dI k (look s0.E x)with
 | some id=>match look s.E x with
  | none=>none
  | some d=>match dI k (some d)with
   | some id'=>if Nat.beq id id' then Nl Γ (look s.M) k (R5 d)else none
   | none=>none
 | none=>match look s.E x with
  | none=>none
  | some d=>Nl Γ (look s.M) k d
def Pd(s0 s:TS F):(ks:Ks)→Option (Pk (TLS F ks))
 | []=>some ⟨(),[],[],[]⟩
 | [k]=>vA Γ s0 s k.1 k.2
 | k::l::r=>match vA Γ s0 s k.1 k.2 with
   | none=>none
   | some p=>match Pd s0 s (l::r)with
    | none=>none
    | some q=>some ⟨(p.x,q.x),p.os++q.os,p.fz++q.fz,p.bx++q.bx⟩
def Uq(id:Nat):(k:Kd)→k.El F→Nat→Dat F×List (Nat×Jw F)×Nat
 | .box t ow,x,c=>match LX ow 0 c (Jc F t x)with
  | (cs,bs,c')=>(UY ow id,(id,.box cs)::bs,c')
 | .row t arr,x,c=>(Mt t arr id,[(id,Oy t x)],c)
 | _,_,c=>(.c .any,[],c)
def NQ(E0:List (Nat×Dat F))(x:Nat)(k:Kd)(v:k.El F)(c:Nat):Dat F×List (Nat×Jw F)×Nat:=
 match dI k (look E0 x)with
 | some id=>Uq id k v c
 | none=>Mk k v c
def KI(E0:List (Nat×Dat F)):(ks:Ks)→TLS F ks→Nat→List (Nat×Dat F)×List (Nat×Jw F)×Nat
 | [],_,c=>([],[],c)
 | [k],a,c=>match NQ E0 k.1 k.2 a c with
  | (d,bs,c')=>([(k.1,d)],bs,c')
 | k::l::r,a,c=>match NQ E0 k.1 k.2 a.1 c with
  | (d,bs,c')=>match KI E0 (l::r) a.2 c' with
   | (ds,bs',c'')=>((k.1,d)::ds,bs++bs',c'')
def aM(s:TS F)(xs:List Nat):List Nat:=reach (look s.M) (xs.flatMap λx=>match look s.E x with | some d=>d.ids | none=>[])
def Ol(c0:Nat)(kill:List Nat)(l:List Nat):Bool:=l.all λid=>Nat.ble c0 id||Jp id kill
def Lr(s0:TS F)(dr:List Nat)(c0:Nat)(kill:List Nat)(ks:Ks)(s:TS F):Option (TLS F ks):=
 if s.dE.all (λx=>Jp x dr)&&Ol c0 kill s.dM then
  match Pd Γ s0 s ks with
  | none=>none
  | some p=>if cD (Kh p.os)&&Ny (Kh p.os) p.fz&&Ol c0 kill (Kh p.os)&&Ol c0 kill p.fz then some p.x else none
 else none
def O9(s0:TS F)(dr:List Nat)(c0:Nat)(kill:List Nat):(xs:List (Nat×Ks))→Nat→TS F→Option (ExT F xs)
 | [],_,_=>none
 | [x],e,s=>if Nat.beq x.1 e then Lr Γ s0 dr c0 kill x.2 s else none
 | x::y::r,e,s=>if Nat.beq x.1 e then(match Lr Γ s0 dr c0 kill x.2 s with | some v=>some (.inl v) | none=>none)else(match O9 s0 dr c0 kill (y::r) e s with | some v=>some (.inr v) | none=>none)
def merge(dr:List Nat)(kill:List Nat)(s:TS F)(ks:Ks)(v:TLS F ks):TS F:=
 match KI s.E ks v s.c with
 | (es,bs,c')=>⟨es++s.E.filter (λp=>Nat.blt p.1 nv&&!(Jp p.1 dr)),bs++s.M.filter (λp=>!(Jp p.1 kill)),c',dr++s.dE,kill++s.dM⟩
def clean(s:TS F):TS F:=⟨s.E,s.M,s.c,[],[]⟩
def OE{R:Type}(K:(e:Nat)→(ks:Ks)→TLS F ks→Option R):(xs:List (Nat×Ks))→ExT F xs→Option R
 | []=>λ_=>none
 | [x]=>λv=>K x.1 x.2 v
 | x::y::r=>λv=>match v with
  | .inl a=>K x.1 x.2 a
  | .inr b=>OE K (y::r) b
end
end
def iter{τ σ : Type}(step:τ→Option (τ ⊕ σ)):Nat→τ→Option σ
 | 0,_=>none
 | n+1,t=>match step t with
  | none=>none
  | some (.inl t')=>iter step n t'
  | some (.inr r)=>some r
noncomputable def loop{τ σ : Type}(step:τ→Option (τ ⊕ σ))(t:τ):Option σ:=
 match iter step 100000 t with
 | some r=>some r
 | none=>@dite _ (∃r n,iter step n t=some r) (Classical.propDecidable _) (λh=>some h.choose) (λ_=>none)
theorem sa{τ σ : Type}{step:τ→Option (τ ⊕ σ)}{r:σ}:∀{n:Nat}(k:Nat){t:τ},iter step n t=some r→iter step (n+k) t=some r
 | 0,_,_,h=>by simp[iter]at h
 | n+1,k,t,h=>by
  rw[Nat.add_right_comm];simp only[iter]at h ⊢;split at h
  ·cases h
  ·exact sa k h
  ·exact h
theorem oT{τ σ : Type}{step:τ→Option (τ ⊕ σ)}{t:τ}{r:σ}(h:loop step t=some r):∃n,iter step n t=some r:=by
 unfold loop at h;split at h
 ·rename_i e;exact⟨_,e.trans h⟩
 ·split at h
  ·rename_i hx;cases h;exact hx.choose_spec
  ·cases h
theorem zx{τ σ : Type}{step:τ→Option (τ ⊕ σ)}{t:τ}{r q:σ}{n m:Nat}(h:iter step n t=some r)(k:iter step m t=some q):q=r:=by have h1:=sa m h;have h2:=sa n k;rw[XB]at h2;rw[h1]at h2;exact(Option.some.inj h2).symm
theorem rv{τ σ : Type}{step:τ→Option (τ ⊕ σ)}{t:τ}{r:σ}{n:Nat}(h:iter step n t=some r):loop step t=some r:=by
 unfold loop;split
 ·rename_i e;rw[zx h e]
 ·have hx:∃r n,iter step n t=some r:=⟨r,n,h⟩;rw[dif_pos hx];obtain⟨m,hm⟩:=hx.choose_spec;rw[zx h hm]
theorem cO{τ σ : Type}(step:τ→Option (τ ⊕ σ))(t:τ):loop step t=match step t with
  | none=>none
  | some (.inl t')=>loop step t'
  | some (.inr r)=>some r:=by
 cases hl:loop step t with
 | some r=>
  obtain⟨n,hn⟩:=oT hl
  cases n with
  | zero=>simp[iter]at hn
  | succ n=>
   simp only[iter]at hn;split at hn
   ·cases hn
   ·exact(rv hn).symm
   ·cases hn;rfl
 | none=>
  split
  ·rfl
  ·rename_i t' hs
   cases hl':loop step t' with
   | none=>rfl
   | some r=>
    obtain⟨n,hn⟩:=oT hl'
    have:iter step (n+1) t=some r:=by simp only[iter,hs];exact hn
    rw[rv this]at hl;cases hl
  ·rename_i r hs
   have:iter step 1 t=some r:=by simp only[iter,hs]
   rw[rv this]at hl;cases hl
def NR{τ α ω : Type}(step:ω→τ→α→Option τ)(l:List α):Nat→List Nat→τ→τ→Prop
 | 0,_,t,r=>t=r
 | m+1,seen,t,r=>∀k x,k∉seen→l[k]? = some x→∃t',(∀ob,step ob t x=some t')∧NR step l m (seen++[k]) t' r
noncomputable def rng{τ α ω : Type}(t0:ω→Option τ)(step:ω→τ→α→Option τ)(l:List α):Option τ:=
 @dite _ (∃r t,(∀ob,t0 ob=some t)∧NR step l l.length [] t r) (Classical.propDecidable _) (λh=>some h.choose) (λ_=>none)
theorem Fb{τ α ω : Type}{t0:ω→Option τ}{step:ω→τ→α→Option τ}{l:List α}{r:τ}(h:rng t0 step l=some r):∃t,(∀ob,t0 ob=some t)∧NR step l l.length [] t r:=by
 unfold rng at h;split at h
 ·rename_i hx;cases h;exact hx.choose_spec
 ·cases h
structure RgS where
 a:Nat
 b:Nat
 it:Nat
 d1:Nat
 d3:Nat
 ty:TypeId
 rest:List Oper
def vH(n:Nat)(MX Me Nn:List Oper)(c2:Nat):Option RgS:=
 match MX,Me,Nn with
 | [⟨some b,.move (.tmp a),_,_,_,none⟩,⟨some it,.range ty (.tmp b'),_,_,_,none⟩],[⟨some d1,.next (.tmp it') false,_,_,_,none⟩,⟨some c2',.extract (.tmp d1') 0,_,_,_,none⟩],⟨some d3,.entry (.tmp it''),_,_,_,none⟩::rest=>
  if Nat.beq b' b&&Nat.beq it' it&&Nat.beq c2' c2&&Nat.beq d1' d1&&Nat.beq it'' it&&Nat.blt b n&&Nat.blt it n&&Nat.blt d1 n&&Nat.blt c2 n&&Nat.blt d3 n&&!(Nat.beq it b)&&!(Nat.beq it d1)&&!(Nat.beq it c2)&&!(Nat.beq it d3)&&!(Nat.beq c2 d1)then some ⟨a,b,it,d1,d3,ty,rest⟩else none
 | _,_,_=>none
structure RgC where
 MX:Array Oper
 Me:Array Oper
 Nn:Array Oper
 i:Nat
 i':Nat
 j:Nat
 c2:Nat
 body:Code
def yD:Code→Option RgC
 | .seq (.region _ MX false) (.block i (.loop (.seq (.region _ Me false) (.seq (.cond (.tmp c2) .skip (.exit i')) (.block j (.seq (.region _ Nn false) body))))))=>some ⟨MX,Me,Nn,i,i',j,c2,body⟩
 | _=>none
section
variable{F:Fam}(T:TypeId→Option (TI F))(Γ : Ctx F)(nv n:Nat)
def NM(s:TS F)(it:Nat)(ob:Obj):TS F:=⟨(it,.c (.ptr s.c 0))::s.E,(s.c,.it ob)::s.M,s.c+1,[],[]⟩
def itC(s:TS F)(it:Nat):TS F:=⟨(it,.c .any)::s.E,s.M,s.c+1,it::s.dE,s.dM⟩
def xE(s:TS F)(dr:List Nat)(kill:List Nat)(ks:Ks)(h:RgS)(c2:Nat)(ob:Obj)(t:TLS F ks)(kd:ND F)(d:Dat F):TS F:=
 let m:=merge nv dr kill (NM s h.it ob) ks t
 ⟨(h.d3,.MC [.c (.im kd),d])::(c2,.c (.im (.b true)))::(h.d1,.MC [.c (.im (.b true)),.c (.im kd),d])::m.E,m.M,m.c,[],[]⟩
noncomputable def ya(f:TS F→{R:Type}→(Nat→TS F→Option R)→Option R)(MX Me Nn:List Oper)(j c2:Nat)(ks:Ks)(dr:List Nat)(s:TS F){R:Type}(K:Nat→TS F→Option R):Option R:=
 match vH n MX Me Nn c2 with
 | none=>none
 | some h=>match look s.E h.a with
  | some (.c (.Oa mid))=>match look s.M mid with
   | some (.mp tt l)=>match P8 T h.ty with
    | none=>none
    | some _=>
     if Nat.blt mid s.c&&!(Jp mid (aM s dr))&&!(Jp s.c (aM s dr))&&Nat.blt h.it nv&&!(Jp h.it dr) && [h.b,h.d1,c2,h.d3].all (λx=>Nat.ble nv x||Jp x dr) && [h.b,h.d1,c2].all (λx=>!(Jp x (keysOf ks)))&&tt.KS then
      (rng (λob=>Lr Γ (NM s h.it ob) dr (s.c+1) (aM s dr) ks (NM s h.it ob))
       (λob t x=>match Jc F tt x,pL tt x with
        | kd::_,some d=>SV T Γ nv n Nn h.rest (xE nv s dr (aM s dr) ks h c2 ob t kd d) [] λs2 _=>qa nv (v_ Nn) s2.E [] λE'=>f ⟨E',s2.M,s2.c,s2.dE,s2.dM⟩ λe s'=>
         if Nat.beq e 0||Nat.beq e (j+2)then Lr Γ (NM s h.it ob) dr (s.c+1) (aM s dr) ks s' else none
        | _,_=>none) l).bind λv=>K 0 (merge nv dr (aM s dr) (itC s h.it) ks v)
     else none
   | _=>none
  | _=>none
def Kv:Code→TS F→{R:Type}→(Nat→TS F→Option R)→Option R
 | .skip,s,_,K=>K 0 s
 | .exit i,s,_,K=>K (i+2) s
 | .ret,s,_,K=>K 1 s
 | .region _ ops draw,s,_,K=>OL T Γ nv n [] ops.toList draw s (K 0)
 | .seq a b,s,_,K=>Kv a s λe s'=>match e with | 0=>Kv b s' K | e=>K e s'
 | .cond (.tmp t) a b,s,_,K=>match look s.E t with
  | some (.c (.im (.b x)))=>cond x (Kv a s K) (Kv b s K)
  | _=>none
 | .cond (.const (.bool x)) a b,s,_,K=>cond x (Kv a s K) (Kv b s K)
 | .block i a,s,_,K=>Kv a s λe s'=>if Nat.beq e (i+2)then K 0 s' else K e s'
 | .scope a,s,_,K=>Kv a s K
 | .label _,s,_,K=>K 0 s
 | _,_,_,_=>none
def unr(f:TS F→{R:Type}→(Nat→TS F→Option R)→Option R):Nat→TS F→{R:Type}→(Nat→TS F→Option R)→Option R
 | 0,_,_,_=>none
 | n+1,s,_,K=>f s λe s'=>match e with | 0=>unr f n s' K | e=>K e s'
def u5(id:Nat)(s:TS F):TS F:=match look s.M id with
 | some (.KM t l)=>⟨s.E,NI s.M [(id,none),(s.c,some (.KM t l)),(id,some (.ME s.c l.length))],s.c+1,s.dE,id::s.c::s.dM⟩
 | _=>s
def Ua(x gs:Nat)(s:TS F):TS F:=match look s.E x with
 | some (.NG _ [] [_,.c (.ptr id 0)])=>⟨(gs,.gh id)::s.E,s.M,s.c,gs::s.dE,s.dM⟩
 | _=>s
def jt:List Nat→TS F→TS F
 | [],s=>s
 | x::r,s=>jt r (cond (Nat.ble 10000 x) (cond (Nat.ble 1000000 x) (Ua (x / 1000 - 1000) (x % 1000) s) (u5 (x - 10000) s)) s)
def LP(nv:Nat)(s:TS F)(id ix:Nat)(dr:List Nat)(B:Jw F)(len:Nat)(n:Int):TS F:=
 ⟨(ix,.c (.im (.i .i64 n)))::s.E.filter (λp=>Nat.blt p.1 nv&&!(Jp p.1 (ix::dr))),(id,.ME s.c len)::(s.c,B)::s.M.filter (λp=>!(Nat.beq id p.1)),s.c+1,ix::(dr++s.dE),id::s.dM⟩
def RZ(c0 id ix:Nat)(dr:List Nat)(t:Ty)(s:TS F):Option (List (ET F t)×Nat×Int):=
 if s.dE.all (λx=>Jp x (ix::dr))&&s.dM.all (λy=>Nat.ble c0 y||Nat.beq y id)then
  match look s.E ix with
  | some (.c (.im (.i .i64 n)))=>match look s.M id with
   | some (.ME k _)=>match look s.M (OM (look s.M) 8 k)with
    | some (.K5 t' l j)=>if h:t'=t then(if Nat.ble c0 (OM (look s.M) 8 k)then some (h▸l,j,n)else none)else none
    | _=>none
   | _=>none
  | _=>none
 else none
noncomputable def KJ:Hint→Code→TS F→{R:Type}→(Nat→TS F→Option R)→Option R
 | .z,c,s,_,K=>Kv T Γ nv n c s K
 | .r kp,.region _ ops draw,s,_,K=>OL T (cond (Jp 9998 kp) (mark Γ) Γ) nv n kp ops.toList draw (jt kp s) (K 0)
 | .s h k,.seq a b,s,_,K=>KJ h a s λe s'=>match e with | 0=>KJ k b s' K | e=>K e s'
 | .c h k,.cond (.tmp t) a b,s,_,K=>match look s.E t with
  | some (.c (.im (.b x)))=>cond x (KJ h a s K) (KJ k b s K)
  | _=>none
 | .c h k,.cond (.const (.bool x)) a b,s,_,K=>cond x (KJ h a s K) (KJ k b s K)
 | .b h,.block i a,s,_,K=>KJ h a s λe s'=>if Nat.beq e (i+2)then K 0 s' else K e s'
 | .b h,.scope a,s,_,K=>KJ h a s K
 | .u k h,.loop a,s,_,K=>unr (λs _ K=>KJ h a s K) k s K
 | .p h k,.loop a,s,_,K=>cond k.isL (KJ h a s λe s'=>match e with | 0=>KJ k (.loop a) s' K | e=>K e s') none
 | .j dr xs h,c,s,_,K=>
  let Mc:=dr++MR xs
  let kill:=aM s Mc
  (KJ h c (clean s) λe s'=>O9 Γ s Mc s.c kill xs e s').bind λv=>OE (λe ks x=>K e (merge nv Mc kill s ks x)) xs v
 | .l ks dr xs h,.loop a,s,_,K=>
  let Mc:=dr++keysOf ks++MR xs
  let kill:=aM s Mc
  match Lr Γ s Mc s.c kill ks (clean s)with
  | none=>none
  | some t0=>(loop (λt:TLS F ks=>KJ h a (clean (merge nv Mc kill s ks t)) λe s'=>match e with
    | 0=>(match Lr Γ s Mc s.c kill ks s' with | some t'=>some (Sum.inl t') | none=>none)
    | e=>(match O9 Γ s Mc s.c kill xs e s' with | some v=>some (Sum.inr v) | none=>none)) t0).bind λv=>OE (λe ks x=>K e (merge nv Mc kill s ks x)) xs v
 | .m x ix ex dr h,.loop a,s,_,K=>match look s.E x with
  | some (.c (.KP id))=>match look s.M id with
   | some (.row t l0)=>match look s.E ix with
    | some (.c (.im (.i .i64 n0)))=>if Nat.blt id s.c&&Nat.blt 0 ex then
      (loop (λq:List (ET F t)×Nat×Int=>KJ h a (clean (LP nv s id ix dr (.K5 t q.1 q.2.1) q.1.length q.2.2)) λe s'=>match e with
       | 0=>(match RZ s.c id ix dr t s' with | some q'=>some (Sum.inl q') | none=>none)
       | e=>if Nat.beq e ex then(match RZ s.c id ix dr t s' with | some q'=>some (Sum.inr q') | none=>none)else none) (l0,0,n0)).bind λv=>
        cond (Nat.ble v.1.length v.2.1) (K ex (LP nv s id ix dr (.KM t v.1) v.1.length v.2.2)) none
     else none
    | _=>none
   | _=>none
  | _=>none
 | .g ks dr h,c,s,_,K=>match yD c with
  | none=>none
  | some q=>if Nat.beq q.i' q.i then ya T Γ nv n (λs _ K=>KJ h q.body s K) q.MX.toList q.Me.toList q.Nn.toList q.j q.c2 ks (dr++keysOf ks) s K else none
 | _,_,_,_,_=>none
def params:Nat→List (Dat F)→List (Nat×Dat F)
 | _,[]=>[]
 | k,d::l=>(k,d)::params (k+1) l
def ZK(s:TS F):ResultVar→Option (Dat F)
 | .tmp t=>look s.E t
 | .cell a ty=>match T ty with
  | none=>none
  | some ti=>match look s.E a with
   | some (.c (.ptr id off))=>match look s.M id with
    | some (.box cs)=>db ti cs off
    | _=>none
   | _=>none
def R7(s:TS F):List ResultVar→Option (List (Dat F))
 | []=>some []
 | r::l=>match ZK T s r with
  | none=>none
  | some d=>match R7 s l with
   | none=>none
   | some ds=>some (d::ds)
def bY(mm:Nat→Option (Jw F)):(ks:List Kd)→List (Dat F)→List Nat→Option (Pk (TL F ks))
 | [],[],[]=>some ⟨(),[],[],[]⟩
 | [.box t ow],[],[b]=>jC mm t (oo ow) (.c (.ptr b 0))
 | .box t ow::l::ks,ds,b::bx=>match jC mm t (oo ow) (.c (.ptr b 0))with
  | none=>none
  | some p=>match bY mm (l::ks) ds bx with
   | none=>none
   | some q=>some ⟨(p.x,q.x),p.os++q.os,p.fz++q.fz,p.bx++q.bx⟩
 | [.row t _],[],[b]=>pO mm t b
 | .row t _::l::ks,ds,b::bx=>match pO mm t b with
  | none=>none
  | some p=>match bY mm (l::ks) ds bx with
   | none=>none
   | some q=>some ⟨(p.x,q.x),p.os++q.os,p.fz++q.fz,p.bx++q.bx⟩
 | [k],[d],[]=>Nl Γ mm k d
 | k::l::ks,d::ds,bx=>match Nl Γ mm k d with
  | none=>none
  | some p=>match bY mm (l::ks) ds bx with
   | none=>none
   | some q=>some ⟨(p.x,q.x),p.os++q.os,p.fz++q.fz,p.bx++q.bx⟩
 | _,_,_=>none
def OB(fn:Func)(ks rs:List Kd)(a:HL F ks)(s:TS F):Option (TL F (rs++ks.filter Kd.KO)):=
 match R7 T s fn.results.toList with
 | none=>none
 | some rd=>match bY Γ (look s.M) (rs++ks.filter Kd.KO) rd (aN ks a 0)with
  | none=>none
  | some p=>if cD (Kh p.os)&&Ny (Kh p.os) p.fz then some p.x else none
noncomputable def TA(fn:Func)(h:Hint)(ks rs:List Kd)(a:HL F ks):Option (TL F (rs++ks.filter Kd.KO)):=
 match fn.body with
 | none=>none
 | some body=>match K6 ks a 0 with
  | (ds,bs,c)=>if zn ks then KJ T Γ nv fn.ntmps h body ⟨params 0 (O_ ks a ds),bs,c,[],[]⟩ λe s=>
   match e with
   | 0 | 1=>OB T Γ fn ks rs a s
   | _=>none
   else none
end
set_option linter.unusedVariables false
set_option linter.unusedSimpArgs false
structure Xp(P:Program)(t:TypeId):Prop where
 a:P.stoodInHeld t=false
 b:P.eqGuardType P.depth t=false
section
variable{F:Fam}
def aat:Value→Bool
 | .agg _=>true
 | _=>false
structure Js(P:Program)(T:TypeId→Option (TI F)):Prop where
 und:∀t i,T t=some i→P.underlying t=some i.desc
 info:∀t i,T t=some i→∃j,P.info? t=some j∧j.size=i.size∧j.bytes=i.bytes∧∃z,j.zero=some z∧z.cells.size=i.size∧i.zero.length=i.size∧
  ∀(w:World)(IV:Nat→Prop)(k:Nat)(d:ND F) (x:Value),i.zero[k]? = some d→z.cells[k]? = some x→Jm w IV d x
 eq:∀t i,T t=some i→i.eq=true→Xp P t
 ty:∀t i tt,T t=some i→i.ty=some tt→Jf F tt=i.size
 zag:∀t i j z,T t=some i→P.info? t=some j→j.zero=some z→aat z=dj i.desc
section inv
variable{P:Program}{g:G}{w:World}{v:Value}
theorem bG{k:IntKind}{n:Int}(h:Jr (F:=F) P g w (.c (.im (.i k n))) v):v = .int k n:=by cases h with | c h=>cases h with | im h=>cases h;rfl
theorem mU{x:Bool}(h:Jr (F:=F) P g w (.c (.im (.b x))) v):v = .bool x:=by cases h with | c h=>cases h with | im h=>cases h;rfl
theorem sM{l:List UInt8}(h:Jr (F:=F) P g w (.c (.im (.s l))) v):v = .string ⟨⟨l⟩⟩:=by cases h with | c h=>cases h with | im h=>cases h;rfl
theorem mg(h:Jr (F:=F) P g w (.c (.im .nl)) v):∃p,v = .slice p 0 0:=by cases h with | c h=>cases h with | im h=>cases h;exact⟨_,rfl⟩
theorem FN{x:Value}(h:Jr (F:=F) P g w (.c (.im (.v x))) v):v=x:=by cases h with | c h=>cases h with | im h=>cases h;rfl
theorem G1{cs:List (ND F)}(h:Jr (F:=F) P g w (.c (.PS cs)) v):∃(b o b2 o2:Nat)(f:Nat→Value),g.IV b∧w.cell? ⟨b,o,none⟩=some (.pointer (some ⟨b2,o2,none⟩))∧g.IV b2∧v = .pointer (some ⟨b,o,none⟩)∧(∀k d,cs[k]? = some d→w.cell? ⟨b2,o2+k,none⟩=some (f k))∧∀k d,cs[k]? = some d→Jm w g.IV d (f k):=by
 cases h with | c h=>cases h with | PS _ b o b2 o2 f hb hv hb2 hc hr=>exact⟨b,o,b2,o2,f,hb,hv,hb2,rfl,hc,hr⟩
theorem wd{id n:Nat}(h:Jr (F:=F) P g w (.c (.OX id n)) v):∃b c,g.ids id=some (some (b,c))∧n≤maxLen∧v = .slice (some ⟨b,0,none⟩) n n:=by
 cases h with | c h=>cases h with | OX h hm=>exact⟨_,_,h,hm,rfl⟩
theorem bo{id off:Nat}(h:Jr (F:=F) P g w (.c (.ptr id off)) v):∃b c,g.ids id=some (some (b,c))∧v = .pointer (some ⟨b,off,none⟩):=by
 cases h with | c h=>cases h with | ptr h=>exact⟨_,_,h,rfl⟩
theorem eo{id sz i off:Nat}(h:Jr (F:=F) P g w (.c (.Ma id sz i off)) v):∃b c,g.ids id=some (some (b,c))∧v = .pointer (some ⟨b,i*sz+off,none⟩):=by
 cases h with | c h=>cases h with | Ma h=>exact⟨_,_,h,rfl⟩
theorem GT{id sz i off:Nat}(h:Jr (F:=F) P g w (.c (.OV id sz i off)) v):∃(b c:Nat)(n:Nat×NS)(pl:Option (Nat×Nat×Nat)),g.ids id=some (some (b,c,n))∧n.2[i*sz+off]? = some pl∧Lf (KR pl) v:=by
 cases h with | c h=>cases h with | OV h h1 h2=>exact⟨_,_,_,_,h,h1,h2⟩
theorem Ab{id sz i off sz' j off':Nat}(h:Jr (F:=F) P g w (.c (.Pn id sz i off sz' j off')) v):∃(b c:Nat)(n:Nat×NS)(b':Nat)(c':Nat×Nat),g.ids id=some (some (b,c,n))∧n.2[i*sz+off]? = some (some (b',c'))∧v = .pointer (some ⟨b',j*sz'+off',none⟩):=by
 cases h with | c h=>cases h with | Pn h h1=>exact⟨_,_,_,_,_,h,h1,rfl⟩
theorem pU{cs:List (ND F)}{off:Nat}(h:Jr P g w (.c (.pt cs off)) v):∃(b o:Nat)(f:Nat→Value),g.IV b∧v = .pointer (some ⟨b,o+off,none⟩)∧
  (∀k d,cs[k]? = some d→w.cell? ⟨b,o+k,none⟩=some (f k))∧(∀k d,cs[k]? = some d→Jm w g.IV d (f k)):=by
 cases h with | c h=>cases h with | pt _ _ b o f hb hc hr=>exact⟨b,o,f,hb,rfl,hc,hr⟩
theorem lE{cs:List (Ko F)}(h:Jr P g w (.agg cs) v):∃vs:List Value,v = .agg ⟨vs⟩∧vs.length=cs.length∧∀(k:Nat)(c:Ko F)(x:Value),cs[k]? = some c→vs[k]? = some x→Jz g w c x:=by
 cases h with | agg hl h=>exact⟨_,rfl,hl,h⟩
theorem Ac{ds:List (Dat F)}(h:Jr P g w (.MC ds) v):∃vs:List Value,v = .tuple ⟨vs⟩∧vs.length=ds.length∧∀(k:Nat)(d:Dat F)(x:Value),ds[k]? = some d→vs[k]? = some x→Jr P g w d x:=by
 cases h with | MC hl h=>exact⟨_,rfl,hl,h⟩
theorem aV{x:Ko F}(h:Jr P g w (.c x) v):Jz g w x v:=by cases h with | c h=>exact h
theorem sm{d:ND F}(h:Jr P g w (.c (.im d)) v):Jm w g.IV d v:=by cases h with | c h=>cases h with | im h=>exact h
theorem sk{t:Ty}{l:List (ET F t)}(h:Jm w g.IV (.sl t l) v):(l = []∧∃p,v = .slice p 0 0)∨
  ∃(b o cap:Nat)(f:Nat→Value),g.IV b∧l.length≤cap∧cap≤maxLen∧v = .slice (some ⟨b,o,none⟩) l.length cap∧
   (∀k d,(cells F t l)[k]? = some d→w.cell? ⟨b,o+k,none⟩=some (f k))∧(∀k d,(cells F t l)[k]? = some d→Jm w g.IV d (f k)):=by
 cases h with
 | sl0 t p=>exact .inl ⟨rfl,p,rfl⟩
 | sl t l b o cap f hb hcap hm hc hr=>exact .inr ⟨b,o,cap,f,hb,hcap,hm,rfl,hc,hr⟩
theorem LH(k:IntKind)(n:Int):Jr (F:=F) P g w (.c (.im (.i k n))) (.int k n):=.c (.im (.i k n))
theorem RV(x:Bool):Jr (F:=F) P g w (.c (.im (.b x))) (.bool x):=.c (.im (.b x))
theorem S_(l:List UInt8):Jr (F:=F) P g w (.c (.im (.s l))) (.string ⟨⟨l⟩⟩):=.c (.im (.s l))
theorem bX{d:ND F}{x:Value}(h:Jz g w (.im d) x):Jm w g.IV d x:=by cases h;assumption
end inv
theorem wN(g:G)(w:World)(v:Value):Jz (F:=F) g w (Uf v) v:=by
 unfold Uf;split
 ·exact .im (.i _ _)
 ·exact .im (.b _)
 ·exact .im (.s _)
 ·exact .im (.nl _)
 ·exact .any
 ·exact .any
 ·refine .im (.v _ ?_)
  cases v<;>simp_all [Value.oneCell']
theorem DF(P:Program)(g:G)(w:World)(v:Value):Jr (F:=F) P g w (VQ v) v:=by
 unfold VQ;split
 ·rename_i cs
  refine .agg (by simp) ?_
  intro k c x h1 h2;rw[MN]at h1;rw[h2]at h1;simp only[SN,KV]at h1;subst h1;exact wN g w x
 ·exact .c (wN g w v)
theorem GB{P:Program}{g:G}{w:World}{e:Nat→Option (Dat F)}{a:Act}(h:∀x d,e x=some d→Jr P g w d (a.tmps.getD x undef))(x:Operand) :
  Jr P g w (Zk e x) (a.eval x):=by
 cases x with
 | tmp t=>
  simp only[Zk]
  cases ht:e t with
  | none=>exact .c .any
  | some d=>exact h t d ht
 | const v=>exact DF P g w v
 | global gl=>exact .c (.im (.v _ rfl))
 | func f=>exact .c (.im (.v _ rfl))
theorem FG{P:Program}{g:G}{w:World}{e:Nat→Option (Dat F)}{a:Act}(an3:∀x d,e x=some d→Jr P g w d (a.tmps.getD x undef))(l:List Operand):Kl P g w (l.map (Zk e)) (l.map a.eval):=by
 refine⟨by simp,?_⟩
 intro k d x h1 h2;rw[MN,RF]at h1 h2;obtain⟨p,hp,rfl⟩:=h1;obtain⟨q,hq,rfl⟩:=h2;rw[hp]at hq;cases hq;exact GB an3 p
def M0(P:Program)(own:Ow)(m:Nat→Option (Jw F))(u:Nat→Bool)(g:G)(w:World)(o:Oper)(a:Act)(c:Nat)(r:Oq F):Prop:=
 ∀(next:Act→World→Prop)(Q:Exit→Act→World→Prop),
  (∀v w' g',Jr P g' w' r.val v→Je own g' w' (Kc m r.mw)→Stp m g w g' w'→(∀id,u id=false→(id<c∨c+r.nu≤id)→g'.ids id=none)→next (a.put o.dst v) w')→
  o.wp P a w next Q
def M6(mm m:Nat→Option (Jw F)):Prop:=∀id B,mm id=some B→m id=some B
theorem Lb.trans{x y:Nat}{p q r:Option Pl}(h:Lb x p q)(k:Lb y q r):Lb x p r:=by
 rcases h with⟨b,c,n,n',rfl,rfl,h3,h3'⟩ | ⟨rfl,rfl,h3⟩
 ·rcases k with⟨b',c',m,m',h4,rfl,h6,_⟩ | ⟨h4,_⟩
  ·cases h4;exact .inl ⟨_,_,_,_,rfl,rfl,h6.trans h3,h3'⟩
  ·cases h4
 ·rcases k with⟨b',c',m,m',h4,_⟩ | ⟨_,rfl,_⟩
  ·cases h4
  ·exact .inr ⟨rfl,rfl,h3⟩
section
variable{F:Fam}{own:Ow}{g:G}{w:World}{m mm:Nat→Option (Jw F)}
theorem rT(hm:Je own g w m)(hle:M6 mm m):∀(n id:Nat),OM mm n id=id∨∃k,Lb k (g.ids id) (g.ids (OM mm n id))
 | 0,id=>.inl rfl
 | n+1,id=>by
  simp only[OM];split
  ·rename_i k x hk;have h1:Lb x (g.ids id) (g.ids k):=hm.ok id _ (hle _ _ hk);rcases rT hm hle n k with h | ⟨_,h⟩
   ·rw[h];exact .inr ⟨_,h1⟩
   ·exact .inr ⟨_,h1.trans h⟩
  ·exact .inl rfl
theorem ro(hm:Je own g w m)(hle:M6 mm m)(id:Nat):Rm mm id=id∨∃k,Lb k (g.ids id) (g.ids (Rm mm id)):=by
 unfold Rm;split
 ·rename_i k x hk;have h1:Lb x (g.ids id) (g.ids k):=hm.ok id _ (hle _ _ hk);rcases rT hm hle 8 k with h | ⟨_,h⟩
  ·rw[h];exact .inr ⟨_,h1⟩
  ·exact .inr ⟨_,h1.trans h⟩
 ·exact .inl rfl
theorem ub(hm:Je own g w m)(hle:M6 mm m){x:Ko F}{v:Value}(h:Jz g w x v):Jz g w (SX mm x) v:=by
 cases x with
 | KP id=>
  simp only[SX];rcases ro hm hle id with e | ⟨_,hs⟩
  ·rw[e];exact h
  ·rcases hs with⟨b,c,n,n',h1,h2,h3,_⟩ | ⟨h1,h2,_⟩
   ·cases h with
    | ML p hi=>rw[h1]at hi;cases hi
    | KP hi hl hm=>rw[h1]at hi;cases hi;rw[← h3]at hl ⊢;exact .KP h2 hl hm
   ·cases h with
    | ML p hi=>exact .ML p h2
    | KP hi hl hm=>rw[h1]at hi;cases hi
 | Ma id sz i off=>
  simp only[SX];rcases ro hm hle id with e | ⟨_,hs⟩
  ·rw[e];exact h
  ·rcases hs with⟨b,c,n,n',h1,h2,h3,_⟩ | ⟨h1,h2,_⟩
   ·cases h with | Ma hi=>rw[h1]at hi;cases hi;exact .Ma h2
   ·cases h with | Ma hi=>rw[h1]at hi;cases hi
 | Nr id sz off len=>
  simp only[SX];rcases ro hm hle id with e | ⟨_,hs⟩
  ·rw[e];exact h
  ·rcases hs with⟨b,c,n,n',h1,h2,h3,_⟩ | ⟨h1,h2,_⟩
   ·cases h with
    | OO p hi=>rw[h1]at hi;cases hi
    | Nr hi hl hn ho hm=>rw[h1]at hi;cases hi;exact .Nr h2 (by rw[h3];exact hl) (by rw[h3];exact hn) ho hm
   ·cases h with
    | OO p hi=>exact .OO p h2
    | Nr hi hl hn ho hm=>rw[h1]at hi;cases hi
 | _=>exact h
theorem EZ{P:Program}(hm:Je own g w m)(hle:M6 mm m){d:Dat F}{v:Value}(h:Jr P g w d v):Jr P g w (Xa mm d) v:=by
 cases h with
 | c h=>exact .c (ub hm hle h)
 | agg h1 h2=>exact .agg h1 h2
 | MC h1 h2=>exact .MC h1 h2
 | NG h1 h2 h3 h4=>exact .NG h1 h2 h3 h4
 | fv h=>exact .fv h
 | gh h=>exact .gh h
theorem C6{P:Program}(hm:Je own g w m)(hle:M6 mm m){ds:List (Dat F)}{vs:List Value}(h:Kl P g w ds vs):Kl P g w (ds.map (Xa mm)) vs:=by
 refine⟨by rw[Ox];exact h.1,λk d x a b=>?_⟩
 rw[MN]at a;obtain⟨c0,h0,rfl⟩:=RF.1 a;exact EZ hm hle (h.2 k c0 x h0 b)
end
def Does(P:Program)(o:Oper)(vals:List (Dat F))(mm:Nat→Option (Jw F))(c:Nat)(res:Oq F):Prop:=
 ∀(own:Ow)(g:G)(w:World)(a:Act) (m:Nat→Option (Jw F)) (u:Nat→Bool),M6 mm m→Je own g w m→(∀id,u id=false→g.ids id=none)→
  (∀b,w.heap.size≤b→own.o b)→(∀k,k<res.nu→u (c+k)=false)→Kl P g w vals (o.op.operands.toList.map a.eval)→M0 P own m u g w o a c res
def Ra(P:Program)(o:Oper)(vals:List (Dat F))(mm:Nat→Option (Jw F))(d:Dat F):Prop:=
 ∀(own:Ow)(g:G)(w:World)(a:Act) (m:Nat→Option (Jw F)),M6 mm m→Je own g w m→Kl P g w vals (o.op.operands.toList.map a.eval)→
  ∃v,(execOp a.eval o).run P w = .ok (.value v) w∧Jr P g w d v
theorem Ra.does{P:Program}{o:Oper}{vals:List (Dat F)}{mm:Nat→Option (Jw F)}{d:Dat F}(h:Ra P o vals mm d)(c:Nat):Does P o vals mm c { val:=d }:=by intro own g w a m u hle hm hd _ _ hr;obtain⟨v,hrun,hv⟩:=h own g w a m hle hm hr;intro next Q hn;unfold Oper.wp;rw[hrun];exact hn v w g hv hm (.refl _ _ _) (λid hu _=>hd id hu)
def Rule(P:Program)(o:Oper)(vals:List (Dat F))(mm:Nat→Option (Jw F))(c:Nat){R:Type}(K:Oq F→Option R)(x:Option R):Prop:=
 ∀r,x=some r→∃res,K res=some r∧Does P o vals mm c res
section ops
variable{P:Program}{T:TypeId→Option (TI F)}{o:Oper}{vals:List (Dat F)}{mm:Nat→Option (Jw F)}{c:Nat}{R:Type}{K:Oq F→Option R}
theorem ah:Rule P o vals mm c K none:=λ_ h=>by cases h
theorem ao{d:Dat F}(h:Ra P o vals mm d):Rule P o vals mm c K (K { val:=d }):=λ_ hr=>⟨_,hr,h.does c⟩
theorem aD{α : Type}{x:Option α}{f:α→Option R}(h:∀a,x=some a→Rule P o vals mm c K (f a)):Rule P o vals mm c K (x.bind f):=by intro r hr;rw[UL]at hr;obtain⟨a,ha,hr⟩:=hr;exact h a ha r hr
theorem au{p:Prop}[Decidable p]{x y:Option R}(h1:p→Rule P o vals mm c K x)(h2:¬ p→Rule P o vals mm c K y):Rule P o vals mm c K (if p then x else y):=by
 split
 ·exact h1 (by assumption)
 ·exact h2 (by assumption)
theorem KT{g:G}{w:World}{d:Dat F}{v:Value}(h:Kl P g w [d] [v]):Jr P g w d v:=h.2 0 d v rfl rfl
theorem KG{g:G}{w:World}{d e:Dat F}{v x:Value}(h:Kl P g w [d,e] [v,x]):Jr P g w d v∧Jr P g w e x:=⟨h.2 0 d v rfl rfl,h.2 1 e x rfl rfl⟩
theorem aP{g:G}{w:World}{d:Dat F}{ds:List (Dat F)}{v:Value}{vs:List Value}:Kl P g w (d::ds) (v::vs)↔Jr P g w d v∧Kl P g w ds vs:=by
 constructor
 ·intro h
  refine⟨h.2 0 d v rfl rfl,by simpa using h.1,λk e x h1 h2=>h.2 (k+1) e x (by simpa using h1) (by simpa using h2)⟩
 ·rintro⟨h1,h2,h3⟩
  refine⟨by simp[h2],λk e x a b=>?_⟩
  cases k with
  | zero=>simp at a b;subst a;subst b;exact h1
  | succ k=>exact h3 k e x (by simpa using a) (by simpa using b)
theorem xb{x:Operand}{d:Dat F}(ho:o.op = .move x∨o.op = .assign x)(hv:vals = [d]):Rule P o vals mm c K (K { val:=d }):=by
 subst hv;refine ao ?_;intro own g w a m _ _ hr
 refine⟨a.eval x,by rcases ho with ho | ho<;>simp[execOp,ho],?_⟩
 rcases ho with ho | ho<;>(rw[ho]at hr;exact KT hr)
theorem Dq{x y z:Operand}(ho:o.op = .pick x y z):Rule P o vals mm c K (Vr vals K):=by
 unfold Vr;split
 ·rename_i b d e
  have key:∀b':Bool,b=b'→Ra P o [.c (.im (.b b)),d,e] mm (if b' then d else e):=by
   rintro b' rfl own g w a m _ _ hr;rw[ho]at hr;simp only[Op.operands,KZ,Lx,aP]at hr
   refine⟨if b then a.eval y else a.eval z,by simp[execOp,ho,mU hr.1,asBool],?_⟩
   cases b
   ·exact hr.2.2.1
   ·exact hr.2.1
  cases b
  ·exact ao (key false rfl)
  ·exact ao (key true rfl)
 ·exact ah
theorem Ge{op:UnOp}{t:TypeId}{x:Operand}(ho:o.op = .unOp op t x):Rule P o vals mm c K (tUn vals K op):=by
 unfold tUn;split
 ·refine ao ?_;intro own g w a m _ _ hr;rw[ho]at hr;have hx:=bG (KT hr)
  exact⟨_,by simp[execOp,ho,hx,Op.unary,Op.intArith],LH _ _⟩
 ·refine ao ?_;intro own g w a m _ _ hr;rw[ho]at hr;have hx:=mU (KT hr)
  exact⟨_,by simp[execOp,ho,hx,Op.unary],RV _⟩
 ·exact ah
theorem FJ{x:Int}{u:Unit}(h:nz x=some u):x≠0:=by
 unfold nz at h;split at h
 ·assumption
 ·cases h
theorem FQ{x:Int}{u:Unit}(h:nn x=some u):0≤x:=by
 unfold nn at h;split at h
 ·assumption
 ·cases h
theorem zX{op:BinOp}{xT yT:TypeId}{x y:Operand}{k:IntKind}{n m:Int}(ho:o.op = .binOp op xT x y yT)(hv:vals = [.c (.im (.i k n)),.c (.im (.i k m))]):Rule P o vals mm c K (vV K op k n m y):=by
 subst hv
 have key:∀(d:ND F)(v:Value),(∀w:World,(binOp op xT (.int k n) (.int k m)).run P w = .ok v w)→(∀(w:World)(g:G),Jr (F:=F) P g w (.c (.im d)) v)→Rule P o [.c (.im (.i k n)),.c (.im (.i k m))] mm c K (K { val:=.c (.im d) }):=by
  intro d v hrun hrep;refine ao ?_;intro own g w a m' _ _ hr;rw[ho]at hr;simp only[Op.operands,KZ,Lx]at hr;obtain⟨h1,h2⟩:=KG hr
  exact⟨v,by simp only[execOp,ho,bG h1,bG h2,LC,eqGuard_at_int,MI,LV,hrun w],hrep w g⟩
 have lit:Si y=true→∀(a:Act)(w:World)(g:G),Kl (F:=F) P g w [.c (.im (.i k n)),.c (.im (.i k m))] (o.op.operands.toList.map a.eval)→m≠0:=by
  intro hl a w g hr;rw[ho]at hr;simp only[Op.operands,KZ,Lx]at hr;have h2:=bG (KG hr).2;unfold Si at hl;split at hl
  ·simp only[Act.eval,Value.int.injEq]at h2;simp at hl;rw[← h2.2];exact hl
  ·cases hl
 have abZ:∀(d:ND F)(v:Value),Si y=true→(m≠0→∀w:World,(binOp op xT (.int k n) (.int k m)).run P w = .ok v w)→(∀(w:World)(g:G),Jr (F:=F) P g w (.c (.im d)) v)→Rule P o [.c (.im (.i k n)),.c (.im (.i k m))] mm c K (K { val:=.c (.im d) }):=by
  intro d v hl hrun hrep;refine ao ?_;intro own g w a m' _ _ hr;have hm:=lit hl a w g hr;rw[ho]at hr;simp only[Op.operands,KZ,Lx]at hr;obtain⟨h1,h2⟩:=KG hr
  exact⟨v,by simp only[execOp,ho,bG h1,bG h2,LC,eqGuard_at_int,MI,LV,hrun hm w],hrep w g⟩
 cases op<;>simp only[vV]
 case quo=>
  refine au (λhl=>?_) (λ_=>aD λu hu=>?_)
  ·exact abZ _ _ hl (λhm w=>by simp[binOp,Op.intDiv,hm]) (λ_ _=>LH _ _)
  ·exact key _ _ (λw=>by simp[binOp,Op.intDiv,FJ hu]) (λ_ _=>LH _ _)
 case rem=>
  refine au (λhl=>?_) (λ_=>aD λu hu=>?_)
  ·exact abZ _ _ hl (λhm w=>by simp[binOp,Op.intDiv,hm]) (λ_ _=>LH _ _)
  ·exact key _ _ (λw=>by simp[binOp,Op.intDiv,FJ hu]) (λ_ _=>LH _ _)
 case add | sub | mul=>exact key _ _ (λw=>by simp[binOp,Op.intArith]) (λ_ _=>LH _ _)
 case and | or | xor=>exact key _ _ (λw=>by simp only[binOp,ne_eq,not_true_eq_false,if_false];rfl) (λ_ _=>LH _ _)
 all_goals first | exact ah | exact key _ _ (λw=>by simp[binOp,Op.intCmp]) (λ_ _=>RV _)
end ops
end
set_option linter.unusedVariables false
set_option linter.unusedSimpArgs false
section
variable{F:Fam}{P:Program}{T:TypeId→Option (TI F)}{o:Oper}{vals:List (Dat F)}{mm:Nat→Option (Jw F)}{c:Nat}{R:Type}{K:Oq F→Option R}{own:Ow}{g:G}{w:World}{m:Nat→Option (Jw F)}
theorem Ic{l m r:List UInt8}(h:cat l m=some r):(l.length:Int)+m.length≤9223372036854775807∧l++m=r:=by
 unfold cat at h;split at h
 ·rename_i hc;cases h;exact⟨by have:=PX hc;omega,rfl⟩
 ·cases h
theorem zQ{op:BinOp}{xT yT:TypeId}{x y:Operand}{l m:List UInt8}(ho:o.op = .binOp op xT x y yT)(hv:vals = [.c (.im (.s l)),.c (.im (.s m))]):Rule P o vals mm c K (wj K op l m):=by
 subst hv
 have key:∀(d:ND F)(v:Value),(∀w:World,(binOp op xT (.string ⟨⟨l⟩⟩) (.string ⟨⟨m⟩⟩)).run P w = .ok v w)→(∀(w:World)(g:G),Jr (F:=F) P g w (.c (.im d)) v)→Rule P o [.c (.im (.s l)),.c (.im (.s m))] mm c K (K { val:=.c (.im d) }):=by
  intro d v hrun hrep;refine ao ?_;intro own g w a m' _ _ hr;rw[ho]at hr;simp only[Op.operands,KZ,Lx]at hr;obtain⟨h1,h2⟩:=KG hr
  exact⟨v,by simp only[execOp,ho,sM h1,sM h2,LC,eqGuard_at_string,MI,LV,hrun w],hrep w g⟩
 cases op<;>simp only[wj]
 case add=>
  refine aD λr hr=>?_;obtain⟨hm,rfl⟩:=Ic hr
  have e:(⟨⟨l⟩⟩:ByteArray)++⟨⟨m⟩⟩=⟨⟨l++m⟩⟩:=by apply ByteArray.ext;simp
  refine key _ _ (λw=>?_) (λ_ _=>S_ _);have hs:∀l:List UInt8,(⟨⟨l⟩⟩:ByteArray).size=l.length:=λ_=>rfl;simp only[binOp,Op.stringOp,hs,e]
  rw[if_neg (by rw[IntKind.max_i64];omega)]
  rfl
 all_goals first | exact ah | exact key _ _ (λw=>by simp[binOp,Op.stringOp,OA]) (λ_ _=>RV _)
theorem tK{d:Option TypeDesc}{a b:Ko F}{p:Bool}(h:Pf d a b=some p) :
  (∃k0 k n m,d=some (.int k0)∧a = .im (.i k n)∧b = .im (.i k m)∧p=(n == m))∨(∃x y,d=some .bool∧a = .im (.b x)∧b = .im (.b y)∧p=(x == y))∨
  (∃l m,d=some .string∧a = .im (.s l)∧b = .im (.s m)∧p=(l == m)):=by
 unfold Pf at h;split at h
 ·split at h
  ·rename_i hk;subst hk;cases h;exact .inl ⟨_,_,_,_,rfl,rfl,rfl,rfl⟩
  ·cases h
 ·cases h;exact .inr (.inl ⟨_,_,rfl,rfl,rfl,rfl⟩)
 ·cases h;exact .inr (.inr ⟨_,_,rfl,rfl,rfl,rfl⟩)
 ·cases h
theorem iq(hT:Js P T){t:TypeId}{d:TypeDesc}(h:ez T t=some d):P.underlying t=some d:=by
 unfold ez at h;split at h
 ·rename_i ti ht;cases h;exact hT.und _ _ ht
 ·cases h
theorem zL{f:Field}{fs:List Field}{off:Nat}{cs ds:List (Ko F)}{x:Bool}(h:iX T (f::fs) off cs ds=some x) :
  ∃ a b l r p q,cs = a :: l ∧ ds = b :: r ∧ f.name ≠ "_" ∧ f.offset = off ∧ Pf (ez T f.type) a b = some p ∧ iX T fs (off + 1) l r = some q ∧ x = (p && q):=by
 unfold iX at h;split at h
 ·exact absurd (by assumption:f::fs = []) (by simp)
 ·rename_i heq;cases heq;split at h
  ·rename_i hc;simp only[KQ,bne_iff_ne,beq_iff_eq]at hc
   exact⟨_,_,[],[],x,true,rfl,rfl,hc.1,hc.2,h,by simp[iX],by simp⟩
  ·cases h
 ·rename_i heq;cases heq;split at h
  ·rename_i hc;simp only[KQ,bne_iff_ne,beq_iff_eq]at hc;split at h
   ·cases h
   ·rename_i p hp;split at h
    ·cases h
    ·rename_i q hq;cases h;exact⟨_,_,_,_,p,q,rfl,rfl,hc.1,hc.2,hp,hq,rfl⟩
  ·cases h
 ·cases h
theorem sw(hT:Js P T){cs ds:List (Ko F)}{xs ys:List Value}(hx:∀(k:Nat)(c:Ko F)(x:Value),cs[k]? = some c→xs[k]? = some x→Jz g w c x)
  (hy:∀(k:Nat)(c:Ko F)(x:Value),ds[k]? = some c→ys[k]? = some x→Jz g w c x) (hlx:xs.length=cs.length) (hly:ys.length=ds.length) (dp:Nat) :
  ∀(fs:List Field)(off:Nat)(cs' ds':List (Ko F)) (b:Bool),(∀k,cs'[k]? = cs[off+k]?)→(∀k,ds'[k]? = ds[off+k]?)→
   iX T fs off cs' ds'=some b→(Op.eqFields (dp+1) ⟨xs⟩ ⟨ys⟩ fs).run P w = .ok b w:=by
 intro fs
 induction fs with
 | nil=>
  intro off cs' ds' b h1 h2 he;unfold iX at he;split at he
  ·cases he;simp[Op.eqFields]
  ·rename_i heq;cases heq
  ·rename_i heq;cases heq
  ·cases he
 | cons f fs ih=>
  intro off cs' ds' b h1 h2 he;obtain⟨c0,d0,cr,dr,p,q,rfl,rfl,hn,rfl,hp,hq,rfl⟩:=zL he;have ec:=h1 0;have ed:=h2 0;simp only[M4,RS]at ec ed
  have lx:f.offset<xs.length:=by rw[hlx];exact(IS.1 ec.symm).1
  have ly:f.offset<ys.length:=by rw[hly];exact(IS.1 ed.symm).1
  have vx:=hx _ _ _ ec.symm (IR lx);have vy:=hy _ _ _ ed.symm (IR ly)
  have hq':=ih (f.offset+1) cr dr q (λj=>by have:=h1 (j+1);simpa[Pq,XB 1 j]using this) (λj=>by have:=h2 (j+1);simpa[Pq,XB 1 j]using this) hq
  have key:∀(u v:Value),xs[f.offset]=u→ys[f.offset]=v→(isAgg f.type).run P w = .ok false w→(Op.equalIn (dp+1) f.type u v).run P w = .ok p w→(Op.eqFields (dp+1) ⟨xs⟩ ⟨ys⟩ (f::fs)).run P w = .ok (p&&q) w:=by
   intro u v hu hv hag heq
   have px:(part f.type ⟨xs⟩ f.offset).run P w = .ok u w:=by simp[part,hag,lx,hu]
   have py:(part f.type ⟨ys⟩ f.offset).run P w = .ok v w:=by simp[part,hag,ly,hv]
   simp only[Op.eqFields,ne_eq,hn,not_false_eq_true,if_true,LC,px,py,LV,heq];cases p
   ·simp
   ·simpa using hq'
  rcases tK hp with⟨k0,k,n,m',hd,rfl,rfl,rfl⟩ | ⟨x,y,hd,rfl,rfl,rfl⟩ | ⟨l,m',hd,rfl,rfl,rfl⟩
  ·have hk:=iq hT hd
   exact key (.int k n) (.int k m') (by have:=bX vx;generalize xs[f.offset]=z at this ⊢;cases this;rfl) (by have:=bX vy;generalize ys[f.offset]=z at this ⊢;cases this;rfl) (by simp[isAgg,run_underlying hk]) (run_equalIn_int w dp f.type k k0 n m' hk)
  ·have hk:=iq hT hd
   exact key (.bool x) (.bool y) (by have:=bX vx;generalize xs[f.offset]=z at this ⊢;cases this;rfl) (by have:=bX vy;generalize ys[f.offset]=z at this ⊢;cases this;rfl) (by simp[isAgg,run_underlying hk]) (run_equalIn_bool' w dp f.type x y hk)
  ·have hk:=iq hT hd
   exact key (.string ⟨⟨l⟩⟩) (.string ⟨⟨m'⟩⟩) (by have:=bX vx;generalize xs[f.offset]=z at this ⊢;cases this;rfl) (by have:=bX vy;generalize ys[f.offset]=z at this ⊢;cases this;rfl) (by simp[isAgg,run_underlying hk]) (by rw[run_equalIn_string w dp f.type _ _ hk];simp)
theorem zK{f:Field}{cs ds:List (Ko F)}{x:Bool}{n:Nat}(h:Sn T f cs ds=some (x,n)) :
  (∃ti gs,T f.type=some ti∧ti.desc = .struct gs∧ti.size=n∧ti.eq=true∧n≤cs.length∧n≤ds.length∧iX T gs.toList 0 (cs.take n) (ds.take n)=some x)∨
  (∃a l b r,cs=a::l∧ds=b::r∧n=1∧Pf (ez T f.type) a b=some x):=by
 unfold Sn at h;split at h
 ·rename_i gs n' _ _ _ ht;split at h
  ·rename_i hc;simp only[KQ,Wy]at hc;split at h
   ·rename_i y hy;cases h;exact .inl ⟨_,gs,ht,rfl,rfl,rfl,hc.1,hc.2,hy⟩
   ·cases h
  ·cases h
 ·rename_i ti _ ht;split at h
  ·split at h
   ·rename_i y hy;cases h;refine .inr ⟨_,_,_,_,rfl,rfl,rfl,?_⟩;unfold ez;rw[ht];exact hy
   ·cases h
  ·cases h
 ·cases h
theorem yL{f:Field}{fs:List Field}{off:Nat}{cs ds:List (Ko F)}{x:Bool}(h:kV T (f::fs) off cs ds=some x) :
  ∃ p n q,f.name ≠ "_" ∧ f.offset = off ∧ Sn T f cs ds = some (p,n) ∧ kV T fs (off + n) (cs.drop n) (ds.drop n) = some q ∧ x = (p && q):=by
 unfold kV at h;split at h
 ·exact absurd (by assumption:f::fs = []) (by simp)
 ·rename_i heq;cases heq;split at h
  ·rename_i hc;simp only[KQ,bne_iff_ne,beq_iff_eq]at hc;split at h
   ·rename_i p n hp;split at h
    ·rename_i hl;cases h
     refine⟨x,n,true,hc.1,hc.2,hp,?_,by simp⟩
     rw[← hl.1,QeE,hl.1,← hl.2,QeE];rfl
    ·cases h
   ·cases h
  ·cases h
 ·rename_i heq;cases heq;split at h
  ·rename_i hc;simp only[KQ,bne_iff_ne,beq_iff_eq]at hc;split at h
   ·rename_i p n hp;split at h
    ·rename_i q hq;cases h;exact⟨p,n,q,hc.1,hc.2,hp,hq,rfl⟩
    ·cases h
   ·cases h
  ·cases h
 ·cases h
theorem xq(hT:Js P T){cs ds:List (Ko F)}{xs ys:List Value}(hx:∀(k:Nat)(c:Ko F)(x:Value),cs[k]? = some c→xs[k]? = some x→Jz g w c x)
  (hy:∀(k:Nat)(c:Ko F)(x:Value),ds[k]? = some c→ys[k]? = some x→Jz g w c x) (hlx:xs.length=cs.length) (hly:ys.length=ds.length) (dp:Nat) :
  ∀(fs:List Field)(off:Nat)(cs' ds':List (Ko F)) (b:Bool),(∀k,cs'[k]? = cs[off+k]?)→(∀k,ds'[k]? = ds[off+k]?)→
   kV T fs off cs' ds'=some b→(Op.eqFields (dp+2) ⟨xs⟩ ⟨ys⟩ fs).run P w = .ok b w:=by
 intro fs
 induction fs with
 | nil=>
  intro off cs' ds' b h1 h2 he;unfold kV at he;split at he
  ·cases he;simp[Op.eqFields]
  ·rename_i heq;cases heq
  ·rename_i heq;cases heq
  ·cases he
 | cons f fs ih=>
  intro off cs' ds' b h1 h2 he;obtain⟨p,n,q,hn,rfl,hp,hq,rfl⟩:=yL he
  have hq':=ih (f.offset+n) _ _ q (λj=>by rw[Ov,h1,Pq]) (λj=>by rw[Ov,h2,Pq]) hq
  have key:∀(u v:Value),(part f.type ⟨xs⟩ f.offset).run P w = .ok u w→(part f.type ⟨ys⟩ f.offset).run P w = .ok v w→(Op.equalIn (dp+2) f.type u v).run P w = .ok p w→(Op.eqFields (dp+2) ⟨xs⟩ ⟨ys⟩ (f::fs)).run P w = .ok (p&&q) w:=by
   intro u v px py heq;simp only[Op.eqFields,ne_eq,hn,not_false_eq_true,if_true,LC,px,py,LV,heq];cases p
   ·simp
   ·simpa using hq'
  rcases zK hp with⟨ti,gs,ht,hd,rfl,he,lc,ld,hc⟩ | ⟨c0,cr,d0,dr,rfl,rfl,rfl,hp'⟩
  ·have hu:=hT.und _ _ ht;rw[hd]at hu;obtain⟨j,hj,hsz,_⟩:=hT.info _ _ ht
   have hag:(isAgg f.type).run P w = .ok true w:=by simp[isAgg,run_underlying hu]
   have hso:(Go.sizeOf f.type).run P w = .ok ti.size w:=by rw[← hsz];simp[Go.sizeOf,typeInfo,hj]
   have sub:∀{zs:List Value}{es es':List (Ko F)},(∀k,es'[k]? = es[f.offset+k]?)→zs.length=es.length→ti.size≤es'.length→(∀(k:Nat)(c:Ko F)(x:Value),es[k]? = some c→zs[k]? = some x→Jz g w c x)→
     ((zs.take (f.offset+ti.size)).drop f.offset).length=(es'.take ti.size).length∧(∀(k:Nat)(c:Ko F)(x:Value),(es'.take ti.size)[k]? = some c→((zs.take (f.offset+ti.size)).drop f.offset)[k]? = some x→Jz g w c x):=by
    intro zs es es' h hl hle hr
    have hlt:f.offset+ti.size≤es.length∨ti.size=0:=by
     rcases Nat.eq_zero_or_pos ti.size with h0 | h0
     ·exact .inr h0
     ·have:=h (ti.size - 1)
      rw[IR (by omega)]at this
      have:=(IS.1 this.symm).1
      exact .inl (by omega)
    refine⟨by rw[Na,Ld,Ld,hl];omega,?_⟩
    intro k c x hc hx;rw[MO]at hc;split at hc
    ·rw[Ov,MO]at hx;split at hx
     ·exact hr _ _ _ (by rw[← h];exact hc) hx
     ·cases hx
    ·cases hc
   obtain⟨lx,rx⟩:=sub h1 hlx lc hx;obtain⟨ly,ry⟩:=sub h2 hly ld hy
   refine key (.agg ⟨(xs.take (f.offset+ti.size)).drop f.offset⟩) (.agg ⟨(ys.take (f.offset+ti.size)).drop f.offset⟩) (by simp[part,hag,hso,List.take_drop]) (by simp[part,hag,hso,List.take_drop]) ?_
   have hfs:P.fieldsOf f.type=gs:=by simp only[Program.fieldsOf];rw[hu]
   rw[run_equalIn_struct w (dp+1) f.type _ _ (by rw[hfs];exact hu) (hT.eq _ _ ht he).a,hfs]
   exact sw hT rx ry lx ly dp gs.toList 0 _ _ p (by simp) (by simp) hc
  ·have ec:=h1 0;have ed:=h2 0;simp only[M4,RS]at ec ed
   have lx:f.offset<xs.length:=by rw[hlx];exact(IS.1 ec.symm).1
   have ly:f.offset<ys.length:=by rw[hly];exact(IS.1 ed.symm).1
   have vx:=hx _ _ _ ec.symm (IR lx);have vy:=hy _ _ _ ed.symm (IR ly)
   have key':∀(u v:Value),xs[f.offset]=u→ys[f.offset]=v→(isAgg f.type).run P w = .ok false w→(Op.equalIn (dp+2) f.type u v).run P w = .ok p w→(Op.eqFields (dp+2) ⟨xs⟩ ⟨ys⟩ (f::fs)).run P w = .ok (p&&q) w:=by
    intro u v hu hv hag heq
    exact key u v (by simp[part,hag,lx,hu]) (by simp[part,hag,ly,hv]) heq
   clear hp;rcases tK hp' with⟨k0,k,n,m',hd,rfl,rfl,rfl⟩ | ⟨x,y,hd,rfl,rfl,rfl⟩ | ⟨l,m',hd,rfl,rfl,rfl⟩
   ·have hk:=iq hT hd
    exact key' (.int k n) (.int k m') (by have:=bX vx;generalize xs[f.offset]=z at this ⊢;cases this;rfl) (by have:=bX vy;generalize ys[f.offset]=z at this ⊢;cases this;rfl) (by simp[isAgg,run_underlying hk]) (run_equalIn_int w (dp+1) f.type k k0 n m' hk)
   ·have hk:=iq hT hd
    exact key' (.bool x) (.bool y) (by have:=bX vx;generalize xs[f.offset]=z at this ⊢;cases this;rfl) (by have:=bX vy;generalize ys[f.offset]=z at this ⊢;cases this;rfl) (by simp[isAgg,run_underlying hk]) (run_equalIn_bool' w (dp+1) f.type x y hk)
   ·have hk:=iq hT hd
    exact key' (.string ⟨⟨l⟩⟩) (.string ⟨⟨m'⟩⟩) (by have:=bX vx;generalize xs[f.offset]=z at this ⊢;cases this;rfl) (by have:=bX vy;generalize ys[f.offset]=z at this ⊢;cases this;rfl) (by simp[isAgg,run_underlying hk]) (by rw[run_equalIn_string w (dp+1) f.type _ _ hk];simp)
theorem rO(hT:Js P T){cs ds:List (Ko F)}{xs ys:List Value}{t:TypeId}{fs:Array Field}{i:TI F}(ht:T t=some i)(hi:i.desc = .struct fs)(he:Xp P t){b:Bool}(hb:Ue T fs.toList cs ds=some b)
  (hx:xs.length=cs.length∧∀(k:Nat)(c:Ko F)(x:Value),cs[k]? = some c→xs[k]? = some x→Jz g w c x)
  (hy:ys.length=ds.length∧∀(k:Nat)(c:Ko F)(x:Value),ds[k]? = some c→ys[k]? = some x→Jz g w c x) :
  (Op.equalIn 10000 t (.agg ⟨xs⟩) (.agg ⟨ys⟩)).run P w = .ok b w:=by
 have hu:=hT.und _ _ ht;rw[hi]at hu
 have hfs:P.fieldsOf t=fs:=by simp only[Program.fieldsOf];rw[hu]
 rw[run_equalIn_struct w 9999 t ⟨xs⟩ ⟨ys⟩ (by rw[hfs];exact hu) he.a,hfs]
 unfold Ue at hb;split at hb
 ·rename_i b' hb';cases hb
  exact sw hT hx.2 hy.2 hx.1 hy.1 9998 fs.toList 0 cs ds b (by simp) (by simp) hb'
 ·exact xq hT hx.2 hy.2 hx.1 hy.1 9997 fs.toList 0 cs ds b (by simp) (by simp) hb
theorem zH(d:Nat){t e:TypeId}(a:Addr)(l c:Nat)(w:World)(h:P.underlying t=some (.slice e)):(Op.equalIn (d+1) t (.slice (some a) l c) (.slice none 0 0)).run P w = .ok false w:=by simp[Op.equalIn,run_underlying h]
theorem E4(hT:Js P T){op:BinOp}{xT yT:TypeId}{x y:Operand}(ho:o.op = .binOp op xT x y yT):Rule P o vals mm c K (ZH T vals K op xT y):=by
 unfold ZH;split
 ·rename_i k n k' m'
  have sh:∀(d:ND F)(v:Value),(0≤m'→∀w:World,(do eqGuard op xT x y (.int k n) (.int k' m');binOp op xT (.int k n) (.int k' m'):Sem Value).run P w = .ok v w)→(∀(w:World)(g:G),Jr (F:=F) P g w (.c (.im d)) v)→
    (0≤m'∨TV y=true)→Rule P o [.c (.im (.i k n)),.c (.im (.i k' m'))] mm c K (K { val:=.c (.im d) }):=by
   intro d v hrun hrep hm;refine ao ?_;intro own g w a m _ _ hr;rw[ho]at hr;simp only[Op.operands,KZ,Lx]at hr;obtain⟨h1,h2⟩:=KG hr;have e2:=bG h2
   have hm':0≤m':=by
    rcases hm with hm | hm
    ·exact hm
    ·unfold TV at hm;split at hm
     ·simp only[Act.eval,Value.int.injEq]at e2;rw[← e2.2];simpa using hm
     ·cases hm
   refine⟨v,?_,hrep w g⟩;have:=hrun hm' w;simp only[execOp,ho,bG h1,e2];rw[LC,this];rfl
  split
  ·refine au (λhl=>sh _ _ (λhm w=>?_) (λ_ _=>LH _ _) (.inr hl)) (λ_=>aD λu hu=>sh _ _ (λhm w=>?_) (λ_ _=>LH _ _) (.inl (FQ hu)))
   all_goals (have hm:¬ m'<0:=by omega);simp[binOp,Op.shift,hm,eqGuard_shl]
  ·refine au (λhl=>sh _ _ (λhm w=>?_) (λ_ _=>LH _ _) (.inr hl)) (λ_=>aD λu hu=>sh _ _ (λhm w=>?_) (λ_ _=>LH _ _) (.inl (FQ hu)))
   all_goals (have hm:¬ m'<0:=by omega);simp[binOp,Op.shift,hm,eqGuard_shr]
  ·refine au (λhk=>?_) (λ_=>ah);subst hk;exact zX ho rfl
 ·exact zQ ho rfl
 ·rename_i p q;split
  ·rename_i ht;have hu:=hT.und _ _ ht;refine ao ?_;intro own g w a m _ _ hr;rw[ho]at hr;simp only[Op.operands,KZ,Lx]at hr;obtain⟨h1,h2⟩:=KG hr
   exact⟨_,by simp[execOp,ho,mU h1,mU h2,eqGuard_at_bool,binOp,Op.equal,Op.maxDepth,run_equalIn_bool' w 9999 xT p q hu],RV _⟩
  ·rename_i ht;have hu:=hT.und _ _ ht;refine ao ?_;intro own g w a m _ _ hr;rw[ho]at hr;simp only[Op.operands,KZ,Lx]at hr;obtain⟨h1,h2⟩:=KG hr
   exact⟨_,by simp[execOp,ho,mU h1,mU h2,eqGuard_at_bool,binOp,Op.equal,Op.maxDepth,run_equalIn_bool' w 9999 xT p q hu],RV _⟩
  ·exact ah
 ·rename_i cs ds;split
  ·rename_i ht;split
   ·rename_i b hb;refine ao ?_;intro own g w a m _ _ hr;rw[ho]at hr;simp only[Op.operands,KZ,Lx]at hr;obtain⟨h1,h2⟩:=KG hr;obtain⟨xs,ex,hxs⟩:=lE h1;obtain⟨ys,ey,hys⟩:=lE h2;have he:Xp P xT:=hT.eq _ _ ht rfl;have hr:=rO hT ht rfl he hb hxs hys
    exact⟨_,by simp only[execOp,ho,ex,ey,LC,run_eqGuard_agg w .eql xT x y ⟨xs⟩ ⟨ys⟩ he.b,LV,run_eql_struct,hr,MI],RV _⟩
   ·exact ah
  ·rename_i ht;split
   ·rename_i b hb;refine ao ?_;intro own g w a m _ _ hr;rw[ho]at hr;simp only[Op.operands,KZ,Lx]at hr;obtain⟨h1,h2⟩:=KG hr;obtain⟨xs,ex,hxs⟩:=lE h1;obtain⟨ys,ey,hys⟩:=lE h2;have he:Xp P xT:=hT.eq _ _ ht rfl;have hr:=rO hT ht rfl he hb hxs hys
    exact⟨_,by simp only[execOp,ho,ex,ey,LC,run_eqGuard_agg w .neq xT x y ⟨xs⟩ ⟨ys⟩ he.b,LV,run_neq_struct,hr,MI],RV _⟩
   ·exact ah
  ·exact ah
 ·rename_i t l
  have nil:∀{op:BinOp}{e:TypeId}{s n bs z eq}(b:Bool),T xT=some ⟨.slice e,s,n,bs,z,eq⟩→(∀w:World,∀(a:Addr)(m c:Nat),l≠[]→(do eqGuard op xT x (.const (.slice none 0 0)) (.slice (some a) m c) (.slice none 0 0);binOp op xT (.slice (some a) m c) (.slice none 0 0):Sem Value).run P w = .ok (.bool b) w)→
    o.op = .binOp op xT x (.const (.slice none 0 0)) yT→Rule P o [.c (.im (.sl t l)),.c (.im .nl)] mm c K (cond l.isEmpty none (kB K b)):=by
   intro op e s n bs z eq b ht hrun ho
   cases hl:l.isEmpty with
   | true=>exact ah
   | false=>
    have hne:l≠[]:=by rintro rfl;cases hl
    refine ao ?_;intro own g w a m _ _ hr;rw[ho]at hr;simp only[Op.operands,KZ,Lx]at hr;obtain⟨h1,h2⟩:=KG hr;have h1':=aV h1;generalize hv:a.eval x=v at h1'
    cases h1' with
    | im h1'=>
     cases h1' with
     | sl0=>exact absurd rfl hne
     | sl _ _ b' o' cap f hb hcap hm hc hr'=>
      refine⟨.bool b,?_,RV _⟩;have:=hrun w ⟨b',o',none⟩ l.length cap hne;simp only[execOp,ho,hv];rw[LC]
      show(Result.andThen ((do eqGuard op xT x (.const (.slice none 0 0)) (.slice (some ⟨b',o',none⟩) l.length cap) (.slice none 0 0);binOp op xT (.slice (some ⟨b',o',none⟩) l.length cap) (.slice none 0 0):Sem Value).run P w) _)=_
      rw[this];rfl
  split
  ·rename_i e s n bs z eq ht;have hu:=hT.und _ _ ht
   exact nil _ ht (λw a m c _=>by simp[eqGuard_at_slice,binOp,show(Op.equal xT (.slice (some a) m c) (.slice none 0 0)).run P w = .ok false w from zH 9999 a m c w hu]) ho
  ·rename_i e s n bs z eq ht;have hu:=hT.und _ _ ht
   exact nil _ ht (λw a m c _=>by simp[eqGuard_at_slice,binOp,show(Op.equal xT (.slice (some a) m c) (.slice none 0 0)).run P w = .ok false w from zH 9999 a m c w hu]) ho
  ·exact ah
 ·exact ah
end
set_option linter.unusedVariables false
set_option linter.unusedSimpArgs false
section
variable{F:Fam}{P:Program}{T:TypeId→Option (TI F)}{o:Oper}{vals:List (Dat F)}{mm:Nat→Option (Jw F)}{c:Nat}{R:Type}{K:Oq F→Option R}{own:Ow}{g:G}{w:World}{m:Nat→Option (Jw F)}
theorem bw(hT:Js P T){t:TypeId}{ti:TI F}(h:T t=some ti)(w:World):(sizeOf t).run P w = .ok ti.size w:=by obtain⟨j,hj,hs,_⟩:=hT.info t ti h;simp[sizeOf,typeInfo,hj,hs]
theorem m7(hT:Js P T){t:TypeId}{ti:TI F}(h:T t=some ti)(w:World):(isAgg t).run P w = .ok (dj ti.desc) w:=by
 simp only[isAgg,LC,run_underlying (hT.und t ti h),LV]
 cases ti.desc<;>rfl
theorem B7(hT:Js P T){s:TypeId}{x:Operand}{fi:Nat}(ho:o.op = .fieldAddr s x fi):Rule P o vals mm c K (yu T vals K s fi):=by
 unfold yu;split
 ·rename_i hs;split
  ·exact ah
  ·rename_i UU aaj;split
   ·exact ah
   ·rename_i ti hti;refine au (λ_=>ah) (λhz=>?_)
    have key:∀(w:World)(a:Act)(b q:Nat),a.eval x = .pointer (some ⟨b,q,none⟩)→(execOp a.eval o).run P w = .ok (.value (.pointer (some ⟨b,q+UU.offset,none⟩))) w:=by intro w a b q e;have hu:=run_underlying (hT.und _ _ hs) w;have hsz:=bw hT hti w;simp[execOp,ho,e,Instr.fieldAt,hu,aaj,Instr.sureAddr,fieldPlace,hsz,hz,Addr.add_lit]
    split
    ·refine ao ?_;intro own g w a m _ _ hr;rw[ho]at hr;obtain⟨b,c,hi,e⟩:=bo (KT hr);exact⟨_,key w a _ _ e,.c (.ptr hi)⟩
    ·refine ao ?_;intro own g w a m _ _ hr;rw[ho]at hr;obtain⟨b,c,hi,e⟩:=eo (KT hr);refine⟨_,key w a _ _ e,?_⟩;rw[Pq];exact .c (.Ma hi)
    ·refine ao ?_;intro own g w a m _ _ hr;rw[ho]at hr;obtain⟨b,q,fn,hb,e,hc,hr⟩:=pU (KT hr);refine⟨_,key w a _ _ e,?_⟩;rw[Pq];exact .c (.pt _ _ b q fn hb hc hr)
    ·refine ao ?_;intro own g w a m _ _ hr;rw[ho]at hr;obtain⟨b,c,n,b',c',hi,hk,e⟩:=Ab (KT hr);refine⟨_,key w a _ _ e,?_⟩;rw[Pq];exact .c (.Pn hi hk)
    ·exact ah
 ·exact ah
theorem z7(hT:Js P T){t:TypeId}{ti:TI F}(ht:T t=some ti){cs:List (Ko F)}{vs:List Value}{off:Nat}{d:Dat F}(h:db ti cs off=some d)
  (hl:vs.length=cs.length) (hr:∀(k:Nat)(c:Ko F)(x:Value),cs[k]? = some c→vs[k]? = some x→Jz g w c x) :
  ∃v,(part t ⟨vs⟩ off).run P w = .ok v w∧Jr P g w d v:=by
 unfold db at h;have ha:=m7 hT ht w;have hs:=bw hT ht w;split at h
 ·rename_i hag;split at h
  ·cases h;refine⟨.agg ⟨(vs.drop off).take ti.size⟩,?_,?_⟩
   ·simp only[part,LC,ha,LV,hag,if_true,hs,MI]
    congr 2
    apply Array.ext';simp[List.extract_eq_take_drop]
   ·refine .agg (by simp[hl]) ?_
    intro k c x h1 h2;rw[MO]at h1 h2;split at h1
    ·rename_i hk;rw[if_pos hk]at h2;rw[Ov]at h1 h2;exact hr _ _ _ h1 h2
    ·cases h1
  ·cases h
 ·rename_i hag;split at h
  ·rename_i c hc;cases h
   have hlt:off<vs.length:=by rw[hl];exact(IS.1 hc).1
   refine⟨vs[off],?_,.c (hr off c _ hc (IR hlt))⟩
   have hag':dj ti.desc=false:=by simpa using hag
   simp only[part,LC,ha,LV,hag',Nb,if_false]
   have:(⟨vs⟩:Array Value)[off]? = some vs[off]:=by simp[hlt]
   rw[this];rfl
  ·cases h
theorem jD{od:Option (Dat F)}(h:∀d,od=some d→Ra P o vals mm d):Rule P o vals mm c K (pK od K):=by
 cases od with
 | some d=>exact ao (h d rfl)
 | none=>exact ah
theorem CY(hT:Js P T){s:TypeId}{x:Operand}{fi:Nat}(ho:o.op = .field s x fi):Rule P o vals mm c K (Vs T vals K s fi):=by
 unfold Vs;split
 ·rename_i hs;split
  ·exact ah
  ·rename_i UU aaj;split
   ·exact ah
   ·rename_i ti hti;refine au (λ_=>jD λd hd=>?_) (λ_=>ah);intro own g w a m _ _ hr;rw[ho]at hr;obtain⟨vs,e,hl,hr⟩:=lE (KT hr);obtain⟨v,hrun,hv⟩:=z7 (P:=P) hT hti hd hl hr
    exact⟨v,by simp only[execOp,ho,LC,Instr.field,run_underlying (hT.und _ _ hs),LV,aaj,e,asAgg,MI,hrun],hv⟩
 ·exact ah
theorem cF(hT:Js P T){t:TypeId}{ti:TI F}(ht:T t=some ti){cs:List (Ko F)}{off b q:Nat}{d:Dat F}(h:db ti cs off=some d)
  (hc:∀k c,cs[k]? = some c→∃x,w.cell? ⟨b,q+k,none⟩=some x∧Jz g w c x) :
  ∃v,(loadVar t ⟨b,q+off,none⟩).run P w = .ok v w∧Jr P g w d v:=by
 unfold db at h;have ha:=m7 hT ht w;have hs:=bw hT ht w;split at h
 ·rename_i hag;split at h
  ·rename_i hle;have hle:=PX hle;cases h
   have hrun:=run_loadCells (P:=P) w ⟨b,q+off,none⟩ ti.size (λj=>(w.cell? ⟨b,q+off+j,none⟩).getD undef) (by
    intro j hj;rw[Addr.add_lit]
    have hlt:off+j<cs.length:=by omega
    obtain⟨x,hx,_⟩:=hc (off+j) _ (IR hlt);rw[← Pq]at hx;rw[hx];rfl)
   refine⟨.agg ⟨(List.range ti.size).map (λj=>(w.cell? ⟨b,q+off+j,none⟩).getD undef)⟩,by simp only[loadVar,LC,ha,LV,hag,if_true,hs,hrun,MI],?_⟩
   refine .agg (by simp;omega) ?_
   intro k c x h1 h2;rw[MO]at h1;split at h1
   ·rename_i hk;rw[Ov]at h1;obtain⟨y,hy,hr⟩:=hc (off+k) c h1;rw[← Pq]at hy;simp only[MN,QeV hk,SN,KV]at h2;rw[hy]at h2;simp only[SQ]at h2;subst h2;exact hr
   ·cases h1
  ·cases h
 ·rename_i hag;split at h
  ·rename_i c hcc;cases h;obtain⟨x,hx,hr⟩:=hc off c hcc
   have hag':dj ti.desc=false:=by simpa using hag
   refine⟨x,?_,.c hr⟩;simp only[loadVar,LC,ha,LV,hag',Nb,if_false,run_load,hx]
  ·cases h
theorem yb{α : Type}{sz:Nat}:∀{es:List (List α)} (_:∀e∈es,e.length=sz) {i k:Nat} {e:List α} {d:α} (_:es[i]? = some e) (_:e[k]? = some d),es.flatten[i*sz+k]? = some d
 | [],_,i,k,e,d,h1,_=>by simp at h1
 | x::es,hsz,0,k,e,d,h1,h2=>by simp only[M4,KV]at h1;subst h1;simp only[U2,Nat.zero_mul,LY];rw[Mv (IS.1 h2).1];exact h2
 | x::es,hsz,i+1,k,e,d,h1,h2=>by
  simp only[WW]at h1
  have hx:x.length=sz:=hsz x (by simp)
  have ih:=yb (es:=es) (λe he=>hsz e (by simp[he])) h1 h2
  simp only[U2]
  rw[Nc (by rw[hx,Rh];omega),hx]
  rw[show(i+1)*sz+k - sz=i*sz+k by rw[Rh];omega]
  exact ih
theorem qQ{α : Type}{sz:Nat}:∀{es:List (List α)} (_:∀e∈es,e.length=sz),es.flatten.length=es.length*sz
 | [],_=>by simp
 | x::es,h=>by
  have hx:x.length=sz:=h x (by simp)
  have ih:=qQ (es:=es) (λe he=>h e (by simp[he]))
  simp only[U2,IT,Ri,ih,hx,Rh];omega
theorem oN{t:Ty}{l:List (ET F t)}:∀e∈l.map (Jc F t),e.length=Jf F t:=by intro e he;rw[Ot]at he;obtain⟨x,_,rfl⟩:=he;exact aS F t x
theorem aC{t:Ty}{l:List (ET F t)}:(cells F t l).length=l.length*Jf F t:=by unfold cells;rw[qQ oN,Ox]
theorem aQ{t:Ty}{l:List (ET F t)}{i k:Nat}{x:ET F t}{d:ND F}(h:l[i]? = some x)(hk:(Jc F t x)[k]? = some d):(cells F t l)[i*Jf F t+k]? = some d:=
 yb oN (by rw[MN,h];rfl) hk
theorem xi(hm:Je own g w m){id:Nat}{cs:List (Ko F)}(h:m id=some (.box cs)){b:Nat}{c:Nat×Nat×NS}(hi:g.ids id=some (some (b,c))) :
  ∀k c,cs[k]? = some c→∃x,w.cell? ⟨b,0+k,none⟩=some x∧Jz g w c x:=by
 obtain⟨b',c',arr,t,h1,h2,h3,h4⟩:=hm.ok id _ h;rw[h1]at hi;cases hi;intro k c hk
 have hlt:k<arr.length:=by rw[h3];exact(IS.1 hk).1
 refine⟨arr[k],?_,h4 k c _ hk (IR hlt)⟩;simp[World.cell?,h2,hlt]
theorem bU(hm:Je own g w m){id:Nat}{t:Ty}{l:List (ET F t)}(h:m id=some (.row t l)){b c:Nat}{n:Nat×NS}(hi:g.ids id=some (some (b,c,n))) :
  n=(l.length,[])∧l.length≤c∧∀k d,(cells F t l)[k]? = some d→∃x,w.cell? ⟨b,k,none⟩=some x∧Jm w g.IV d x:=by
 rcases hm.ok id _ h with⟨h1,_⟩ | ⟨b',cap,cur,e,h1,h2,h3,h4,h5,h6⟩
 ·rw[h1]at hi;cases hi
 ·rw[h1]at hi;cases hi;refine⟨rfl,h3,?_⟩;intro k d hk
  have hlt:k<cur.length:=by have h7:k<(cells F t l).length:=(IS.1 hk).1;rw[aC]at h7;have:l.length*Jf F t≤c*Jf F t:=MW _ h3;omega
  refine⟨cur[k],?_,h6 k d _ hk (IR hlt)⟩;simp[World.cell?,h2,hlt]
theorem mv(hm:Je own g w m){id:Nat}{t:Ty}{l:List (ET F t)}(h:m id=some (.Oz t l)){b c:Nat}{n:Nat×NS}(hi:g.ids id=some (some (b,c,n))) :
  ∃ns,n=(l.length,ns)∧l.length≤c∧c≤maxLen∧g.IV b∧∀k d,(cells F t l)[k]? = some d→∃x,w.cell? ⟨b,k,none⟩=some x∧Jm w g.IV d x:=by
 rcases hm.ok id _ h with⟨h1,_⟩ | ⟨b',cap,ns,h1,hn,h2,h3,h4,h5⟩
 ·rw[h1]at hi;cases hi
 ·rw[h1]at hi;cases hi;exact⟨_,rfl,h3,h4,h2,h5⟩
theorem fE(hm:Je own g w m){id:Nat}{t:Ty}{l:List (ET F t)}(h:m id=some (.KM t l)){b c:Nat}{n:Nat×NS}(hi:g.ids id=some (some (b,c,n))) :
  n.1=l.length∧l.length≤c∧c≤maxLen∧∀k d,(cells F t l)[k]? = some d→∃x pl,w.cell? ⟨b,k,none⟩=some x∧n.2[k]? = some pl∧LB w g.IV d x pl:=by
 obtain⟨pl,h1,h2⟩:=hm.ok id _ h;rw[h1]at hi;cases hi;obtain⟨q1,q2,q3,q4,q5,cur,e,q6,q7,q8⟩:=h2;refine⟨q1,q2,q3,?_⟩;intro k d hk;have h7:k<(cells F t l).length:=(IS.1 hk).1
 have hlt:k<cur.length:=by have h8:=h7;rw[aC]at h8;have:l.length*Jf F t≤c*Jf F t:=MW _ q2;omega
 refine⟨cur[k],n.2[k],?_,IR (by omega),q8 k d _ _ hk (IR hlt) (IR (by omega))⟩
 simp[World.cell?,q6,hlt]
theorem fy{cs:List (ND F)}{k:Nat}{c:Ko F}(h:(cs.map Ko.im)[k]? = some c):∃d,cs[k]? = some d∧c = .im d:=by rw[MN,RF]at h;obtain⟨d,hd,rfl⟩:=h;exact⟨d,hd,rfl⟩
theorem Dz(hT:Js P T){t:TypeId}{x:Operand}(ho:o.op = .load t x):Rule P o vals mm c K (Vt T vals mm K t):=by
 unfold Vt
 have key:∀{w:World}{a:Act}{b q:Nat}{v:Value},a.eval x = .pointer (some ⟨b,q,none⟩)→(loadVar t ⟨b,q,none⟩).run P w = .ok v w→(execOp a.eval o).run P w = .ok (.value v) w:=by intro w a b q v e hr;simp[execOp,ho,e,Instr.loadAt,Instr.sureAddr,hr]
 split
 ·exact ah
 ·rename_i ti hti;split
  ·refine jD λd hd=>?_;intro own g w a m _ _ hr;rw[ho]at hr;obtain⟨b,q,fn,hb,e,hc,hr⟩:=pU (KT hr)
   obtain⟨v,hrun,hrep⟩:=cF (P:=P) (g:=g) (w:=w) hT hti hd (b:=b) (q:=q) (by intro k c hk;obtain⟨d',hd',rfl⟩:=fy hk;exact⟨fn k,hc k d' hd',.im (hr k d' hd')⟩)
   exact⟨v,key e hrun,hrep⟩
  ·rename_i cs;refine au (λ_=>ah) (λhag=>ao ?_);intro own g w a m _ _ hr;rw[ho]at hr;obtain⟨b,q,b2,q2,fn,hb,hv,hb2,e,hc,hr⟩:=G1 (KT hr)
   have hd:db ti [Ko.pt cs 0] 0=some (.c (.pt cs 0)):=by simp[db,hag]
   obtain⟨v,hrun,hrep⟩:=cF (P:=P) (g:=g) (w:=w) hT hti hd (b:=b) (q:=q) (by
    intro k c hk
    cases k with
    | zero=>simp only[M4,KV]at hk;subst hk;exact⟨_,hv,.pt cs 0 b2 q2 fn hb2 hc hr⟩
    | succ k=>simp at hk)
   exact⟨v,key e hrun,hrep⟩
  ·split
   ·rename_i Mw;refine jD λd hd=>?_;intro own g w a m hle hm hr;rw[ho]at hr;obtain⟨b,c,hi,e⟩:=bo (KT hr);obtain⟨v,hrun,hrep⟩:=cF (P:=P) (g:=g) (w:=w) hT hti hd (b:=b) (q:=0) (xi hm (hle _ _ Mw) hi);rw[LY]at hrun;exact⟨v,key e hrun,hrep⟩
   ·rename_i Mw;refine jD λd hd=>?_;intro own g w a m hle hm hr;rw[ho]at hr;obtain⟨b,c,hi,e⟩:=bo (KT hr);obtain⟨b',c',h1,h2,h3⟩:=hm.ok _ _ (hle _ _ Mw);rw[h1]at hi;cases hi
    obtain⟨v,hrun,hrep⟩:=cF (P:=P) (g:=g) (w:=w) hT hti hd (b:=b) (q:=0) (by
     intro k c hk;obtain⟨d',hd',rfl⟩:=fy hk;obtain⟨y,k1,k2⟩:=h3 k d' hd'
     exact⟨y,by rw[LY];exact k1,.im k2⟩)
    rw[LY]at hrun;exact⟨v,key e hrun,hrep⟩
   ·exact ah
  ·rename_i id sz i off;split
   ·rename_i t' l hrow;refine au (λhsz=>aD λx hx=>jD λd hd=>?_) (λ_=>ah);subst hsz;intro own g w a m hle hm hr;rw[ho]at hr;obtain⟨b,c,hi,e⟩:=eo (KT hr);obtain⟨_,_,hcell⟩:=bU hm (hle _ _ hrow) (c:=c.1) (n:=c.2) hi
    obtain⟨v,hrun,hrep⟩:=cF (P:=P) (g:=g) (w:=w) hT hti hd (b:=b) (q:=i*Jf F t') (by intro k c hk;obtain⟨d',hd',rfl⟩:=fy hk;obtain⟨y,hy,hr⟩:=hcell _ _ (aQ hx hd');exact⟨y,hy,.im hr⟩)
    exact⟨v,key e hrun,hrep⟩
   ·rename_i t' l hrow;refine au (λhsz=>aD λx hx=>jD λd hd=>?_) (λ_=>ah);subst hsz;intro own g w a m hle hm hr;rw[ho]at hr;obtain⟨b,c,hi,e⟩:=eo (KT hr);obtain⟨_,_,_,_,_,hcell⟩:=mv hm (hle _ _ hrow) (c:=c.1) (n:=c.2) hi
    obtain⟨v,hrun,hrep⟩:=cF (P:=P) (g:=g) (w:=w) hT hti hd (b:=b) (q:=i*Jf F t') (by intro k c hk;obtain⟨d',hd',rfl⟩:=fy hk;obtain⟨y,hy,hr⟩:=hcell _ _ (aQ hx hd');exact⟨y,hy,.im hr⟩)
    exact⟨v,key e hrun,hrep⟩
   ·rename_i t' l hrow;refine au (λhsz=>aD λx hx=>?_) (λ_=>ah);simp only[KQ,decide_eq_true_eq,Rj]at hsz;obtain⟨rfl,hag⟩:=hsz
    have one:∀{w:World}{b q:Nat}{v:Value},w.cell? ⟨b,q,none⟩=some v→(loadVar t ⟨b,q,none⟩).run P w = .ok v w:=by intro w b q v h;simp only[loadVar,LC,m7 hT hti,LV,hag,Nb,if_false,run_load,h]
    split
    ·rename_i t2 l2 hd;refine ao ?_;intro own g w a m hle hm hr;rw[ho]at hr;obtain⟨b,c,hi,e⟩:=eo (KT hr);obtain⟨_,_,_,hcell⟩:=fE hm (hle _ _ hrow) (c:=c.1) (n:=c.2) hi;obtain⟨y,pl,k1,k2,k3⟩:=hcell _ _ (aQ hx hd);exact⟨y,key e (one k1),.c (.OV hi k2 k3.2)⟩
    ·rename_i d hns hd;refine au (λhf=>ao ?_) (λ_=>ah);intro own g w a m hle hm hr;rw[ho]at hr;obtain⟨b,c,hi,e⟩:=eo (KT hr);obtain⟨_,_,_,hcell⟩:=fE hm (hle _ _ hrow) (c:=c.1) (n:=c.2) hi;obtain⟨y,pl,k1,k2,k3⟩:=hcell _ _ (aQ hx hd);refine⟨y,key e (one k1),.c (.im ?_)⟩
     cases d with
     | sl t2 l2=>exact absurd rfl (hns t2 l2)
     | _=>exact k3.2.2
    ·exact ah
   ·exact ah
  ·exact ah
end
set_option linter.unusedVariables false
set_option linter.unusedSimpArgs false
section
variable{F:Fam}{P:Program}{T:TypeId→Option (TI F)}{o:Oper}{vals:List (Dat F)}{mm:Nat→Option (Jw F)}{c:Nat}{R:Type}{K:Oq F→Option R}{own:Ow}{g:G}{w:World}{m:Nat→Option (Jw F)}
theorem Dn{α : Type}{l:List α}{i:Int}{x:α}(h:idx l i=some x):0≤i∧l[i.toNat]? = some x:=by
 unfold idx at h;split at h
 ·exact⟨by assumption,h⟩
 ·cases h
theorem kz{i:Int}{n k:Nat}(h:Ka i n=some k):0≤i∧i.toNat<n∧k=i.toNat:=by
 unfold Ka at h;split at h
 ·rename_i hc;cases h;exact⟨hc.1,hc.2,rfl⟩
 ·cases h
theorem Dv{a b:Int}{n:Nat}{p:Nat×Nat}(h:Mj a b n=some p):0≤a∧a≤b∧b≤n∧p=(a.toNat,b.toNat - a.toNat):=by
 unfold Mj at h;split at h
 ·rename_i hc;cases h;exact⟨hc.1,hc.2.1,hc.2.2,rfl⟩
 ·cases h
theorem vt{α : Type}{l r:List α}{a b:Int}(h:slc l a b=some r):0≤a∧a≤b∧b≤l.length∧r=(l.take b.toNat).drop a.toNat:=by
 unfold slc at h;split at h
 ·rename_i hc;cases h;exact⟨hc.1,hc.2.1,hc.2.2,rfl⟩
 ·cases h
theorem a_{id:Nat}{v:Value}(h:Jz (F:=F) g w (.KP id) v):(g.ids id=some none∧∃p,v = .slice p 0 0)∨
  ∃(b c:Nat)(n:Nat×NS),g.ids id=some (some (b,c,n))∧n.1≤c∧c≤maxLen∧v = .slice (some ⟨b,0,none⟩) n.1 c:=by
 cases h with
 | ML p h=>exact .inl ⟨h,p,rfl⟩
 | KP h h1 h2=>exact .inr ⟨_,_,_,h,h1,h2,rfl⟩
theorem kX{id sz off n:Nat}{v:Value}(h:Jz (F:=F) g w (.Nr id sz off n) v):(g.ids id=some none∧off=0∧n=0∧∃p,v = .slice p 0 0)∨
  ∃(b c:Nat)(len:Nat×NS)(o:Nat),g.ids id=some (some (b,c,len))∧off+n≤len.1∧len.1≤c∧((off=c∧0<c)∨o=off*sz)∧c≤maxLen∧v = .slice (some ⟨b,o,none⟩) n (c - off):=by
 cases h with
 | OO p h=>exact .inl ⟨h,rfl,rfl,p,rfl⟩
 | Nr h h1 h2 h3 h4=>exact .inr ⟨_,_,_,_,h,h1,h2,h3,h4,rfl⟩
theorem E9{n k:Nat}{y:Operand}(h:Pe n y=some k):k<n∧∃kd,y = .const (.int kd (k:Int)):=by
 unfold Pe at h;split at h
 ·split at h
  ·rename_i kd k' hk;cases h;simp only[MV]at hk;exact⟨hk,kd,rfl⟩
  ·cases h
 ·cases h
theorem vz{t':Ty}{l:List (ET F t')}{n:Int}{x:ET F t'}{v:Value}(hx:idx l n=some x)(hv:Jm w g.IV (.sl t' l) v) :
  ∃b q len cap,v = .slice (some ⟨b,q,none⟩) len cap∧0≤n∧n<len∧Jz g w (.pt (Jc F t' x) 0) (.pointer (some ⟨b,q+n.toNat*Jf F t'+0,none⟩)):=by
 obtain⟨h0,h1⟩:=Dn hx;have hlt:n.toNat<l.length:=(IS.1 h1).1;rcases sk hv with⟨rfl,_⟩ | ⟨b,q,cap,fn,hb,hcap,hmx,e1,hc,hr⟩
 ·simp at hlt
 ·refine⟨b,q,l.length,cap,e1,h0,by omega,.pt _ 0 b (q+n.toNat*Jf F t') (λk=>fn (n.toNat*Jf F t'+k)) hb ?_ ?_⟩
  ·intro k d hk;rw[Pq];exact hc _ d (aQ h1 hk)
  ·intro k d hk;exact hr _ d (aQ h1 hk)
theorem fm{t:Ty}{l:List (ET F t)}{a n:Nat}:cells F t (sub l a n)=((cells F t l).drop (a*Jf F t)).take (n*Jf F t):=by
 unfold cells sub
 have Uz:∀{es:List (List (ND F))} (_:∀e∈es,e.length=Jf F t) (n:Nat),(es.drop n).flatten=es.flatten.drop (n*Jf F t):=by
  intro es
  induction es with
  | nil=>intro _ n;simp
  | cons x es ih=>
   intro h n
   cases n with
   | zero=>simp
   | succ n=>
    have hx:x.length=Jf F t:=h x (by simp)
    have e1:x.drop (n*Jf F t+Jf F t) = []:=List.drop_of_length_le (by omega)
    rw[List.drop_succ_cons,ih (λe he=>h e (by simp[he])) n,U2,Rh,List.drop_append,hx,e1]
    simp
 have Uy:∀{es:List (List (ND F))} (_:∀e∈es,e.length=Jf F t) (n:Nat),(es.take n).flatten=es.flatten.take (n*Jf F t):=by
  intro es
  induction es with
  | nil=>intro _ n;simp
  | cons x es ih=>
   intro h n
   cases n with
   | zero=>simp
   | succ n=>
    have hx:x.length=Jf F t:=h x (by simp)
    have e1:x.take (n*Jf F t+Jf F t)=x:=XE (by omega)
    rw[List.take_succ_cons,U2,ih (λe he=>h e (by simp[he])) n,U2,Rh,List.take_append,hx,e1]
    simp
 rw[List.map_take,List.map_drop,Uy (λe he=>oN e (XD he)),Uz oN]
theorem gD{t:Ty}{l:List (ET F t)}{a n k:Nat}{d:ND F}(h:(cells F t (sub l a n))[k]? = some d):(cells F t l)[a*Jf F t+k]? = some d:=by
 rw[fm,MO]at h;split at h
 ·rwa [Ov]at h
 ·cases h
theorem pu(hm:Je own g w m){id:Nat}{t:Ty}{l:List (ET F t)}(h:m id=some (.Oz t l)){v:Value}(hv:Jz (F:=F) g w (.KP id) v):Jm w g.IV (.sl t l) v:=by
 rcases a_ hv with⟨hi,p,rfl⟩ | ⟨b,c,n,hi,h1,h2,rfl⟩
 ·rcases hm.ok id _ h with⟨_,rfl⟩ | ⟨b',cap,_,k1,_⟩
  ·exact .sl0 t p
  ·rw[hi]at k1;cases k1
 ·obtain⟨ns,rfl,h4,h5,h6,h7⟩:=mv hm h hi;refine .sl t l b 0 c (λk=>(w.cell? ⟨b,k,none⟩).getD undef) h6 h4 h5 ?_ ?_
  ·intro k d hk;obtain⟨x,k1,k2⟩:=h7 k d hk;rw[LY,k1];rfl
  ·intro k d hk;obtain⟨x,k1,k2⟩:=h7 k d hk;rw[k1];exact k2
theorem xP(hm:Je own g w m){id:Nat}{t:Ty}{l:List (ET F t)}(h:m id=some (.Oz t l)){sz off n:Nat}(hsz:sz=Jf F t){v:Value}(hv:Jz (F:=F) g w (.Nr id sz off n) v):Jm w g.IV (.sl t (sub l off n)) v:=by
 subst hsz;rcases kX hv with⟨hi,rfl,rfl,p,rfl⟩ | ⟨b,c,len,q,hi,h1,h2,h3,h4,rfl⟩
 ·have:sub l 0 0 = []:=by simp[sub]
  rw[this];exact .sl0 t p
 ·obtain⟨ns,rfl,h4,h5,h6,h7⟩:=mv hm h hi
  have hlen:(sub l off n).length=n:=by simp only[sub,Ld,Na];omega
  have key:∀(k:Nat)(d:ND F),(cells F t (sub l off n))[k]? = some d→∃x,w.cell? ⟨b,q+k,none⟩=some x∧Jm w g.IV d x:=by
   intro k d hk;rcases h3 with⟨h3,_⟩ | h3
   ·have h0:n=0:=by omega
    subst h0;simp[sub,cells]at hk
   ·subst h3;exact h7 _ _ (gD hk)
  have:=Jm.sl (F:=F) (w:=w) (IV:=g.IV) t (sub l off n) b q (c - off) (λk=>(w.cell? ⟨b,q+k,none⟩).getD undef) h6 (by omega) (by omega)
   (λk d hk=>by obtain⟨x,k1,k2⟩:=key k d hk;rw[k1];rfl) (λk d hk=>by obtain⟨x,k1,k2⟩:=key k d hk;rw[k1];exact k2)
  rwa [hlen]at this
theorem vX(hT:Js P T){t:TypeId}{x ix:Operand}(ho:o.op = .indexAddr t x ix):Rule P o vals mm c K (qH T vals mm K t ix):=by
 unfold qH;split
 ·rename_i e _ _ _ _ _ ht;split
  ·exact ah
  ·rename_i te hte
   have run:∀{w:World}{a:Act}{b q len cap:Nat}{k:IntKind} {n:Int},a.eval x = .slice (some ⟨b,q,none⟩) len cap→a.eval ix = .int k n→0≤n→n<len→
     (execOp a.eval o).run P w = .ok (.value (.pointer (some ⟨b,q+n.toNat*te.size,none⟩))) w:=by
    intro w a b q len cap k n e1 e2 h0 h1;have hu:=run_underlying (hT.und _ _ ht) w;have hs:=bw hT hte w;have h2:0≤n∧n<len:=⟨h0,h1⟩;simp only[execOp,ho,e1,e2,LC,Instr.indexAt,asIntOf,hu,LV,MI,h2,and_self,if_true,hs,Addr.add_lit]
   split
   ·rename_i t' l k n;refine au (λhsz=>aD λx' hx=>ao ?_) (λ_=>ah);intro own g w a m hle hm hr;rw[ho]at hr;simp only[Op.operands,KZ,Lx]at hr;obtain⟨h1,h2⟩:=KG hr;obtain⟨b,q,len,cap,e1,h3,h4,h5⟩:=vz hx (sm h1);rw[hsz]at h5;exact⟨_,run e1 (bG h2) h3 h4,.c h5⟩
   ·rename_i id k n;split
    ·rename_i t' l hrow;refine au (λhsz=>aD λi hi=>ao ?_) (λ_=>ah);intro own g w a m hle hm hr;rw[ho]at hr;simp only[Op.operands,KZ,Lx]at hr;obtain⟨h1,h2⟩:=KG hr;obtain⟨h3,h4,rfl⟩:=kz hi;rcases a_ (aV h1)with⟨hid,p,ev⟩ | ⟨b,c',len,hid,h5,h6,ev⟩
     ·rcases hm.ok id _ (hle _ _ hrow)with⟨_,rfl⟩ | ⟨_,_,_,_,k1,_⟩
      ·simp at h4
      ·rw[hid]at k1;cases k1
     ·obtain⟨rfl,_,_⟩:=bU hm (hle _ _ hrow) hid
      exact⟨_,run ev (bG h2) h3 (by dsimp only;omega),by rw[LY];exact .c (.Ma (off:=0) hid)⟩
    ·rename_i t' l hrow;refine au (λhsz=>aD λi hi=>ao ?_) (λ_=>ah);intro own g w a m hle hm hr;rw[ho]at hr;simp only[Op.operands,KZ,Lx]at hr;obtain⟨h1,h2⟩:=KG hr;obtain⟨h3,h4,rfl⟩:=kz hi;rcases a_ (aV h1)with⟨hid,p,ev⟩ | ⟨b,c',len,hid,h5,h6,ev⟩
     ·obtain⟨pl,k1,k2⟩:=hm.ok id _ (hle _ _ hrow);rw[hid]at k1;cases k1;have k2:l = []:=k2;subst k2;simp at h4
     ·obtain⟨k1,_⟩:=fE hm (hle _ _ hrow) hid
      exact⟨_,run ev (bG h2) h3 (by omega),by rw[LY];exact .c (.Ma (off:=0) hid)⟩
    ·rename_i t' l _ _ hrow;refine au (λhsz=>aD λi hi=>ao ?_) (λ_=>ah);intro own g w a m hle hm hr;rw[ho]at hr;simp only[Op.operands,KZ,Lx]at hr;obtain⟨h1,h2⟩:=KG hr;obtain⟨h3,h4,rfl⟩:=kz hi;rcases a_ (aV h1)with⟨hid,p,ev⟩ | ⟨b,c',len,hid,h5,h6,ev⟩
     ·obtain⟨pl,k1,k2⟩:=hm.ok id _ (hle _ _ hrow);rw[hid]at k1;cases k1;have k2:l = []:=k2;subst k2;simp at h4
     ·obtain⟨pl,k1,k2⟩:=hm.ok id _ (hle _ _ hrow);rw[hid]at k1;cases k1;have k1:=k2.1
      exact⟨_,run ev (bG h2) h3 (by omega),by rw[LY];exact .c (.Ma (off:=0) hid)⟩
    ·rename_i t' l _ hrow;refine au (λhsz=>aD λi hi=>ao ?_) (λ_=>ah);intro own g w a m hle hm hr;rw[ho]at hr;simp only[Op.operands,KZ,Lx]at hr;obtain⟨h1,h2⟩:=KG hr;obtain⟨h3,h4,rfl⟩:=kz hi;rcases a_ (aV h1)with⟨hid,p,ev⟩ | ⟨b,c',len,hid,h5,h6,ev⟩
     ·obtain⟨pl,k1,k2⟩:=hm.ok id _ (hle _ _ hrow);rw[hid]at k1;cases k1;have k2:l = []:=k2;subst k2;simp at h4
     ·obtain⟨pl,k1,k2⟩:=hm.ok id _ (hle _ _ hrow);rw[hid]at k1;cases k1;have k1:=k2.1
      exact⟨_,run ev (bG h2) h3 (by omega),by rw[LY];exact .c (.Ma (off:=0) hid)⟩
    ·rename_i t' l hrow;refine au (λhsz=>aD λx' hx=>ao ?_) (λ_=>ah);intro own g w a m hle hm hr;rw[ho]at hr;simp only[Op.operands,KZ,Lx]at hr;obtain⟨h1,h2⟩:=KG hr;obtain⟨b,q,len,cap,e1,h3,h4,h5⟩:=vz hx (pu hm (hle _ _ hrow) (aV h1));rw[hsz]at h5;exact⟨_,run e1 (bG h2) h3 h4,.c h5⟩
    ·exact ah
   ·rename_i id sz i0 off k n;split
    ·rename_i t' l hrow;refine au (λhsz=>aD λx' hx=>?_) (λ_=>ah);subst hsz;split
     ·rename_i t2 l2 hd;refine au (λhsz=>aD λj hj=>ao ?_) (λ_=>ah);intro own g w a m hle hm hr;rw[ho]at hr;simp only[Op.operands,KZ,Lx]at hr;obtain⟨h1,h2⟩:=KG hr;obtain⟨h3,h4,rfl⟩:=kz hj;obtain⟨b,c',nn,pl,hid,hk,hv⟩:=GT h1;obtain⟨_,_,_,hcell⟩:=fE hm (hle _ _ hrow) hid;obtain⟨y,PU,_,k2,k3⟩:=hcell _ _ (aQ hx hd);rw[hk]at k2;cases k2
      cases pl with
      | none=>have k3:l2 = []:=k3.1;subst k3;simp at h4
      | some q=>
       obtain⟨b2,c2,n2⟩:=q;obtain⟨k4,k5,k6,_⟩:=k3.1;simp only[Prod.mk.injEq,and_true]at k4
       refine⟨_,run hv (bG h2) h3 (by dsimp only;omega),?_⟩
       rw[LY];exact .c (.Pn (off':=0) hid hk)
     ·exact ah
    ·exact ah
   ·rename_i id sz off len k n;refine au (λhsz=>aD λi hi=>ao ?_) (λ_=>ah);intro own g w a m hle hm hr;rw[ho]at hr;simp only[Op.operands,KZ,Lx]at hr;obtain⟨h1,h2⟩:=KG hr;obtain⟨h3,h4,rfl⟩:=kz hi;rcases kX (aV h1)with⟨_,_,rfl,_⟩ | ⟨b,c',len',q,hid,h5,h6,h7,h8,ev⟩
    ·omega
    ·have hq:q=off*sz:=by
      rcases h7 with h7 | h7
      ·omega
      ·exact h7
     subst hq
     refine⟨_,run ev (bG h2) h3 (by omega),?_⟩
     rw[← hsz,← OI];exact .c (.Ma (off:=0) hid)
   ·rename_i id len k n;refine au (λhsz=>aD λi hi=>ao ?_) (λ_=>ah);intro own g w a m hle hm hr;rw[ho]at hr;simp only[Op.operands,KZ,Lx]at hr;obtain⟨h1,h2⟩:=KG hr;obtain⟨h3,h4,rfl⟩:=kz hi;obtain⟨b,c',hid,_,ev⟩:=wd h1
    refine⟨_,run ev (bG h2) h3 (by omega),?_⟩
    rw[hsz,Nat.mul_one,LY];exact .c (.ptr hid)
   ·exact ah
 ·rename_i len e _ _ _ _ _ ht;split
  ·exact ah
  ·rename_i te hte
   have run:∀{w:World}{a:Act}{b q:Nat}{k:IntKind} {n:Int},a.eval x = .pointer (some ⟨b,q,none⟩)→a.eval ix = .int k n→0≤n→n<len→
     (execOp a.eval o).run P w = .ok (.value (.pointer (some ⟨b,q+n.toNat*te.size,none⟩))) w:=by
    intro w a b q k n e1 e2 h0 h1;have hu:=run_underlying (hT.und _ _ ht) w;have hs:=bw hT hte w;have h2:0≤n∧n<len:=⟨h0,h1⟩;simp only[execOp,ho,e1,e2,LC,Instr.indexAt,asIntOf,hu,LV,MI,Instr.sureAddr,h2,and_self,if_true,hs,Addr.add_lit]
   have lit:∀{i:Nat},Pe len ix=some i→∀(a:Act),∃k,a.eval ix = .int k (i:Int)∧(0:Int)≤i∧(i:Int)<len:=by
    intro i hi a;obtain⟨h1,kd,rfl⟩:=E9 hi
    exact⟨kd,rfl,by omega,by omega⟩
   split
   ·rename_i id off k n;split
    ·rename_i t' l hrow;refine au (λhsz=>?_) (λ_=>ah);split
     ·rename_i i hi;refine ao ?_;intro own g w a m hle hm hr;rw[ho]at hr;simp only[Op.operands,KZ,Lx]at hr;obtain⟨h1,h2⟩:=KG hr;obtain⟨b,c',hid,e1⟩:=bo h1;obtain⟨kd,e2,h3,h4⟩:=lit hi a;refine⟨_,run e1 e2 h3 h4,?_⟩;rw[LY,Un];exact .c (.Ma (off:=0) hid)
     ·refine aD λi hi=>ao ?_;intro own g w a m hle hm hr;rw[ho]at hr;simp only[Op.operands,KZ,Lx]at hr;obtain⟨h1,h2⟩:=KG hr;obtain⟨b,c',hid,e1⟩:=bo h1;obtain⟨h3,h4,rfl⟩:=kz hi
      refine⟨_,run e1 (bG h2) h3 (by omega),?_⟩
      rw[LY];exact .c (.Ma (off:=0) hid)
    ·split
     ·rename_i i hi;refine ao ?_;intro own g w a m hle hm hr;rw[ho]at hr;simp only[Op.operands,KZ,Lx]at hr;obtain⟨h1,h2⟩:=KG hr;obtain⟨b,c',hid,e1⟩:=bo h1;obtain⟨kd,e2,h3,h4⟩:=lit hi a;refine⟨_,run e1 e2 h3 h4,?_⟩;rw[Un];exact .c (.ptr hid)
     ·exact ah
    ·exact ah
   ·split
    ·rename_i i hi;refine ao ?_;intro own g w a m hle hm hr;rw[ho]at hr;simp only[Op.operands,KZ,Lx]at hr;obtain⟨h1,h2⟩:=KG hr;obtain⟨b,c',hid,e1⟩:=eo h1;obtain⟨kd,e2,h3,h4⟩:=lit hi a;refine⟨_,run e1 e2 h3 h4,?_⟩;rw[Un,Pq];exact .c (.Ma hid)
    ·exact ah
   ·split
    ·rename_i i hi;refine ao ?_;intro own g w a m hle hm hr;rw[ho]at hr;simp only[Op.operands,KZ,Lx]at hr;obtain⟨h1,h2⟩:=KG hr;obtain⟨b,q,fn,hb,e1,hc,hr⟩:=pU h1;obtain⟨kd,e2,h3,h4⟩:=lit hi a;refine⟨_,run e1 e2 h3 h4,?_⟩;rw[Un,Pq];exact .c (.pt _ _ b q fn hb hc hr)
    ·exact ah
   ·exact ah
 ·exact ah
theorem yM{x:Operand}{i:Nat}(ho:o.op = .extract x i):Rule P o vals mm c K (match vals with | [.MC ds]=>(match ds[i]? with | some d=>K { val:=d } | none=>none) | _=>none):=by
 split
 ·split
  ·rename_i ds _ d hd;refine ao ?_;intro own g w a m hle hm hr;rw[ho]at hr;obtain⟨vs,e,hl,hr⟩:=Ac (KT hr)
   have hlt:i<vs.length:=by rw[hl];exact(IS.1 hd).1
   exact⟨vs[i],by simp[execOp,ho,e,Instr.extract,hlt],hr i d _ hd (IR hlt)⟩
  ·exact ah
 ·exact ah
theorem xt{x:Operand}(ho:o.op = .nilCheck x):Rule P o vals mm c K (rz vals K):=by
 unfold rz;split
 ·refine ao ?_;intro own g w a m hle hm hr;rw[ho]at hr;have h1:=KT hr;obtain⟨b,c',hid,e1⟩:=bo h1
  exact⟨a.eval x,by simp[execOp,ho,e1],h1⟩
 ·refine ao ?_;intro own g w a m hle hm hr;rw[ho]at hr;have h1:=KT hr;obtain⟨b,c',hid,e1⟩:=eo h1
  exact⟨a.eval x,by simp[execOp,ho,e1],h1⟩
 ·refine ao ?_;intro own g w a m hle hm hr;rw[ho]at hr;have h1:=KT hr;obtain⟨b,q,fn,hb,e1,_⟩:=pU h1
  exact⟨a.eval x,by simp[execOp,ho,e1],h1⟩
 ·exact ah
theorem Dl{fn:Fn}{first captured:Array Operand}(ho:o.op = .makeFunc fn first captured):Rule P o vals mm c K (zo vals K fn first.size captured.size):=by
 unfold zo
 have ev:∀(a:Act)(w:World),(execOp a.eval o).run P w = .ok (.value (.func fn (first.map a.eval) (captured.map a.eval))) w:=by intro a w;simp only[execOp,ho,Instr.makeFunc,LC,MI,LV]
 refine au (λhz=>?_) (λ_=>?_)
 ·simp only[KQ,decide_eq_true_eq]at hz
  have h1:first = #[]:=QeJ hz.1
  have h2:captured = #[]:=QeJ hz.2;subst h1 h2;refine ao ?_;intro own g w a m hle hm hr
  exact⟨.func fn #[] #[],by simpa using ev a w,.c (.im (.v _ rfl))⟩
 ·refine ao ?_;intro own g w a m hle hm hr;rw[ho]at hr;simp only[Op.operands,QdM,SL]at hr;obtain⟨hl,hr⟩:=hr;simp only[IT,Ox]at hl
  have e1:first.map a.eval=⟨first.toList.map a.eval⟩:=by apply Array.ext';simp
  have e2:captured.map a.eval=⟨captured.toList.map a.eval⟩:=by apply Array.ext';simp
  refine⟨_,ev a w,?_⟩;rw[e1,e2]
  have hfl:first.toList.length=first.size:=by simp
  have hcl:captured.toList.length=captured.size:=by simp
  refine .NG (by simp;omega) (by simp;omega) ?_ ?_
  ·intro k d x h1 h2;rw[MO]at h1;split at h1
   ·exact hr k d x h1 (by rw[Mv (by simp;omega)];exact h2)
   ·cases h1
  ·intro k d x h1 h2;rw[Ov]at h1;refine hr _ d x h1 ?_
   rw[Nc (by simp)]
   simpa using h2
theorem BW(hT:Js P T){t:TypeId}{x ix:Operand}(ho:o.op = .index t x ix):Rule P o vals mm c K (y9 T vals K t):=by
 unfold y9;split
 ·rename_i l k n ht;refine aD λch hch=>ao ?_;intro own g w a m hle hm hr;rw[ho]at hr;simp only[Op.operands,KZ,Lx]at hr;obtain⟨h1,h2⟩:=KG hr;obtain⟨h3,h4⟩:=Dn hch;have hlt:n.toNat<l.length:=(IS.1 h4).1;have hs:(⟨⟨l⟩⟩:ByteArray).size=l.length:=rfl
  have hg:(⟨⟨l⟩⟩:ByteArray)[n.toNat]? = some ch:=by
   rw[getElem?_pos (⟨⟨l⟩⟩:ByteArray) n.toNat (by rw[hs];exact hlt)]
   congr 1
   exact(IS.1 h4).2
  exact⟨.int .u8 ch.toNat,by simp only[execOp,ho,sM h1,bG h2,LC,Instr.index,asIntOf,MI,LV,run_underlying (hT.und _ _ ht),h3,if_true,hg],LH _ _⟩
 ·exact ah
theorem Eu(hT:Js P T){t:TypeId}{x:Operand}(ho:o.op = .call { callee:=.builtin .len,args:=#[x],argTypes:=#[t] }):Rule P o vals mm c K (ZG T vals mm K t):=by
 have key:∀{a:Act}{w:World}(n:Int),(Builtin.len_ #[t] o.type #[a.eval x]).run P w = .ok (.int .i64 n) w→(execOp a.eval o).run P w = .ok (.value (.int .i64 n)) w:=by intro a w n e;simp only[execOp,ho,resolve,invoke,builtin,LC,MI,LV,QeF,KZ,Lx,e]
 have one:∀{a:Act}{d:Dat F}{g:G}{w:World},Kl P g w [d] (o.op.operands.toList.map a.eval)→Jr P g w d (a.eval x):=by intro a d g w hr;rw[ho]at hr;exact KT hr
 unfold ZG;split
 ·rename_i ht;refine ao ?_;intro own g w a m hle hm hr
  exact⟨_,key _ (by simp[Builtin.len_,run_underlying (hT.und _ _ ht),sM (one hr),goInt];rfl),LH _ _⟩
 ·rename_i ht;refine ao ?_;intro own g w a m hle hm hr;refine⟨_,key _ ?_,LH _ _⟩;rcases sk (sm (one hr))with⟨rfl,p,e⟩ | ⟨b,q,cap,fn,_,_,_,e,_⟩
  ·simp[Builtin.len_,run_underlying (hT.und _ _ ht),e,goInt]
  ·simp[Builtin.len_,run_underlying (hT.und _ _ ht),e,goInt]
 ·rename_i ht;refine ao ?_;intro own g w a m hle hm hr;obtain⟨p,e⟩:=mg (one hr)
  exact⟨_,key _ (by simp[Builtin.len_,run_underlying (hT.und _ _ ht),e,goInt]),LH _ _⟩
 ·rename_i id ht;split
  ·rename_i t' l hrow;refine ao ?_;intro own g w a m hle hm hr;refine⟨_,key _ ?_,LH _ _⟩;rcases a_ (aV (one hr))with⟨hid,p,e⟩ | ⟨b,c',len,hid,h5,h6,e⟩
   ·rcases hm.ok id _ (hle _ _ hrow)with⟨_,rfl⟩ | ⟨_,_,_,_,k1,_⟩
    ·simp[Builtin.len_,run_underlying (hT.und _ _ ht),e,goInt]
    ·rw[hid]at k1;cases k1
   ·obtain⟨rfl,_,_⟩:=bU hm (hle _ _ hrow) hid;simp[Builtin.len_,run_underlying (hT.und _ _ ht),e,goInt]
  ·rename_i t' l hrow;refine ao ?_;intro own g w a m hle hm hr;refine⟨_,key _ ?_,LH _ _⟩;rcases a_ (aV (one hr))with⟨hid,p,e⟩ | ⟨b,c',len,hid,h5,h6,e⟩
   ·rcases hm.ok id _ (hle _ _ hrow)with⟨_,rfl⟩ | ⟨_,_,_,k1,_⟩
    ·simp[Builtin.len_,run_underlying (hT.und _ _ ht),e,goInt]
    ·rw[hid]at k1;cases k1
   ·obtain⟨_,rfl,_⟩:=mv hm (hle _ _ hrow) hid;simp[Builtin.len_,run_underlying (hT.und _ _ ht),e,goInt]
  ·rename_i t' l hrow;refine ao ?_;intro own g w a m hle hm hr;refine⟨_,key _ ?_,LH _ _⟩;rcases a_ (aV (one hr))with⟨hid,p,e⟩ | ⟨b,c',len,hid,h5,h6,e⟩
   ·obtain⟨pl,k1,k2⟩:=hm.ok id _ (hle _ _ hrow);rw[hid]at k1;cases k1;have k2:l = []:=k2;subst k2;simp[Builtin.len_,run_underlying (hT.und _ _ ht),e,goInt]
   ·obtain⟨k1,_⟩:=fE hm (hle _ _ hrow) hid;simp[Builtin.len_,run_underlying (hT.und _ _ ht),e,goInt,k1]
  ·rename_i t' l _ _ hrow;refine ao ?_;intro own g w a m hle hm hr;refine⟨_,key _ ?_,LH _ _⟩;rcases a_ (aV (one hr))with⟨hid,p,e⟩ | ⟨b,c',len,hid,h5,h6,e⟩
   ·obtain⟨pl,k1,k2⟩:=hm.ok id _ (hle _ _ hrow);rw[hid]at k1;cases k1;have k2:l = []:=k2;subst k2;simp[Builtin.len_,run_underlying (hT.und _ _ ht),e,goInt]
   ·obtain⟨pl,k1,k2⟩:=hm.ok id _ (hle _ _ hrow);rw[hid]at k1;cases k1;have k1:=k2.1;simp[Builtin.len_,run_underlying (hT.und _ _ ht),e,goInt,k1]
  ·rename_i t' l _ hrow;refine ao ?_;intro own g w a m hle hm hr;refine⟨_,key _ ?_,LH _ _⟩;rcases a_ (aV (one hr))with⟨hid,p,e⟩ | ⟨b,c',len,hid,h5,h6,e⟩
   ·obtain⟨pl,k1,k2⟩:=hm.ok id _ (hle _ _ hrow);rw[hid]at k1;cases k1;have k2:l = []:=k2;subst k2;simp[Builtin.len_,run_underlying (hT.und _ _ ht),e,goInt]
   ·obtain⟨pl,k1,k2⟩:=hm.ok id _ (hle _ _ hrow);rw[hid]at k1;cases k1;have k1:=k2.1;simp[Builtin.len_,run_underlying (hT.und _ _ ht),e,goInt,k1]
  ·exact ah
 ·rename_i ht;refine ao ?_;intro own g w a m hle hm hr;refine⟨_,key _ ?_,LH _ _⟩;rcases kX (aV (one hr))with⟨_,_,rfl,p,e⟩ | ⟨b,c',len,q,_,_,_,_,_,e⟩
  ·simp[Builtin.len_,run_underlying (hT.und _ _ ht),e,goInt]
  ·simp[Builtin.len_,run_underlying (hT.und _ _ ht),e,goInt]
 ·rename_i ht;refine ao ?_;intro own g w a m hle hm hr;obtain⟨b,c',_,_,e⟩:=wd (one hr)
  exact⟨_,key _ (by simp[Builtin.len_,run_underlying (hT.und _ _ ht),e,goInt]),LH _ _⟩
 ·rename_i ht;refine ao ?_;intro own g w a m hle hm hr
  exact⟨_,key _ (by simp[Builtin.len_,run_underlying (hT.und _ _ ht),goInt]),LH _ _⟩
 ·rename_i id ht;split
  ·rename_i t' l hrow;refine ao ?_;intro own g w a m hle hm hr;refine⟨_,key _ ?_,LH _ _⟩;obtain⟨b,h1,es,h2,h3,h4⟩:=hm.ok id _ (hle _ _ hrow)
   obtain⟨b',c',h5,e⟩:∃b c,g.ids id=some (some (b,c))∧a.eval x = .map (some b):=by
    have h0:=aV (one hr);revert h0;generalize a.eval x=v;intro h0
    cases h0 with | Oa h=>exact⟨_,_,h,rfl⟩
   rw[h1]at h5;cases h5;simp[Builtin.len_,run_underlying (hT.und _ _ ht),e,goInt,MapKept.run_getObj_map h2,h3]
  ·exact ah
 ·exact ah
theorem wX:∀(l:List Int)(a:List UInt8),l.foldl (λr n=>r.push (UInt8.ofNat n.toNat)) (⟨⟨a⟩⟩:ByteArray)=⟨⟨a++l.map toB⟩⟩
 | [],a=>by simp
 | n::l,a=>by
  have h:(⟨⟨a⟩⟩:ByteArray).push (UInt8.ofNat n.toNat)=⟨⟨a++[toB n]⟩⟩:=by simp[ByteArray.push,toB]
  rw[List.foldl_cons,h,wX l];simp
theorem wK{b q cap:Nat}{l:List Int}(hc:∀k,(h:k<l.length)→w.cell? ⟨b,q+k,none⟩=some (.int .u8 l[k])) :
  (Conv.bytesToString (.slice (some ⟨b,q,none⟩) l.length cap)).run P w = .ok (.string ⟨⟨l.map toB⟩⟩) w:=by
 have hrun:=run_loadCells (P:=P) w ⟨b,q,none⟩ l.length (λj=>.int .u8 (l.getD j 0)) (by intro j hj;rw[Addr.add_lit,hc j hj];simp[hj])
 have hl:(List.range l.length).map (λj=>Value.int .u8 (l.getD j 0))=l.map (Value.int .u8):=by
  apply List.ext_getElem
  ·simp
  ·intro i h1 h2;simp at h1;simp[h1]
 rw[hl]at hrun;rw[run_bytesToString w ⟨b,q,none⟩ l.length cap l hrun];have e0:ByteArray.empty=(⟨⟨[]⟩⟩:ByteArray):=rfl;rw[e0,wX];simp
theorem B_(hT:Js P T){s d:TypeId}{x:Operand}(ho:o.op = .convert s d x):Rule P o vals mm c K (Vw T vals mm K s d):=by
 have key:∀{e:TypeId}{a:Act}{w:World}{p:Option Addr} {n cap:Nat} {v:Value},P.underlying s=some (.slice e)→P.underlying e=some (.int .u8)→P.underlying d=some .string→a.eval x = .slice p n cap→
   (Conv.bytesToString (.slice p n cap)).run P w = .ok v w→(execOp a.eval o).run P w = .ok (.value v) w:=by
  intro e a w p n cap v h1 h2 h3 h4 h5;simp only[execOp,ho,h4,LC,run_convert_bytes_string w s d e p n cap h1 h2 h3,h5,LV,MI]
 have nil:∀{w:World}{p:Option Addr}{cap:Nat},(Conv.bytesToString (.slice p 0 cap)).run P w = .ok (.string ⟨⟨[]⟩⟩) w:=by
  intro w p cap
  cases p<;>simp[Conv.bytesToString,loadCells,loadCellsFrom,MI,LC]<;>rfl
 unfold Vw;split
 ·rename_i hs hd;refine ao ?_;intro own g w a m _ _ hr;rw[ho]at hr;have e:=bG (KT hr)
  exact⟨_,by simp[execOp,ho,e,convert,run_underlying (hT.und _ _ hs),run_underlying (hT.und _ _ hd),Conv.intToInt],LH _ _⟩
 ·rename_i hs hd;refine ao ?_;intro own g w a m _ _ hr;rw[ho]at hr;have e:=sM (KT hr)
  exact⟨_,by simp[execOp,ho,e,convert,run_underlying (hT.und _ _ hs),run_underlying (hT.und _ _ hd)],S_ _⟩
 ·rename_i id hs hd;split
  ·rename_i he;split
   ·rename_i l hrow;refine ao ?_;intro own g w a m hle hm hr;rw[ho]at hr;have hr:=aV (KT hr);rcases a_ hr with⟨hid,p,e⟩ | ⟨b,c',len,hid,h5,h6,e⟩
    ·rcases hm.ok id _ (hle _ _ hrow)with⟨_,rfl⟩ | ⟨_,_,_,_,k1,_⟩
     ·exact⟨_,key (hT.und _ _ hs) (hT.und _ _ he) (hT.und _ _ hd) e nil,S_ _⟩
     ·rw[hid]at k1;cases k1
    ·obtain⟨rfl,_,hcell⟩:=bU hm (hle _ _ hrow) hid;refine⟨_,key (hT.und _ _ hs) (hT.und _ _ he) (hT.und _ _ hd) e (wK λk hk=>?_),S_ _⟩;have h1:(cells F (.int .u8) l)[k*Jf F (.int .u8)+0]? = some (.i .u8 l[k]):=aQ (IR hk) rfl
     have h1:(cells F (.int .u8) l)[k]? = some (.i .u8 l[k]):=by simpa[Jf]using h1
     obtain⟨x,hx,hrep⟩:=hcell k _ h1;cases hrep;rw[LY];exact hx
   ·exact ah
  ·exact ah
 ·rename_i l hs hd;split
  ·rename_i he;refine ao ?_;intro own g w a m hle hm hr;rw[ho]at hr;rcases sk (sm (KT hr))with⟨rfl,p,e⟩ | ⟨b,q,cap,f,_,_,_,e,hcell,hrep⟩
   ·exact⟨_,key (hT.und _ _ hs) (hT.und _ _ he) (hT.und _ _ hd) e nil,S_ _⟩
   ·refine⟨_,key (hT.und _ _ hs) (hT.und _ _ he) (hT.und _ _ hd) e (wK λk hk=>?_),S_ _⟩;have h1:(cells F (.int .u8) l)[k*Jf F (.int .u8)+0]? = some (.i .u8 l[k]):=aQ (IR hk) rfl
    have h1:(cells F (.int .u8) l)[k]? = some (.i .u8 l[k]):=by simpa[Jf]using h1
    rw[hcell k _ h1];have hk2:=hrep k _ h1;generalize f k=v at hk2;cases hk2;rfl
  ·exact ah
 ·exact ah
end
set_option linter.unusedVariables false
set_option linter.unusedSimpArgs false
section
variable{F:Fam}{P:Program}{T:TypeId→Option (TI F)}{o:Oper}{vals:List (Dat F)}{mm:Nat→Option (Jw F)}{c:Nat}{R:Type}{K:Oq F→Option R}{own:Ow}{g:G}{w:World}{m:Nat→Option (Jw F)}
theorem zq(fn:Int→Int→Int)(step:Value→Value→Sem Value)(hs:∀(k:IntKind)(x y:Int)(w:World),(step (.int k x) (.int k y)).run P w = .ok (.int k (fn x y)) w) :
  ∀(l:List (Dat F)) (vs:List Value) (k:IntKind) (n r:Int),qe fn k n l=some r→vs.length=l.length→(∀(j:Nat)(d:Dat F)(x:Value),l[j]? = some d→vs[j]? = some x→Jr P g w d x)→
   (vs.foldlM step (.int k n)).run P w = .ok (.int k r) w:=by
 intro l
 induction l with
 | nil=>
  intro vs k n r h hl _
  have:vs = []:=O1 (by simpa using hl)
  subst this;simp only[qe,KV]at h;subst h;simp
 | cons d l ih=>
  intro vs k n r h hl hr;unfold qe at h;split at h
  ·rename_i heq;cases heq
  ·rename_i k' m' l' heq;simp only[QeY]at heq;obtain⟨rfl,rfl⟩:=heq;split at h
   ·rename_i hk;subst hk
    match vs,hl with
    | v::vs,hl=>
     have hv:=bG (hr 0 _ v rfl rfl);subst hv;simp only[List.foldlM_cons,LC,hs,LV]
     exact ih vs k (fn n m') r h (by simpa using hl) (λj d x h1 h2=>hr (j+1) d x (by simpa using h1) (by simpa using h2))
   ·cases h
  ·cases h
theorem xm{mx:Bool}{args:Array Operand}{ats:Array TypeId}(ho:o.op = .call { callee:=.builtin (if mx then .max else .min),args,argTypes:=ats }) :
  Rule P o vals mm c K (TB vals K (if mx then imax else Od)):=by
 unfold TB;split
 ·rename_i k n0 l;split
  ·rename_i n hn;refine ao ?_;intro own g w a m hle hm hr;rw[ho]at hr
   have hargs:(Op.call { callee:=.builtin (if mx then .max else .min),args,argTypes:=ats }).operands.toList.map a.eval=(args.map a.eval).toList:=by simp[Op.operands,Call.operands]
   rw[hargs]at hr
   cases hvs:(args.map a.eval).toList with
   | nil=>rw[hvs]at hr;have:=hr.1;simp at this
   | cons v vs=>
    rw[hvs,aP]at hr;have hv:=bG hr.1;subst hv;obtain⟨hl,hr'⟩:=hr.2;refine⟨.int k n,?_,LH _ _⟩
    cases mx with
    | true=>
     have:=zq (P:=P) (g:=g) (w:=w) imax Builtin.max2 (λk x y w=>by simp[Builtin.max2,imax]) l vs k n0 n hn hl hr'
     simp only[execOp,ho,resolve,invoke,builtin,LC,MI,LV,if_true,Builtin.max_,hvs,this]
    | false=>
     have:=zq (P:=P) (g:=g) (w:=w) Od Builtin.min2 (λk x y w=>by simp[Builtin.min2,Od]) l vs k n0 n hn hl hr'
     simp only[execOp,ho,resolve,invoke,builtin,LC,MI,LV,Nb,if_false,Builtin.min_,hvs,this]
  ·exact ah
 ·exact ah
theorem j9(isSlice:Bool)(len cap:Nat)(lo hi:Option Value)(x y:Int)(hlo:(lo=none∧x=0)∨∃k,lo=some (.int k x))(hhi:(hi=none∧y=len)∨∃k,hi=some (.int k y))
  (h0:0≤x) (hxy:x≤y) (hy:y≤cap):(Instr.sliceBounds isSlice len cap lo hi none).run P w = .ok (x.toNat,y.toNat,cap) w:=by
 have hb:∀(k:IntKind)(n:Int)(c:Nat)(code:BoundsCode),0≤n→n≤c→(Instr.sliceBound (.int k n) c code).run P w = .ok n.toNat w:=by intro k n c code h1 h2;simp[Instr.sliceBound,asIntOf,h1,h2]
 have hyn:(y.toNat:Int)=y:=QeI (by omega)
 rcases hlo with⟨rfl,rfl⟩ | ⟨k,rfl⟩<;>rcases hhi with⟨rfl,rfl⟩ | ⟨k',rfl⟩
 ·simp[Instr.sliceBounds]
 ·simp[Instr.sliceBounds,hb k' y cap _ (by omega) hy]
 ·simp only[Instr.sliceBounds,LC,MI,LV];rw[hb k x len _ h0 hxy];simp
 ·simp only[Instr.sliceBounds,LC,MI,LV]
  rw[hb k' y cap _ (by omega) hy]
  simp only[LV]
  rw[hb k x y.toNat _ h0 (by rw[hyn];exact hxy)]
  simp
theorem Bc(l:List UInt8)(i j:Nat):(⟨⟨l⟩⟩:ByteArray).extract i j=⟨⟨(l.take j).drop i⟩⟩:=by apply ByteArray.ext;apply Array.ext';simp[List.extract_eq_take_drop,List.drop_take]
theorem Aw{α : Type}{l r:List α}{a b:Int}(h:slc l a b=some r):r=sub l a.toNat (b.toNat - a.toNat):=by obtain⟨_,_,_,rfl⟩:=vt h;simp[sub,List.drop_take]
theorem vB{t:Ty}{l:List (ET F t)}{v:Value}(hv:Jm w g.IV (.sl t l) v){p q:Nat}(hpq:p≤q)(hq:q≤l.length) :
  ∃ptr cap,v = .slice ptr l.length cap∧q≤cap∧Jm w g.IV (.sl t (sub l p (q - p))) (.slice (if cap=p then ptr else ptr.map (·.add (p*Jf F t))) (q - p) (cap - p)):=by
 rcases sk hv with⟨rfl,ptr,rfl⟩ | ⟨b,o,cap,f,hb,hcap,hmx,rfl,hc,hr⟩
 ·refine⟨ptr,0,rfl,by simpa using hq,?_⟩
  simp only[QeK]at hq
  have h1:p=0:=by omega
  have h2:q=0:=by omega
  subst h1 h2;simp only[sub,List.drop_nil,List.take_nil,Nat.sub_self,if_true];exact .sl0 t ptr
 ·refine⟨_,cap,rfl,by omega,?_⟩
  have hlen:(sub l p (q - p)).length=q - p:=by simp only[sub,Ld,Na];omega
  have mk:∀(b' o':Nat)(f':Nat→Value),g.IV b'→(∀k d,(cells F t (sub l p (q - p)))[k]? = some d→w.cell? ⟨b',o'+k,none⟩=some (f' k))→(∀k d,(cells F t (sub l p (q - p)))[k]? = some d→Jm w g.IV d (f' k))→
    Jm w g.IV (.sl t (sub l p (q - p))) (.slice (some ⟨b',o',none⟩) (q - p) (cap - p)):=by
   intro b' o' f' h1 h2 h3
   have:=Jm.sl (F:=F) (w:=w) (IV:=g.IV) t (sub l p (q - p)) b' o' (cap - p) f' h1 (by omega) (by omega) h2 h3
   rwa [hlen]at this
  split
  ·refine mk b o f hb ?_ ?_
   all_goals
    intro k d hk
    have h0:q - p=0:=by omega
    rw[h0]at hk;simp[sub,cells]at hk
  ·simp only[SN,Addr.add_lit];refine mk b (o+p*Jf F t) (λk=>f (p*Jf F t+k)) hb ?_ ?_
   ·intro k d hk;rw[Pq];exact hc _ d (gD hk)
   ·intro k d hk;exact hr _ d (gD hk)
theorem Bk(hT:Js P T){t:TypeId}{x:Operand}{lo hi:Option Operand}(ho:o.op = .slice t x lo hi none) :
  Rule P o vals mm c K (yj T vals mm K t (ob lo 1) (ob hi (TY lo))):=by
 have hops:∀a:Act,o.op.operands.toList.map a.eval=a.eval x::((lo.map a.eval).toList++(hi.map a.eval).toList):=by
  intro a;rw[ho]
  cases lo<;>cases hi<;>simp[Op.operands]
 have hlo:∀{dflt n:Int}{a:Act}{g:G}{w:World},Kl P g w vals (o.op.operands.toList.map a.eval)→bound vals (ob lo 1) dflt=some n→(lo.map a.eval=none∧n=dflt)∨∃k,lo.map a.eval=some (.int k n):=by
  intro dflt n a g w hr hh;rw[hops]at hr
  cases lo with
  | none=>simp only[ob,bound,KV]at hh;exact .inl ⟨rfl,hh.symm⟩
  | some l=>
   simp only[ob,bound]at hh;split at hh
   ·rename_i k n' hq;cases hh
    have:=hr.2 1 _ (a.eval l) hq (by simp)
    exact .inr ⟨k,by rw[SN,bG this]⟩
   ·cases hh
 have hhi:∀{dflt n:Int}{a:Act}{g:G}{w:World},Kl P g w vals (o.op.operands.toList.map a.eval)→bound vals (ob hi (TY lo)) dflt=some n→(hi.map a.eval=none∧n=dflt)∨∃k,hi.map a.eval=some (.int k n):=by
  intro dflt n a g w hr hh;rw[hops]at hr
  cases hi with
  | none=>simp only[ob,bound,KV]at hh;exact .inl ⟨rfl,hh.symm⟩
  | some l=>
   simp only[ob,bound]at hh;split at hh
   ·rename_i k n' hq;cases hh
    have:=hr.2 _ _ (a.eval l) hq (by cases lo<;>simp[TY])
    exact .inr ⟨k,by rw[SN,bG this]⟩
   ·cases hh
 have hx0:∀{d:Dat F}{a:Act}{g:G}{w:World},Kl P g w vals (o.op.operands.toList.map a.eval)→vals[0]? = some d→Jr P g w d (a.eval x):=by intro d a g w hr hd;rw[hops]at hr;exact hr.2 0 d _ hd rfl
 have run:∀{w:World}{a:Act}{e:TypeId}{i te:TI F} {ptr:Option Addr} {len cap:Nat} {p q:Int},T t=some i→i.desc = .slice e→T e=some te→a.eval x = .slice ptr len cap→
   ((lo.map a.eval=none∧p=0)∨∃k,lo.map a.eval=some (.int k p))→((hi.map a.eval=none∧q=len)∨∃k,hi.map a.eval=some (.int k q))→0≤p→p≤q→q≤cap→
   (execOp a.eval o).run P w = .ok (.value (.slice (if cap=p.toNat then ptr else ptr.map (·.add (p.toNat*te.size))) (q.toNat - p.toNat) (cap - p.toNat))) w:=by
  intro w a e i te ptr len cap p q hi' hd hte e1 h1 h2 h3 h4 h5;have hu:=hT.und _ _ hi';rw[hd]at hu;have hr:=j9 (P:=P) (w:=w) true len cap (lo.map a.eval) (hi.map a.eval) p q h1 h2 h3 h4 h5;simp only[execOp,ho,Instr.sliceAt,Instr.slice,LC,run_underlying hu,LV,e1,Option.map_none];rw[hr];simp only[LV,bw hT hte,MI]
 unfold yj;split
 ·rename_i l ht h0;split
  ·rename_i p q hp hq;refine aD λr hr=>ao ?_;intro own g w a m hle hm hrep;obtain⟨c1,c2,c3,rfl⟩:=vt hr;have hs:(⟨⟨l⟩⟩:ByteArray).size=l.length:=rfl;have hb:=j9 (P:=P) (w:=w) false l.length l.length (lo.map a.eval) (hi.map a.eval) p q (hlo hrep hp) (hhi hrep hq) c1 c2 c3;refine⟨_,?_,S_ _⟩;simp only[execOp,ho,Instr.sliceAt,Instr.slice,LC,run_underlying (hT.und _ _ ht),LV,sM (hx0 hrep h0),Option.map_none,Option.isSome_none,Nb,if_false,hs,MI];rw[hb];simp only[LV,Bc]
  ·exact ah
 ·rename_i e _ _ _ _ _ y ht h0;split
  ·exact ah
  ·rename_i te hte;split
   ·rename_i t' l;refine au (λhsz=>?_) (λ_=>ah);split
    ·rename_i p q hp hq;refine aD λr hr=>ao ?_;intro own g w a m hle hm hrep;obtain⟨c1,c2,c3,_⟩:=vt hr;rw[Aw hr]
     obtain⟨ptr,cap,ev,h5,h6⟩:=vB (sm (hx0 hrep h0)) (p:=p.toNat) (q:=q.toNat) (by omega) (by omega)
     rw[hsz]at h6
     exact⟨_,run ht rfl hte ev (hlo hrep hp) (hhi hrep hq) c1 c2 (by omega),.c (.im h6)⟩
    ·exact ah
   ·rename_i id;split
    ·rename_i t' l hrow;refine au (λhsz=>?_) (λ_=>ah);split
     ·rename_i p q hp hq;refine aD λpr hr=>ao ?_;intro own g w a m hle hm hrep;obtain⟨c1,c2,c3,rfl⟩:=Dv hr;rcases a_ (aV (hx0 hrep h0))with⟨hid,ptr,ev⟩ | ⟨b,c',len,hid,h5,h6,ev⟩
      ·rcases hm.ok id _ (hle _ _ hrow)with⟨_,rfl⟩ | ⟨_,_,_,_,k1,_⟩
       ·simp only[QeK]at c3 hq
        have hp0:p=0:=by omega
        have hq0:q=0:=by omega
        have hr:=run (w:=w) ht rfl hte ev (hlo hrep hp) (hhi hrep hq) c1 c2 (by omega)
        subst hp0 hq0
        exact⟨_,hr,by simpa using .c (.OO ptr hid)⟩
       ·rw[hid]at k1;cases k1
      ·obtain⟨rfl,h7,_⟩:=bU hm (hle _ _ hrow) hid
       have hr:=run (w:=w) ht rfl hte ev (hlo hrep hp) (hhi hrep hq) c1 c2 (by omega)
       refine⟨_,hr,.c ?_⟩;by_cases hpc:c'=p.toNat
       ·rw[if_pos hpc]
        refine .Nr hid (by omega) h7 ?_ h6
        by_cases h0:c'=0
        ·right;rw[← hpc,h0];simp
        ·left;omega
       ·rw[if_neg hpc,SN,Addr.add_lit,LY]
        exact .Nr hid (by omega) h7 (.inr rfl) h6
     ·exact ah
    ·rename_i t' l hrow;refine au (λhsz=>?_) (λ_=>ah);split
     ·rename_i p q hp hq;refine aD λr hr=>ao ?_;intro own g w a m hle hm hrep;obtain⟨c1,c2,c3,_⟩:=vt hr;rw[Aw hr]
      obtain⟨ptr,cap,ev,h5,h6⟩:=vB (pu hm (hle _ _ hrow) (aV (hx0 hrep h0))) (p:=p.toNat) (q:=q.toNat) (by omega) (by omega)
      rw[hsz]at h6
      exact⟨_,run ht rfl hte ev (hlo hrep hp) (hhi hrep hq) c1 c2 (by omega),.c (.im h6)⟩
     ·exact ah
    ·exact ah
   ·exact ah
 ·exact ah
theorem Dr{v:Value}(h:v.oneCell'=true):v.cells = #[v]:=by
 cases v<;>first | rfl | simp[Value.oneCell']at h
theorem g9{d:Dat F}{v:Value}(h:Jr P g w d v)(hn:d.cells.all Ko.Nu=true)(hne:0<d.cells.length) :
  v.cells.toList.length=d.cells.length∧(∀(k:Nat)(c:Ko F)(x:Value),d.cells[k]? = some c→v.cells.toList[k]? = some x→Jz g w c x)∧∀x∈v.cells.toList,x.oneCell'=true:=by
 cases d with
 | c x=>
  cases h with
  | c h=>
   have hx:x≠.any:=by rintro rfl;simp[Dat.cells,Ko.Nu]at hn
   have h1:=h.oneCell hx;rw[Dr h1]
   refine⟨rfl,?_,by simpa using h1⟩
   intro k c y h2 h3
   cases k with
   | zero=>simp only[Dat.cells,M4,KV]at h2 h3;subst h2 h3;exact h
   | succ k=>simp[Dat.cells]at h2
 | agg cs=>
  obtain⟨vs,rfl,hl,hr⟩:=lE h
  refine⟨by simpa[Value.cells,Dat.cells]using hl,by simpa[Value.cells,Dat.cells]using hr,?_⟩
  intro x hx;simp only[Value.cells]at hx;obtain⟨k,hk⟩:=RD hx
  have hlt:k<cs.length:=by rw[← hl];exact(IS.1 hk).1
  have hc:=hr k _ x (IR hlt) hk;refine hc.oneCell ?_;intro e
  have:=N9.1 hn cs[k] (by simp[Dat.cells])
  rw[e]at this;simp[Ko.Nu]at this
 | MC ds=>simp[Dat.cells]at hne
 | NG fn fs cs=>simp[Dat.cells]at hne
 | gh id=>simp[Dat.cells]at hne
 | fv ks r φ=>simp[Dat.cells]at hne
theorem yS(off:Nat):∀(l:List Value)(i:Nat)(arr:List Value),off+i+l.length≤arr.length→
  (l.zipIdx i).foldl (λ(cs:Array Value)(p:Value×Nat)=>cs.setIfInBounds (off+p.2) p.1) ⟨arr⟩=⟨arr.take (off+i)++l++arr.drop (off+i+l.length)⟩
 | [],i,arr,_=>by simp
 | v::l,i,arr,h=>by
  simp only[List.zipIdx_cons,List.foldl_cons]
  have e:(⟨arr⟩:Array Value).setIfInBounds (off+i) v=⟨arr.set (off+i) v⟩:=by apply Array.ext';simp
  rw[e,yS off l (i+1) (arr.set (off+i) v) (by simp at h ⊢;omega)]
  congr 1
  have e2:=list_seg_step arr (off+i) v l (by simp at h;omega)
  simpa[Pq]using e2
theorem CG(off:Nat)(v:Value)(arr:List Value)(h:off+v.cells.size≤arr.length) :
  v.cells.zipIdx.foldl (λ(cs:Array Value)(p:Value×Nat)=>cs.setIfInBounds (off+p.2) p.1) ⟨arr⟩=⟨arr.take off++v.cells.toList++arr.drop (off+v.cells.size)⟩:=by
 have:=yS off v.cells.toList 0 arr (by simpa using h)
 rw[← Array.foldl_toList];simpa using this
theorem AI{cs ds:List (Ko F)}{xs ys:List Value}{off:Nat}(hl:xs.length=cs.length)(hr:∀(k:Nat)(c:Ko F)(x:Value),cs[k]? = some c→xs[k]? = some x→Jz g w c x)
  (kl:ys.length=ds.length) (kr:∀(k:Nat)(c:Ko F)(x:Value),ds[k]? = some c→ys[k]? = some x→Jz g w c x) :
  (xs.take off++ys++xs.drop (off+ys.length)).length=(cs.take off++ds++cs.drop (off+ds.length)).length∧
  ∀(k:Nat)(c:Ko F)(x:Value),(cs.take off++ds++cs.drop (off+ds.length))[k]? = some c→(xs.take off++ys++xs.drop (off+ys.length))[k]? = some x→Jz g w c x:=by
 constructor
 ·simp[hl,kl]
 ·intro k c x h1 h2
  have e1:(xs.take off).length=(cs.take off).length:=by simp[hl]
  rw[MF]at h1 h2;by_cases hk:k<(cs.take off).length
  ·rw[Mv hk]at h1
   rw[Mv (by rw[e1];exact hk)]at h2
   rw[MO]at h1 h2;split at h1
   ·rename_i hk2;rw[if_pos hk2]at h2;exact hr k c x h1 h2
   ·cases h1
  ·rw[Nc (by omega)]at h1
   rw[Nc (by omega)]at h2
   rw[e1]at h2;by_cases hk2:k - (cs.take off).length<ds.length
   ·rw[Mv hk2]at h1
    rw[Mv (by rw[kl];exact hk2)]at h2
    exact kr _ c x h1 h2
   ·rw[Nc (by omega)]at h1
    rw[Nc (by omega)]at h2
    rw[Ov]at h1 h2;rw[kl]at h2;exact hr _ c x h1 h2
theorem uD(place:Nat→Option (Nat×Nat)):∀(ps:List (Nat×Dat F)) (vs:List (Nat×Value)) (cs cs':List (Ko F)) (arr:List Value),lay place cs ps=some cs'→
  vs.map (·.1)=ps.map (·.1)→(∀(k:Nat)(d:Nat×Dat F)(x:Nat×Value),ps[k]? = some d→vs[k]? = some x→Jr P g w d.2 x.2)→
  arr.length=cs.length→(∀(k:Nat)(c:Ko F)(x:Value),cs[k]? = some c→arr[k]? = some x→Jz g w c x)→
  ∃arr':List Value,Instr.fill place ⟨arr⟩ vs=some ⟨arr'⟩∧arr'.length=cs'.length∧cs'.length=cs.length∧∀(k:Nat)(c:Ko F)(x:Value),cs'[k]? = some c→arr'[k]? = some x→Jz g w c x
 | [],vs,cs,cs',arr,h,hv,_,hl,hr=>by
  have:vs = []:=by simpa using hv
  subst this;simp only[lay,KV]at h;subst h;exact⟨arr,rfl,hl,rfl,hr⟩
 | (i,d)::ps,vs,cs,cs',arr,h,hv,hd,hl,hr=>by
  match vs,hv with
  | (j,v)::vs,hv=>
   simp only[KZ,QeY]at hv;obtain⟨rfl,hv2⟩:=hv;unfold lay at h
   cases hp:place j with
   | none=>rw[hp]at h;cases h
   | some q=>
    obtain⟨off,size⟩:=q;rw[hp]at h;dsimp only at h;split at h
    ·rename_i hc;simp only[KQ,decide_eq_true_eq,MV]at hc;obtain⟨⟨⟨h1,h2⟩,h3⟩,h4⟩:=hc;have h2:=PX h2;have hvd:=hd 0 (j,d) (j,v) rfl rfl
     obtain⟨c1,c2,c3⟩:=g9 (d:=d) (v:=v) hvd h3 (by omega)
     have hsz:v.cells.size=size:=by rw[← SF,c1,h1]
     have hle:off+size≤arr.length:=by omega
     have hseg:=AI (off:=off) hl hr c1 c2;have e1:v.cells.toList.length=v.cells.size:=SF;rw[h1]at hseg;rw[e1,hsz]at hseg;obtain⟨arr',r1,r2,r3,r4⟩:=uD place ps vs _ cs' (arr.take off++v.cells.toList++arr.drop (off+size)) h hv2 (λk d x a b=>hd (k+1) d x a b) hseg.1 hseg.2;refine⟨arr',?_,r2,?_,r4⟩
     ·unfold Instr.fill;rw[hp];dsimp only
      rw[if_neg (by simp[hsz];omega)]
      have:=CG off v arr (by omega)
      rw[hsz]at this;rw[this];exact r1
     ·rw[r3];simp[h1];omega
    ·cases h
theorem qV(hT:Js P T):∀(fs:List Field)(pl:List (Nat×Nat)),nG T fs=some pl→fs.mapM (λf=>(P.info? f.type).map λi=>(f.offset,i.size))=some pl
 | [],pl,h=>by simp only[nG,KV]at h;subst h;rfl
 | f::fs,pl,h=>by
  simp only[nG]at h;split at h
  ·cases h
  ·rename_i ti hti;split at h
   ·cases h
   ·rename_i r hr;cases h;obtain⟨j,hj,hs,_⟩:=hT.info _ _ hti;simp[List.mapM_cons,hj,hs,qV hT fs r hr]
theorem vC(hT:Js P T){t:TypeId}{ti:TI F}(ht:T t=some ti):∃(j:TypeInfo)(z:Value),P.info? t=some j∧j.zero=some z∧z.cells.toList.length=(ti.zero.map (Ko.im (F:=F))).length∧
  ∀(w:World)(g:G)(k:Nat)(c:Ko F) (x:Value),(ti.zero.map Ko.im)[k]? = some c→z.cells.toList[k]? = some x→Jz g w c x:=by
 obtain⟨j,hj,hs,hb,z,hz,hzs,hzl,hr⟩:=hT.info t ti ht
 refine⟨j,z,hj,hz,by rw[SF,hzs,Ox,hzl],?_⟩
 intro w g k c x h1 h2;obtain⟨d,hd,rfl⟩:=fy h1
 exact .im (hr w g.IV k d x hd (by simpa using h2))
theorem rV{a:Act}:∀(parts:List (Nat×Operand)) (vals:List (Dat F)),Kl P g w vals (parts.map λp=>a.eval p.2)→
  (parts.map λ(i,x)=>(i,a.eval x)).map (·.1)=((parts.map (·.1)).zip vals).map (·.1)∧
  ∀(k:Nat)(d:Nat×Dat F)(x:Nat×Value),((parts.map (·.1)).zip vals)[k]? = some d→(parts.map λ(i,x)=>(i,a.eval x))[k]? = some x→Jr P g w d.2 x.2
 | [],vals,h=>by simp
 | p::l,vals,h=>by
  match vals,h with
  | [],h=>have:=h.1;simp at this
  | v::vals,h=>
   simp only[KZ,aP]at h;obtain⟨h1,h2⟩:=rV l vals h.2
   refine⟨by simpa using h1,?_⟩
   intro k d x h3 h4
   cases k with
   | zero=>simp only[KZ,List.zip_cons_cons,M4,KV]at h3 h4;subst h3 h4;exact h.1
   | succ k=>simp only[KZ,List.zip_cons_cons,WW]at h3 h4;exact h2 k d x h3 h4
theorem Bi(hT:Js P T){t:TypeId}{parts:Array (Nat×Operand)}(ho:o.op = .build t parts):Rule P o vals mm c K (y7 T vals K t (parts.toList.map (·.1))):=by
 have fin:∀(place:Nat→Option (Nat×Nat)) (ti:TI F) (cs:List (Ko F)),T t=some ti→(∀cells vs z j,P.info? t=some j→j.zero=some z→Instr.fill place z.cells vs=some cells→P.built t vs=some cells)→
   lay place (ti.zero.map .im) ((parts.toList.map (·.1)).zip vals)=some cs→Ra P o vals mm (.agg cs):=by
  intro place ti cs hti hb hcs own g w a m hle hm hr;rw[ho]at hr
  have hr':Kl P g w vals (parts.toList.map λp=>a.eval p.2):=by
   have:(Op.build t parts).operands.toList.map a.eval=parts.toList.map λp=>a.eval p.2:=by simp[Op.operands,Function.comp_def]
   rwa [this]at hr
  obtain⟨p1,p2⟩:=rV parts.toList vals hr';obtain⟨j,z,hj,hz,hzl,WI⟩:=vC hT hti;obtain⟨arr,r1,r2,r3,r4⟩:=uD (P:=P) (g:=g) (w:=w) place _ (parts.toList.map λ(i,x)=>(i,a.eval x)) _ cs z.cells.toList hcs p1 p2 hzl (WI w g)
  have hbt:=hb ⟨arr⟩ (parts.map λ(i,x)=>(i,a.eval x)).toList z j hj hz (by simpa using r1)
  refine⟨.agg ⟨arr⟩,?_,.agg r2 r4⟩;simp only[execOp,ho,LC,run_build w t _ _ hbt,LV,MI]
 unfold y7;split
 ·rename_i fs sz bt zero _ _ ht;split
  ·exact ah
  ·rename_i pl hpl;split
   ·exact ah
   ·rename_i cs hcs;refine ao (fin _ _ cs ht ?_ hcs);intro cells vs z j hj hz hf;have hu:=hT.und _ _ ht;simp only[Program.built,hj,hu,hz,qV hT _ _ hpl];simpa using hf
 ·rename_i n e' sz bt zero _ _ ht;split
  ·exact ah
  ·rename_i te hte;split
   ·exact ah
   ·rename_i cs hcs;refine ao (fin _ _ cs ht ?_ hcs);intro cells vs z j hj hz hf;have hu:=hT.und _ _ ht;obtain⟨j',hj',hs',_⟩:=hT.info _ _ hte;simp only[Program.built,hj,hu,hz,hj',hs'];exact hf
 ·exact ah
end
end Go.Fx
