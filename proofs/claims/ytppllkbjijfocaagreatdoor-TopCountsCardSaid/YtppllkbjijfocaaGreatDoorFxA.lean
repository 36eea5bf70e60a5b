/-
  The framework, first part: what is known of a frame as typed data;that each operation that makes no call does what the evaluator says. Conditions: none.
-/
import Derived.Calls
import Derived.Orders
import Derived.Below
import Derived.Laws.MakeOwn
import Derived.Laws.Rows
import Derived.Laws.CopyRow
import Derived.Laws.CopyOwn
import Derived.Tactics
import Derived.KernelRfl
import Derived.Laws.StructEq
import Derived.Laws.Strings
import Derived.Laws.BytesString
namespace Go.Fx
open Go
set_option linter.unusedVariables false
set_option linter.unusedSimpArgs false
abbrev KV:=@Bool.and_eq_true
abbrev KC:=@Nat.le_refl
abbrev K3:=@Option.some.injEq
abbrev K_:=@List.getElem_mem
abbrev ME:=@List.getElem?_append_left
abbrev Lj:=@List.length_take
abbrev K7:=@List.map_cons
abbrev Nj:=@List.getElem?_append_right
abbrev L8:=@Result.andThen_ok
abbrev M9:=@List.getElem?_cons_zero
abbrev Lr:=@List.mem_cons
abbrev M_:=@Nat.eq_of_beq_eq_true
abbrev M5:=@Nat.mul_le_mul_right
abbrev MK:=@List.append_assoc
abbrev MV:=@List.getElem?_take
abbrev Mr:=@List.mem_append
abbrev LG:=@List.map_nil
abbrev MU:=@List.getElem?_map
abbrev LM:=@Sem.run_bind
abbrev Ni:=@Bool.false_eq_true
abbrev O9:=@List.eq_nil_of_length_eq_zero
abbrev L_:=@Nat.zero_add
abbrev Nh:=@List.length_drop
abbrev MP:=@Nat.le_trans
abbrev MO:=@Sem.run_pure
abbrev Q_:=@Array.getD_eq_getD_getElem?
abbrev P_:=@Array.getElem?_eq_some_iff
abbrev OC:=@List.getElem?_drop
abbrev Oe:=@List.all_eq_true
abbrev PG:=@List.mem_cons_of_mem
abbrev O8:=@Nat.lt_of_lt_of_le
abbrev M4:=@Nat.blt_eq
abbrev P9:=@Nat.le_of_ble_eq_true
abbrev Ux:=@List.take_succ_eq_append_getElem
abbrev OD:=@List.length_map
abbrev SX:=@List.mem_or_eq_of_mem_set
abbrev RN:=@Option.map_eq_some_iff
abbrev Rq:=@List.mem_of_getElem?
abbrev RL:=@List.getElem?_of_mem
abbrev O7:=@List.nil_append
abbrev Oz:=@List.mem_map
abbrev PE:=@Bool.or_eq_true
abbrev Rp:=@Bool.not_eq_true'
abbrev P8:=@List.length_cons
abbrev PI:=@List.nodup_cons
abbrev SV:=@Array.length_toList
abbrev PD:=@Nat.add_assoc
abbrev UW:=@Option.bind_eq_some_iff
abbrev OQ:=@Nat.add_mul
abbrev Uw:=@List.take_append_drop
abbrev Uv:=@List.length_filter_le
abbrev RJ:=@List.length_set
abbrev Uu:=@List.mem_of_mem_take
abbrev SS:=@List.cons_append
abbrev SL:=@List.take_length
abbrev Ta:=@Option.getD_some
abbrev SQ:=@List.map_append
abbrev UU:=@Bool.or_eq_false_iff
abbrev Ro:=@Nat.succ_mul
abbrev S_:=@Option.map_some
abbrev XL:=@Array.getElem?_setIfInBounds
abbrev Ut:=@Int.toNat_natCast
abbrev WK:=@List.mem_append_right
abbrev W_:=@List.getElem?_cons_succ
abbrev W9:=@Nat.add_sub_cancel_left
abbrev R4:=@Nat.add_zero
abbrev WJ:=@List.mem_append_left
abbrev TD:=@Option.none_or
abbrev QcN:=@List.perm_append_comm
abbrev U9:=@List.flatten_cons
abbrev TB:=@List.all_cons
abbrev ZG:=@Array.getElem?_append_left
abbrev XK:=@List.take_of_length_le
abbrev WZ:=@List.getElem_of_mem
abbrev WI:=@List.nodup_append
abbrev WY:=@List.mem_cons_self
abbrev XJ:=@List.mem_of_mem_drop
abbrev WH:=@List.filter_cons
abbrev SN:=@Int.not_le
abbrev QcY:=@Array.getElem?_eq_getElem
abbrev ZF:=@Array.getElem?_toList
abbrev XH:=@List.filter_append
abbrev QdA:=@Int.eq_ofNat_of_zero_le
abbrev WX:=@List.mem_filter
abbrev ZE:=@List.mem_map_of_mem
abbrev WW:=@Nat.mul_le_mul
abbrev QdE:=@Array.getElem?_modify
abbrev WV:=@List.mem_range
abbrev QdG:=@List.getElem?_eq_none
abbrev QdH:=@List.drop_eq_getElem_cons
abbrev QdI:=@List.mem_of_find?_eq_some
abbrev U8:=@Nat.zero_le
abbrev XI:=@List.append_nil
abbrev ZC:=@List.ext_getElem?
abbrev QdM:=@Array.toList_append
abbrev QdN:=@List.getElem_set_ne
abbrev QdO:=@Nat.add_sub_cancel'
abbrev QdP:=@List.map_congr_left
abbrev ZB:=@List.not_mem_nil
abbrev ZA:=@List.getElem_inj
abbrev WU:=@Nat.beq_refl
abbrev QdT:=@List.find?_eq_none
abbrev QdU:=@List.getElem_set_self
abbrev QdV:=@Nat.mul_min_mul_right
abbrev QdW:=@List.length_singleton
abbrev QdX:=@List.Perm.append_left
abbrev WG:=@Nat.ble_eq
abbrev QdZ:=@List.range_eq_range'
abbrev Qe_:=@Nat.pow_le_pow_right
abbrev WT:=@Nat.le_succ
abbrev Zz:=@List.nodup_nil
abbrev Zy:=@List.drop_drop
abbrev XG:=@Nat.add_comm
abbrev QeE:=@List.drop_length
abbrev QeF:=@List.map_toArray
abbrev QeG:=@List.isEmpty_iff
abbrev XF:=@Nat.le_of_eq
abbrev QeI:=@Int.toNat_of_nonneg
abbrev QeJ:=@Array.eq_empty_of_size_eq_zero
abbrev QeK:=@List.length_nil
abbrev QeL:=@Int.natCast_mul
abbrev QeM:=@List.find?_eq_some_iff_getElem
abbrev QeN:=@List.find?_some
abbrev QeO:=@Bool.and_eq_false_iff
abbrev Zx:=@Nat.ne_of_lt
abbrev QeQ:=@List.set_getElem_self
abbrev QeR:=@Int.tdiv_eq_ediv_of_nonneg
abbrev QeS:=@Int.mul_assoc
abbrev QeT:=@List.getElem?_range
abbrev QeU:=@List.length_pos_iff
abbrev QeV:=@List.filter_eq_self
abbrev QeW:=@List.cons.injEq
abbrev QeX:=@List.mem_replicate
abbrev QeY:=@Nat.sub_zero
abbrev QeZ:=@Option.isSome_iff_exists
abbrev Qf_:=@Array.size_setIfInBounds
abbrev QfA:=@Nat.lt_of_le_of_lt
abbrev QfB:=@Bool.eq_false_iff
abbrev QfC:=@List.any_eq_false
abbrev QfD:=@List.getElem?_set_self
abbrev QfE:=@List.Perm.append_right
abbrev QfF:=@List.filter_eq_nil_iff
abbrev QfG:=@List.countP_cons
abbrev QfH:=@List.nodup_range
abbrev QfI:=@Nat.lt_succ_self
theorem IY.{u, v} {α : Type u} {β : Type v} (a:α) (f:α→Option β):(some a).bind f=f a:= rfl
theorem IZ.{u} {α : Type u} {l:List α} {i:Nat} (h:i<l.length):l[i]? = some l[i]:= List.getElem?_eq_getElem h
theorem I0.{u} {α : Type u} {l:List α} {i:Nat} {a:α}:l[i]? = some a↔∃h:i<l.length, l[i]=a:= List.getElem?_eq_some_iff
theorem I3.{u} {α : Type u} {as bs:List α}:(as++bs).length=as.length+bs.length:= List.length_append
theorem I4.{u} {α : Type u} {a b:α}:a∈[b]↔a=b:= List.mem_singleton
inductive Ty where
 | int (k:IntKind)
 | bool
 | str
 | slice (t:Ty)
 | st (n:Nat)
 deriving DecidableEq
def Ty.KX:Ty→Bool
 | .st n=>Nat.ble 500 n
 | _=>false
def Ty.SY:Ty→Bool
 | .st n=>Nat.beq (n % 2) 1
 | _=>false
@[reducible] def El(S:Nat→Type):Ty→Type
 | .int _=>Int
 | .bool=>Bool
 | .str=>List UInt8
 | .slice t=>List (El S t)
 | .st n=>S n
inductive NV(S:Nat→Type) where
 | i (k:IntKind) (n:Int)
 | b (x:Bool)
 | s (l:List UInt8)
 | nl
 | sl (t:Ty) (l:List (El S t))
 | v (x:Value)
@[reducible] def NR(S:Nat→Type):List Ty→Type
 | []=>Unit
 | t::r=>El S t×NR S r
structure Fam where
 S:Nat→Type
 fs:Nat→List Ty
 un:(n:Nat)→S n→NR S (fs n)
 up:(n:Nat)→NR S (fs n)→S n
 um:∀n a,un n (up n a)=a
abbrev ND(F:Fam):=NV F.S
abbrev ET(F:Fam)(t:Ty):=El F.S t
abbrev Js(F:Fam)(ts:List Ty):=NR F.S ts
def enc1(F:Fam):(t:Ty)→ET F t→ND F
 | .int k,n=>.i k n
 | .bool,x=>.b x
 | .str,l=>.s l
 | .slice t,l=>.sl t l
 | .st _,_=>.nl
def RB(F:Fam):(t:Ty)→ND F→Option (ET F t)
 | .int k,.i k' n=>if k'=k then some n else none
 | .bool,.b x=>some x
 | .str,.s l=>some l
 | .slice t,.sl t' l=>if h:t'=t then some (h▸l)else none
 | .slice t,.nl=>cond t.KX none (some [])
 | _,_=>none
def LV(F:Fam):(ts:List Ty)→Js F ts→List (ND F)
 | [],_=>[]
 | t::r,a=>enc1 F t a.1::LV F r a.2
def OZ(F:Fam):(ts:List Ty)→List (ND F)→Option (Js F ts)
 | [],[]=>some ()
 | t::r,c::cs=>match RB F t c with
  | none=>none
  | some x=>match OZ F r cs with
   | none=>none
   | some y=>some (x,y)
 | _,_=>none
def Jj(F:Fam):(t:Ty)→ET F t→List (ND F)
 | .st n,x=>LV F (F.fs n) (F.un n x)
 | .int k,n=>[.i k n]
 | .bool,x=>[.b x]
 | .str,l=>[.s l]
 | .slice t,l=>[.sl t l]
def Jm(F:Fam):Ty→Nat
 | .st n=>(F.fs n).length
 | _=>1
def Ty.K9:Ty→Bool
 | .st _=>true
 | _=>false
def Ml(F:Fam):(t:Ty)→List (ND F)→Option (ET F t)
 | .st n,cs=>match OZ F (F.fs n) cs with
  | none=>none
  | some a=>some (F.up n a)
 | .int k,[c]=>RB F (.int k) c
 | .bool,[c]=>RB F .bool c
 | .str,[c]=>RB F .str c
 | .slice t,[c]=>RB F (.slice t) c
 | _,_=>none
inductive Rs{S:Nat→Type}:NV S→NV S→Prop where
 | refl (d:NV S):Rs d d
 | nl (t:Ty) (h:t.KX=false):Rs .nl (.sl t [])
def OT{S:Nat→Type}(cs ds:List (NV S)):Prop:=cs.length=ds.length∧∀(k:Nat)(c d:NV S),cs[k]? = some c→ds[k]? = some d→Rs c d
theorem yu(F:Fam):∀(ts:List Ty)(a:Js F ts),(LV F ts a).length=ts.length
 | [],_=>rfl
 | t::r,a=>by simp[LV,yu F r a.2]
theorem aT(F:Fam)(t:Ty)(x:ET F t):(Jj F t x).length=Jm F t:=by
 cases t<;>simp[Jj,Jm,yu]
theorem ox(F:Fam){t:Ty}{c:ND F}{x:ET F t}(h:RB F t c=some x):Rs c (enc1 F t x):=by
 unfold RB at h;split at h
 ·split at h
  ·rename_i hk;cases h;subst hk;exact .refl _
  ·cases h
 ·cases h;exact .refl _
 ·cases h;exact .refl _
 ·split at h
  ·rename_i hk;cases h;subst hk;exact .refl _
  ·cases h
 ·rename_i t
  cases ht:t.KX with
  | true=>rw[ht]at h;cases h
  | false=>rw[ht]at h;cases h;exact .nl _ ht
 ·cases h
theorem yU(F:Fam):∀{ts:List Ty}{cs:List (ND F)} {a:Js F ts},OZ F ts cs=some a→OT cs (LV F ts a)
 | [],cs,a,h=>by
  cases cs with
  | nil=>exact⟨rfl,by simp⟩
  | cons c cs=>simp[OZ]at h
 | t::r,cs,a,h=>by
  cases cs with
  | nil=>simp[OZ]at h
  | cons c cs=>
   simp only[OZ]at h;split at h
   ·cases h
   ·rename_i x hx;split at h
    ·cases h
    ·rename_i y hy;cases h;obtain⟨h1,h2⟩:=yU F hy
     refine⟨by simp[LV,h1],?_⟩
     intro k c' d' hc hd
     cases k with
     | zero=>simp only[LV,M9,K3]at hc hd;subst hc;subst hd;exact ox F hx
     | succ k=>simp only[LV,W_]at hc hd;exact h2 k c' d' hc hd
theorem sV{S:Nat→Type}{c d:NV S}(h:Rs c d):OT [c] [d]:=by
 refine⟨rfl,?_⟩;intro k c' d' hc hd
 cases k with
 | zero=>simp only[M9,K3]at hc hd;subst hc;subst hd;exact h
 | succ k=>simp at hc
theorem bK(F:Fam){t:Ty}{cs:List (ND F)}{x:ET F t}(h:Ml F t cs=some x):OT cs (Jj F t x):=by
 unfold Ml at h;split at h
 ·split at h
  ·cases h
  ·rename_i a ha;cases h;simp only[Jj,F.um];exact yU F ha
 ·exact sV (ox F h)
 ·exact sV (ox F h)
 ·exact sV (ox F h)
 ·exact sV (ox F h)
 ·cases h
def cells(F:Fam)(t:Ty)(l:List (ET F t)):List (ND F):=(l.map (Jj F t)).flatten
inductive Ju{F:Fam}(w:World)(I7:Nat→Prop):ND F→Value→Prop where
 | i (k:IntKind) (n:Int):Ju w I7 (.i k n) (.int k n)
 | b (x:Bool):Ju w I7 (.b x) (.bool x)
 | s (l:List UInt8):Ju w I7 (.s l) (.string ⟨⟨l⟩⟩)
 | nl (p:Option Addr):Ju w I7 .nl (.slice p 0 0)
 | v (x:Value) (h:x.oneCell'=true):Ju w I7 (.v x) x
 | sl0 (t:Ty) (p:Option Addr):Ju w I7 (.sl t []) (.slice p 0 0)
 | sl (t:Ty) (l:List (ET F t)) (b o cap:Nat) (f:Nat→Value) (hb:I7 b) (hcap:l.length≤cap) (hm:cap≤maxLen)
   (hc:∀k d,(cells F t l)[k]? = some d→w.cell? ⟨b,o+k,none⟩=some (f k))
   (hr:∀k d,(cells F t l)[k]? = some d→Ju w I7 d (f k)) :
   Ju w I7 (.sl t l) (.slice (some ⟨b,o,none⟩) l.length cap)
theorem KS{w w':World}{a:Addr}(h:w'.heap[a.block]? = w.heap[a.block]?):w'.cell? a=w.cell? a:=by simp[World.cell?,h]
section
variable{F:Fam}
theorem Ju.mono{w w':World}{I7 Jo:Nat→Prop}(hi:∀b,I7 b→Jo b)(hw:∀b,I7 b→w'.heap[b]? = w.heap[b]?)
  {d:ND F} {x:Value} (h:Ju w I7 d x):Ju w' Jo d x:=by
 induction h with
 | i=>exact .i _ _
 | b=>exact .b _
 | s=>exact .s _
 | nl=>exact .nl _
 | v x h=>exact .v x h
 | sl0=>exact .sl0 _ _
 | sl t l b o cap f hb hcap hm hc hr ih=>
  exact .sl t l b o cap f (hi b hb) hcap hm (λk d hk=>by rw[KS (hw b hb)];exact hc k d hk) ih
theorem Ju.Un{w:World}{I7:Nat→Prop}{d d':ND F}{x:Value}(hl:Rs d d')(h:Ju w I7 d x):Ju w I7 d' x:=by
 cases hl with
 | refl=>exact h
 | nl t ht=>cases h with | nl p=>exact .sl0 t p
theorem Ju.oneCell{w:World}{I7:Nat→Prop}{d:ND F}{x:Value}(h:Ju w I7 d x):x.oneCell'=true:=by
 cases h<;>first | rfl | assumption
def NV.flat:NV F.S→Bool
 | .i _ _ | .b _ | .s _ | .v _=>true
 | _=>false
theorem Ju.flat{w w':World}{I7 Jo:Nat→Prop}{d:ND F}{x:Value}(hf:d.flat=true)(h:Ju w I7 d x):Ju w' Jo d x:=by
 cases h with
 | i=>exact .i _ _
 | b=>exact .b _
 | s=>exact .s _
 | v x h=>exact .v x h
 | _=>simp[NV.flat]at hf
def MB(F:Fam):(ts:List Ty)→Js F ts→List (List (ND F)×Bool)
 | [],_=>[]
 | t::r,x=>(Jj F t x.1,t.K9)::MB F r x.2
inductive Md(w:World)(I7:Nat→Prop):List (ND F)×Bool→Value→Prop where
 | one {d:ND F} {v:Value} (h:Ju w I7 d v):Md w I7 ([d],false) v
 | agg {cs:List (ND F)} {vs:List Value} (hl:vs.length=cs.length) (h:∀(k:Nat)(c:ND F)(x:Value),cs[k]? = some c→vs[k]? = some x→Ju w I7 c x):Md w I7 (cs,true) (.agg ⟨vs⟩)
theorem Md.mono{w w':World}{I7 Jo:Nat→Prop}(hi:∀b,I7 b→Jo b)(hw:∀b,I7 b→w'.heap[b]? = w.heap[b]?)
  {d:List (ND F)×Bool} {x:Value} (h:Md w I7 d x):Md w' Jo d x:=by
 cases h with
 | one h=>exact .one (h.mono hi hw)
 | agg hl h=>exact .agg hl (λk c x a b=>(h k c x a b).mono hi hw)
def Rk(w:World)(I7:Nat→Prop)(ds:List (List (ND F)×Bool))(vs:List Value):Prop:=
 vs.length=ds.length∧∀(k:Nat)(d:List (ND F)×Bool) (x:Value),ds[k]? = some d→vs[k]? = some x→Md w I7 d x
def bc (P : Program) (f : FuncId) : Prop:=∃ fn,P.funcs[f]? = some fn ∧ (fn.name == "runtime.NumGoroutine") = false ∧ fn.body.isNone = false
def PZ(P:Program)(F:Fam)(w:World)(I7:Nat→Prop)(ks:List Ty)(r:Ty)(φ : Js F ks→Option (ET F r))(v:Value):Prop:=
 ∃fid bound captured,v = .func (.func fid) ⟨bound⟩ ⟨captured⟩∧(bound = []∨ks.length=1)∧bc P fid∧
  ∀(w':World)(Jo:Nat→Prop),(∀b,I7 b→Jo b∧w'.heap[b]? = w.heap[b]?)→(∀b,Jo b→b<w'.heap.size)→∀a x vs,φ a=some x→Rk w' Jo (MB F ks a) vs→
   Calls P fid ⟨bound++vs++captured⟩ w' λe w''=>∃v,e = .returned v∧RowKit.Below w'.heap.size w' w''∧Md w'' Jo (Jj F r x,r.K9) v∧w'.drawn≤w''.drawn
inductive Kv(F:Fam) where
 | im (d:ND F)
 | pt (cs:List (ND F)) (off:Nat)
 | ptr (id off:Nat)
 | Mg (id sz i off:Nat)
 | KU (id:Nat)
 | Ny (id sz off len:Nat)
 | O4 (id sz i off:Nat)
 | Px (id sz i off sz' j off':Nat)
 | O6 (id n:Nat)
 | Og (id:Nat)
 | P5 (cs:List (ND F))
 | ln (d:ND F)
 | UN (cs:List (ND F)) (off:Nat)
 | any
 | one
abbrev NS:=List (Option (Nat×Nat×Nat))
def Kr:NS→List Nat
 | []=>[]
 | some (b,_)::l=>b::Kr l
 | none::l=>Kr l
abbrev Pl:=Option (Nat×Nat×Nat×NS)
structure G where
 ids:Nat→Option Pl
 I7:Nat→Prop
 len:Nat→Prop
abbrev G.al(g:G)(b:Nat):Prop:=g.I7 b∨g.len b
def G.blk(g:G)(id b:Nat):Prop:=∃b0 c,g.ids id=some (some (b0,c))∧b∈b0::Kr c.2.2
theorem G.Kt{g:G}{id b:Nat}{c:Nat×Nat×NS}(h:g.ids id=some (some (b,c))):g.blk id b:=⟨b,c,h,WY⟩
theorem G.Ox{g:G}{id b b':Nat}{x y:Nat}(h:g.ids id=some (some (b,x,y,[])))(hb:g.blk id b'):b'=b:=by obtain⟨b0,c,h1,h2⟩:=hb;rw[h]at h1;cases h1;simpa[Kr]using h2
theorem G.RG{g:G}{id b':Nat}(h:g.ids id=some none)(hb:g.blk id b'):False:=by obtain⟨b0,c,h1,h2⟩:=hb;rw[h]at h1;cases h1
def bD(w:World)(I7:Nat→Prop)(t:Ty)(l:List (ET F t)):Pl→Prop
 | none=>l = []
 | some (b,cap,n)=>n=(l.length,[])∧l.length≤cap∧cap≤maxLen∧∃cur e,w.heap[b]? = some (.cells ⟨cur⟩ e (0,0))∧cur.length=cap*Jm F t∧
   ∀(k:Nat)(d:ND F)(x:Value),(cells F t l)[k]? = some d→cur[k]? = some x→Ju w I7 d x
def Ll:Pl→Value→Prop
 | none,v=>∃p,v = .slice p 0 0
 | some (b,cap,n),v=>v = .slice (some ⟨b,0,none⟩) n.1 cap
def KW:Option (Nat×Nat×Nat)→Pl
 | none=>none
 | some (b,cap,n)=>some (b,cap,n,[])
def LJ(w:World)(I7:Nat→Prop):ND F→Value→Option (Nat×Nat×Nat)→Prop
 | .sl t l,x,pl=>bD w I7 t l (KW pl)∧Ll (KW pl) x
 | d,x,pl=>pl=none∧d.flat=true∧Ju w I7 d x
def Nc(w:World)(I7:Nat→Prop)(t:Ty)(l:List (ET F t)):Pl→Prop
 | none=>l = []
 | some (b,cap,n)=>n.1=l.length∧l.length≤cap∧cap≤maxLen∧n.2.length=(cells F t l).length∧(b::Kr n.2).Nodup∧∃cur e,w.heap[b]? = some (.cells ⟨cur⟩ e (0,0))∧cur.length=cap*Jm F t∧
   ∀(k:Nat)(d:ND F)(x:Value)(pl:Option (Nat×Nat×Nat)),(cells F t l)[k]? = some d→cur[k]? = some x→n.2[k]? = some pl→LJ w I7 d x pl
def MapAt(w:World)(I7:Nat→Prop)(t:Ty)(l:List (ET F t))(b:Nat):Prop:=
 ∃es:List MapEntry,w.heap[b]? = some (.map ⟨es⟩ es.length)∧es.length=l.length∧
  ∀(k:Nat)(x:ET F t)(e:MapEntry),l[k]? = some x→es[k]? = some e→e.born=k∧∃kd Np,Jj F t x=kd::Np∧Ju w I7 kd e.key∧Md w I7 (Np,t.SY) e.val
def LX(w:World)(I7:Nat→Prop)(t:Ty)(l:List (ET F t))(pl:Pl):Prop:=
 if t.KX=true then∃b,pl=some (b,0,0,[])∧MapAt w I7 t l b else bD w I7 t l pl
def Pp(t:Ty)(pl:Pl)(v:Value):Prop:=
 if t.KX=true then∃b,pl=some (b,0,0,[])∧v = .map (some b)else Ll pl v
theorem fa{b:Nat}{c:Nat×Nat}:∀{ns:NS}{k:Nat},ns[k]? = some (some (b,c))→b∈Kr ns
 | [],k,h=>by simp at h
 | q::ns,0,h=>by simp at h;subst h;simp[Kr]
 | q::ns,k+1,h=>by
  have:=fa (ns:=ns) (k:=k) (by simpa using h)
  cases q with
  | none=>exact this
  | some q=>exact PG _ this
inductive Ka(g:G)(w:World):Kv F→Value→Prop where
 | im {d:ND F} {x:Value} (h:Ju w g.I7 d x):Ka g w (.im d) x
 | pt (cs:List (ND F)) (off b o:Nat) (f:Nat→Value) (hb:g.I7 b)
   (hc:∀k d,cs[k]? = some d→w.cell? ⟨b,o+k,none⟩=some (f k))
   (hr:∀k d,cs[k]? = some d→Ju w g.I7 d (f k)) :
   Ka g w (.pt cs off) (.pointer (some ⟨b,o+off,none⟩))
 | ptr {id off b:Nat} {c:Nat×Nat×NS} (h:g.ids id=some (some (b,c))):Ka g w (.ptr id off) (.pointer (some ⟨b,off,none⟩))
 | Mg {id sz i off b:Nat} {c:Nat×Nat×NS} (h:g.ids id=some (some (b,c))):Ka g w (.Mg id sz i off) (.pointer (some ⟨b,i*sz+off,none⟩))
 | MR {id:Nat} (p:Option Addr) (h:g.ids id=some none):Ka g w (.KU id) (.slice p 0 0)
 | KU {id b c:Nat} {n:Nat×NS} (h:g.ids id=some (some (b,c,n))) (hl:n.1≤c) (hm:c≤maxLen):Ka g w (.KU id) (.slice (some ⟨b,0,none⟩) n.1 c)
 | OW {id sz:Nat} (p:Option Addr) (h:g.ids id=some none):Ka g w (.Ny id sz 0 0) (.slice p 0 0)
 | Ny {id sz off len b c o:Nat} {n:Nat×NS} (h:g.ids id=some (some (b,c,n))) (hl:off+len≤n.1) (hn:n.1≤c) (ho:(off=c∧0<c)∨o=off*sz) (hm:c≤maxLen):Ka g w (.Ny id sz off len) (.slice (some ⟨b,o,none⟩) len (c - off))
 | O4 {id sz i off b c:Nat} {n:Nat×NS} {pl:Option (Nat×Nat×Nat)} {v:Value} (h:g.ids id=some (some (b,c,n))) (hk:n.2[i*sz+off]? = some pl) (hv:Ll (KW pl) v):Ka g w (.O4 id sz i off) v
 | Px {id sz i off sz' j off' b c b':Nat} {c':Nat×Nat} {n:Nat×NS} (h:g.ids id=some (some (b,c,n))) (hk:n.2[i*sz+off]? = some (some (b',c'))):Ka g w (.Px id sz i off sz' j off') (.pointer (some ⟨b',j*sz'+off',none⟩))
 | O6 {id n b:Nat} {c:Nat×Nat×NS} (h:g.ids id=some (some (b,c))) (hm:n≤maxLen):Ka g w (.O6 id n) (.slice (some ⟨b,0,none⟩) n n)
 | Og {id b:Nat} {c:Nat×Nat×NS} (h:g.ids id=some (some (b,c))):Ka g w (.Og id) (.map (some b))
 | P5 (cs:List (ND F)) (b o b2 o2:Nat) (f:Nat→Value) (hb:g.I7 b) (hv:w.cell? ⟨b,o,none⟩=some (.pointer (some ⟨b2,o2,none⟩))) (hb2:g.I7 b2)
   (hc:∀k d,cs[k]? = some d→w.cell? ⟨b2,o2+k,none⟩=some (f k))
   (hr:∀k d,cs[k]? = some d→Ju w g.I7 d (f k)) :
   Ka g w (.P5 cs) (.pointer (some ⟨b,o,none⟩))
 | ln {d:ND F} {x:Value} (h:Ju w g.al d x):Ka g w (.ln d) x
 | UN (cs:List (ND F)) (off b o:Nat) (f:Nat→Value) (hb:g.al b)
   (hc:∀k d,cs[k]? = some d→w.cell? ⟨b,o+k,none⟩=some (f k))
   (hr:∀k d,cs[k]? = some d→Ju w g.al d (f k)) :
   Ka g w (.UN cs off) (.pointer (some ⟨b,o+off,none⟩))
 | any {x:Value}:Ka g w .any x
 | one {x:Value} (h:x.oneCell'=true):Ka g w .one x
structure Le(g:G)(w:World)(g':G)(w':World):Prop where
 ids:∀id r,g.ids id=some r→g'.ids id=some r
 I7:∀b,g.I7 b→g'.I7 b
 heap:∀b,g.I7 b→w'.heap[b]? = w.heap[b]?
 len:∀b,g.len b→g'.len b
 Uf:∀b,g.len b→w'.heap[b]? = w.heap[b]?
theorem Le.refl(g:G)(w:World):Le g w g w:=⟨λ_ _ h=>h,λ_ h=>h,λ_ _=>rfl,λ_ h=>h,λ_ _=>rfl⟩
theorem Le.trans{g g' g'':G}{w w' w'':World}(h:Le g w g' w')(k:Le g' w' g'' w''):Le g w g'' w'':=
 ⟨λ_ _ x=>k.ids _ _ (h.ids _ _ x),λ_ x=>k.I7 _ (h.I7 _ x),λb x=>(k.heap b (h.I7 b x)).trans (h.heap b x),λ_ x=>k.len _ (h.len _ x),λb x=>(k.Uf b (h.len b x)).trans (h.Uf b x)⟩
theorem Le.al{g g':G}{w w':World}(hl:Le g w g' w'){b:Nat}(h:g.al b):g'.al b:=h.imp (hl.I7 b) (hl.len b)
theorem Le.Y9{g g':G}{w w':World}(hl:Le g w g' w'){b:Nat}(h:g.al b):w'.heap[b]? = w.heap[b]?:=h.elim (hl.heap b) (hl.Uf b)
theorem Ju.leL{g g':G}{w w':World}(hl:Le g w g' w'){d:ND F}{x:Value}(h:Ju w g.al d x):Ju w' g'.al d x:=
 h.mono (λ_=>hl.al) (λ_=>hl.Y9)
theorem Ju.le{g g':G}{w w':World}(hl:Le g w g' w'){d:ND F}{x:Value}(h:Ju w g.I7 d x):Ju w' g'.I7 d x:=
 h.mono hl.I7 hl.heap
theorem Ka.le{g g':G}{w w':World}(hl:Le g w g' w'){c:Kv F}{x:Value}(h:Ka g w c x):Ka g' w' c x:=by
 cases h with
 | im h=>exact .im (h.le hl)
 | pt cs off b o f hb hc hr=>
  exact .pt cs off b o f (hl.I7 b hb) (λk d hk=>by rw[KS (hl.heap b hb)];exact hc k d hk) (λk d hk=>(hr k d hk).le hl)
 | ptr h=>exact .ptr (hl.ids _ _ h)
 | Mg h=>exact .Mg (hl.ids _ _ h)
 | MR p h=>exact .MR p (hl.ids _ _ h)
 | KU h h1 h2=>exact .KU (hl.ids _ _ h) h1 h2
 | OW p h=>exact .OW p (hl.ids _ _ h)
 | Ny h h1 h2 h3 h4=>exact .Ny (hl.ids _ _ h) h1 h2 h3 h4
 | O4 h h1 h2=>exact .O4 (hl.ids _ _ h) h1 h2
 | Px h h1=>exact .Px (hl.ids _ _ h) h1
 | O6 h hm=>exact .O6 (hl.ids _ _ h) hm
 | Og h=>exact .Og (hl.ids _ _ h)
 | P5 cs b o b2 o2 f hb hv hb2 hc hr=>
  exact .P5 cs b o b2 o2 f (hl.I7 b hb) (by rw[KS (hl.heap b hb)];exact hv) (hl.I7 b2 hb2) (λk d hk=>by rw[KS (hl.heap b2 hb2)];exact hc k d hk) (λk d hk=>(hr k d hk).le hl)
 | ln h=>exact .ln (h.leL hl)
 | UN cs off b o f hb hc hr=>
  exact .UN cs off b o f (hl.al hb) (λk d hk=>by rw[KS (hl.Y9 hb)];exact hc k d hk) (λk d hk=>(hr k d hk).leL hl)
 | any=>exact .any
 | one h=>exact .one h
theorem Ka.oneCell{g:G}{w:World}{c:Kv F}{x:Value}(h:Ka g w c x)(hc:c≠.any):x.oneCell'=true:=by
 cases h with
 | O4 h hk hv=>
  rename_i pl
  cases pl with
  | none=>obtain⟨p,rfl⟩:=hv;rfl
  | some q=>simp only[KW,Ll]at hv;subst hv;rfl
 | im h=>exact h.oneCell
 | ln h=>exact h.oneCell
 | any=>exact absurd rfl hc
 | one h=>exact h
 | _=>rfl
inductive Dat(F:Fam) where
 | c (x:Kv F)
 | agg (cs:List (Kv F))
 | MI (ds:List (Dat F))
 | NM (fn:Fn) (fs cs:List (Dat F))
 | fv (ks:List Ty) (r:Ty) (φ : Js F ks→Option (ET F r))
 | gh (id:Nat)
inductive J4(P:Program)(g:G)(w:World):Dat F→Value→Prop where
 | c {x:Kv F} {v:Value} (h:Ka g w x v):J4 P g w (.c x) v
 | agg {cs:List (Kv F)} {vs:List Value} (hl:vs.length=cs.length) (h:∀(k:Nat)(c:Kv F)(x:Value),cs[k]? = some c→vs[k]? = some x→Ka g w c x):J4 P g w (.agg cs) (.agg ⟨vs⟩)
 | MI {ds:List (Dat F)} {vs:List Value} (hl:vs.length=ds.length) (h:∀(k:Nat)(d:Dat F)(x:Value),ds[k]? = some d→vs[k]? = some x→J4 P g w d x):J4 P g w (.MI ds) (.tuple ⟨vs⟩)
 | NM {fn:Fn} {fs cs:List (Dat F)} {vs us:List Value} (h1:vs.length=fs.length) (h2:us.length=cs.length)
   (hf:∀(k:Nat)(c:Dat F)(x:Value),fs[k]? = some c→vs[k]? = some x→J4 P g w c x)
   (hc:∀(k:Nat)(c:Dat F)(x:Value),cs[k]? = some c→us[k]? = some x→J4 P g w c x):J4 P g w (.NM fn fs cs) (.func fn ⟨vs⟩ ⟨us⟩)
 | fv {ks:List Ty} {r:Ty} {φ : Js F ks→Option (ET F r)} {v:Value} (h:PZ P F w g.I7 ks r φ v):J4 P g w (.fv ks r φ) v
 | gh {id b:Nat} {c:Nat×Nat×NS} {v:Value} (h:g.ids id=some (some (b,c))):J4 P g w (.gh id) v
theorem PZ.le{P:Program}{g g':G}{w w':World}(hl:Le g w g' w'){ks:List Ty}{r:Ty}{φ : Js F ks→Option (ET F r)}{v:Value}(h:PZ P F w g.I7 ks r φ v):PZ P F w' g'.I7 ks r φ v:=by obtain⟨fid,bound,captured,h1,h0,h2,h3⟩:=h;refine⟨fid,bound,captured,h1,h0,h2,λw2 Z5 k1 k2 a x vs k3 k4=>h3 w2 Z5 (λb hb=>⟨(k1 b (hl.I7 b hb)).1,((k1 b (hl.I7 b hb)).2).trans (hl.heap b hb)⟩) k2 a x vs k3 k4⟩
theorem J4.le{P:Program}{g g':G}{w w':World}(hl:Le g w g' w'){d:Dat F}{x:Value}(h:J4 P g w d x):J4 P g' w' d x:=by
 induction h with
 | c h=>exact .c (h.le hl)
 | agg h1 h2=>exact .agg h1 (λk c x a b=>(h2 k c x a b).le hl)
 | MI h1 _ ih=>exact .MI h1 ih
 | NM h1 h2 _ _ i1 i2=>exact .NM h1 h2 i1 i2
 | fv h=>exact .fv (h.le hl)
 | gh h=>exact .gh (hl.ids _ _ h)
inductive J8(F:Fam) where
 | box (cs:List (Kv F))
 | row (t:Ty) (l:List (ET F t))
 | KR (t:Ty) (l:List (ET F t))
 | OG (t:Ty) (l:List (ET F t))
 | WC (cs:List (ND F))
 | mp (t:Ty) (l:List (ET F t))
 | it (ob:Obj)
 | MJ (k n:Nat)
 | Oa (t:Ty) (l:List (ET F t)) (i:Nat) (ks:List Nat)
 | La (t:Ty) (l:List (ET F t)) (j:Nat)
def J8.owned:J8 F→Bool
 | .box _ | .row _ _ | .KR _ _ | .mp _ _ | .it _ | .Oa _ _ _ _ | .La _ _ _=>true
 | _=>false
def J8.Y2:J8 F→Bool
 | .MJ _ _=>true
 | _=>false
theorem J8.MX{B:J8 F}(h:B.owned=true):B.Y2=false:=by cases B<;>first | rfl | cases h
def Nk(w:World)(t:Ty)(l:List (ET F t))(C:Nat→ND F→Value→Option (Nat×Nat×Nat)→Prop):Pl→Prop
 | none=>l = []
 | some (b,cap,n)=>n.1=l.length∧l.length≤cap∧cap≤maxLen∧n.2.length=(cells F t l).length∧(b::Kr n.2).Nodup∧∃cur e,w.heap[b]? = some (.cells ⟨cur⟩ e (0,0))∧cur.length=cap*Jm F t∧
   ∀(k:Nat)(d:ND F)(x:Value)(pl:Option (Nat×Nat×Nat)),(cells F t l)[k]? = some d→cur[k]? = some x→n.2[k]? = some pl→C k d x pl
def qb(w:World)(I7:Nat→Prop)(sz i:Nat)(ks:List Nat)(k:Nat)(d:ND F)(x:Value)(pl:Option (Nat×Nat×Nat)):Prop:=
 ((∃q∈ks,k=i*sz+q)→pl=none∧x.oneCell'=true)∧((¬ ∃q∈ks,k=i*sz+q)→LJ w I7 d x pl)
def RD(w:World)(I7:Nat→Prop)(sz j:Nat)(k:Nat)(d:ND F)(x:Value)(pl:Option (Nat×Nat×Nat)):Prop:=
 (k<j*sz→LJ w I7 d x pl)∧(¬ k<j*sz→pl=none∧Ju w I7 d x)
def Lh(k:Nat)(p q:Option Pl):Prop:=(∃b c n n',p=some (some (b,c,n))∧q=some (some (b,c,n'))∧n'.1=n.1∧n.1=k)∨(p=some none∧q=some none∧k=0)
def KQ(g:G)(w:World)(id:Nat):J8 F→Prop
 | .box cs=>∃(b:Nat)(c:Nat×Nat)(arr:List Value)(t:TypeId),g.ids id=some (some (b,c.1,c.2,[]))∧w.heap[b]? = some (.cells ⟨arr⟩ t (0,0))∧arr.length=cs.length∧
   ∀(k:Nat)(c:Kv F)(x:Value),cs[k]? = some c→arr[k]? = some x→Ka g w c x
 | .row t l=>(g.ids id=some none∧l = [])∨
   ∃b cap cur e,g.ids id=some (some (b,cap,l.length,[]))∧w.heap[b]? = some (.cells ⟨cur⟩ e (0,0))∧l.length≤cap∧cap≤maxLen∧cur.length=cap*Jm F t∧
    ∀(k:Nat)(d:ND F)(x:Value),(cells F t l)[k]? = some d→cur[k]? = some x→Ju w g.I7 d x
 | .KR t l=>∃pl,g.ids id=some pl∧Nc w g.I7 t l pl
 | .OG t l=>(g.ids id=some none∧l = [])∨
   ∃b cap ns,g.ids id=some (some (b,cap,l.length,ns))∧(∀b'∈Kr ns,g.I7 b')∧g.I7 b∧l.length≤cap∧cap≤maxLen∧
    ∀(k:Nat)(d:ND F),(cells F t l)[k]? = some d→∃x,w.cell? ⟨b,k,none⟩=some x∧Ju w g.I7 d x
 | .WC cs=>∃(b:Nat)(c:Nat×Nat),g.ids id=some (some (b,c.1,c.2,[]))∧g.I7 b∧∀(k:Nat)(d:ND F),cs[k]? = some d→∃x,w.cell? ⟨b,k,none⟩=some x∧Ju w g.I7 d x
 | .mp t l=>∃b,g.ids id=some (some (b,0,0,[]))∧MapAt w g.I7 t l b
 | .it ob=>∃b,g.ids id=some (some (b,0,0,[]))∧w.heap[b]? = some ob
 | .MJ k n=>Lh n (g.ids id) (g.ids k)
 | .Oa t l i ks=>∃pl,g.ids id=some pl∧Nk w t l (qb w g.I7 (Jm F t) i ks) pl
 | .La t l j=>∃pl,g.ids id=some pl∧Nk w t l (RD w g.I7 (Jm F t) j) pl
theorem MapAt.Mv{w w':World}{I7 Jo:Nat→Prop}(hi:∀b,I7 b→Jo b)(hw:∀b,I7 b→w'.heap[b]? = w.heap[b]?){t:Ty}{l:List (ET F t)}{b:Nat}(hb:w'.heap[b]? = w.heap[b]?)(h:MapAt w I7 t l b):MapAt w' Jo t l b:=by obtain⟨es,h1,h2,h3⟩:=h;refine⟨es,hb.trans h1,h2,λk x e a a'=>?_⟩;obtain⟨q1,kd,Np,q2,q3,q4⟩:=h3 k x e a a';exact⟨q1,kd,Np,q2,q3.mono hi hw,q4.mono hi hw⟩
theorem bD.Mv{w w':World}{I7 Jo:Nat→Prop}(hi:∀b,I7 b→Jo b)(hw:∀b,I7 b→w'.heap[b]? = w.heap[b]?){t:Ty}{l:List (ET F t)}{pl:Pl}(hb:∀b c,pl=some (b,c)→w'.heap[b]? = w.heap[b]?)(h:bD w I7 t l pl):bD w' Jo t l pl:=by
 cases pl with
 | none=>exact h
 | some q=>obtain⟨b,cap,n⟩:=q;obtain⟨q1,q2,q3,cur,e,q4,q5,q6⟩:=h;exact⟨q1,q2,q3,cur,e,(hb b _ rfl).trans q4,q5,λk d x a b=>(q6 k d x a b).mono hi hw⟩
theorem LX.Mv{w w':World}{I7 Jo:Nat→Prop}(hi:∀b,I7 b→Jo b)(hw:∀b,I7 b→w'.heap[b]? = w.heap[b]?){t:Ty}{l:List (ET F t)}{pl:Pl}(hb:∀b c,pl=some (b,c)→w'.heap[b]? = w.heap[b]?)(h:LX w I7 t l pl):LX w' Jo t l pl:=by
 unfold LX at h ⊢;split
 ·rename_i hm;rw[if_pos hm]at h;obtain⟨b,rfl,h⟩:=h;exact⟨b,rfl,h.Mv hi hw (hb b _ rfl)⟩
 ·rename_i hm;rw[if_neg hm]at h;exact h.Mv hi hw hb
theorem dF{w:World}{I7:Nat→Prop}{t:Ty}{l:List (ET F t)}{pl:Pl}(h:t.KX=false):LX w I7 t l pl=bD w I7 t l pl:=by unfold LX;rw[if_neg (by simp[h])]
theorem go{t:Ty}{pl:Pl}{v:Value}(h:t.KX=false):Pp t pl v=Ll pl v:=by unfold Pp;rw[if_neg (by simp[h])]
theorem LJ.Mv{w w':World}{I7 Jo:Nat→Prop}(hi:∀b,I7 b→Jo b)(hw:∀b,I7 b→w'.heap[b]? = w.heap[b]?){d:ND F}{x:Value}{pl:Option (Nat×Nat×Nat)}(hb:∀b c,pl=some (b,c)→w'.heap[b]? = w.heap[b]?)(h:LJ w I7 d x pl):LJ w' Jo d x pl:=by
 cases d with
 | sl t l=>
  refine⟨h.1.Mv hi hw ?_,h.2⟩;intro b c e
  cases pl with
  | none=>cases e
  | some q=>obtain⟨b',c',n'⟩:=q;simp only[KW,K3,Prod.mk.injEq]at e;exact hb b (c',n') (by rw[← e.1])
 | _=>exact⟨h.1,h.2.1,h.2.2.mono hi hw⟩
theorem Nc.Mv{w w':World}{I7 Jo:Nat→Prop}(hi:∀b,I7 b→Jo b)(hw:∀b,I7 b→w'.heap[b]? = w.heap[b]?){t:Ty}{l:List (ET F t)}{pl:Pl}(hb:∀b0 c,pl=some (b0,c)→∀b∈b0::Kr c.2.2,w'.heap[b]? = w.heap[b]?)(h:Nc w I7 t l pl):Nc w' Jo t l pl:=by
 cases pl with
 | none=>exact h
 | some q=>obtain⟨b,cap,n⟩:=q;obtain⟨q1,q2,q3,q4,q5,cur,e,q6,q7,q8⟩:=h;have hb:=hb b _ rfl;refine⟨q1,q2,q3,q4,q5,cur,e,(hb b WY).trans q6,q7,λk d x pl h1 h2 h3=>(q8 k d x pl h1 h2 h3).Mv hi hw ?_⟩;rintro b' c' rfl;exact hb b' (PG _ (fa h3))
theorem Nk.Mv{w w':World}{t:Ty}{l:List (ET F t)}{C C':Nat→ND F→Value→Option (Nat×Nat×Nat)→Prop}{pl:Pl}(hb:∀b0 c,pl=some (b0,c)→∀b∈b0::Kr c.2.2,w'.heap[b]? = w.heap[b]?)
  (hC:∀k d x p,(∀b c,p=some (b,c)→w'.heap[b]? = w.heap[b]?)→C k d x p→C' k d x p) (h:Nk w t l C pl):Nk w' t l C' pl:=by
 cases pl with
 | none=>exact h
 | some q=>obtain⟨b,cap,n⟩:=q;obtain⟨q1,q2,q3,q4,q5,cur,e,q6,q7,q8⟩:=h;have hb:=hb b _ rfl;refine⟨q1,q2,q3,q4,q5,cur,e,(hb b WY).trans q6,q7,λk d x pl h1 h2 h3=>hC k d x pl ?_ (q8 k d x pl h1 h2 h3)⟩;rintro b' c' rfl;exact hb b' (PG _ (fa h3))
theorem qb.Mv{w w':World}{I7 Jo:Nat→Prop}(hi:∀b,I7 b→Jo b)(hw:∀b,I7 b→w'.heap[b]? = w.heap[b]?){sz i:Nat}{ks:List Nat}{k:Nat}{d:ND F}{x:Value}{p:Option (Nat×Nat×Nat)}(hb:∀b c,p=some (b,c)→w'.heap[b]? = w.heap[b]?)(h:qb w I7 sz i ks k d x p):qb w' Jo sz i ks k d x p:=
 ⟨h.1,λhn=>(h.2 hn).Mv hi hw hb⟩
theorem RD.Mv{w w':World}{I7 Jo:Nat→Prop}(hi:∀b,I7 b→Jo b)(hw:∀b,I7 b→w'.heap[b]? = w.heap[b]?){sz j:Nat}{k:Nat}{d:ND F}{x:Value}{p:Option (Nat×Nat×Nat)}(hb:∀b c,p=some (b,c)→w'.heap[b]? = w.heap[b]?)(h:RD w I7 sz j k d x p):RD w' Jo sz j k d x p:=
 ⟨λhn=>(h.1 hn).Mv hi hw hb,λhn=>⟨(h.2 hn).1,(h.2 hn).2.mono hi hw⟩⟩
theorem Lh.mono{k:Nat}{p q p' q':Option Pl}(hp:∀r,p=some r→p'=some r)(hq:∀r,q=some r→q'=some r)(h:Lh k p q):Lh k p' q':=by
 rcases h with⟨b,c,n,n',h1,h2,h3⟩ | ⟨h1,h2,h3⟩
 ·exact .inl ⟨b,c,n,n',hp _ h1,hq _ h2,h3⟩
 ·exact .inr ⟨hp _ h1,hq _ h2,h3⟩
theorem KQ.le{g g':G}{w w':World}(hl:Le g w g' w'){id:Nat}{B:J8 F}(h:KQ g w id B)
  (hb:B.owned=true→∀b,g.blk id b→w'.heap[b]? = w.heap[b]?):KQ g' w' id B:=by
 cases B with
 | box cs=>obtain⟨b,c,arr,t,h1,h2,h3,h4⟩:=h;exact⟨b,c,arr,t,hl.ids _ _ h1,(hb rfl b (G.Kt h1)).trans h2,h3,λk c x a b=>(h4 k c x a b).le hl⟩
 | row t l=>
  rcases h with⟨h1,h2⟩ | ⟨b,cap,cur,e,h1,h2,h3,h4,h5,h6⟩
  ·exact .inl ⟨hl.ids _ _ h1,h2⟩
  ·exact .inr ⟨b,cap,cur,e,hl.ids _ _ h1,(hb rfl b (G.Kt h1)).trans h2,h3,h4,h5,λk d x a b=>(h6 k d x a b).le hl⟩
 | KR t l=>obtain⟨pl,h1,h2⟩:=h;refine⟨pl,hl.ids _ _ h1,h2.Mv hl.I7 hl.heap ?_⟩;rintro b0 c rfl b hbb;exact hb rfl b ⟨b0,c,h1,hbb⟩
 | OG t l=>
  rcases h with⟨h1,h2⟩ | ⟨b,cap,ns,h1,hn,h2,h3,h4,h5⟩
  ·exact .inl ⟨hl.ids _ _ h1,h2⟩
  ·refine .inr ⟨b,cap,ns,hl.ids _ _ h1,λb' hb'=>hl.I7 b' (hn b' hb'),hl.I7 b h2,h3,h4,λk d hk=>?_⟩;obtain⟨x,k1,k2⟩:=h5 k d hk
   exact⟨x,by rw[KS (hl.heap b h2)];exact k1,k2.le hl⟩
 | WC cs=>
  obtain⟨b,c,h1,h2,h5⟩:=h;refine⟨b,c,hl.ids _ _ h1,hl.I7 b h2,λk d hk=>?_⟩;obtain⟨x,k1,k2⟩:=h5 k d hk
  exact⟨x,by rw[KS (hl.heap b h2)];exact k1,k2.le hl⟩
 | mp t l=>obtain⟨b,h1,h2⟩:=h;exact⟨b,hl.ids _ _ h1,h2.Mv hl.I7 hl.heap (hb rfl b (G.Kt h1))⟩
 | it ob=>obtain⟨b,h1,h2⟩:=h;exact⟨b,hl.ids _ _ h1,(hb rfl b (G.Kt h1)).trans h2⟩
 | MJ k n=>exact Lh.mono (λr=>hl.ids _ r) (λr=>hl.ids _ r) h
 | Oa t l i ks=>obtain⟨pl,h1,h2⟩:=h;refine⟨pl,hl.ids _ _ h1,h2.Mv ?_ λk d x p hp hc=>hc.Mv hl.I7 hl.heap hp⟩;rintro b0 c rfl b hbb;exact hb rfl b ⟨b0,c,h1,hbb⟩
 | La t l j=>obtain⟨pl,h1,h2⟩:=h;refine⟨pl,hl.ids _ _ h1,h2.Mv ?_ λk d x p hp hc=>hc.Mv hl.I7 hl.heap hp⟩;rintro b0 c rfl b hbb;exact hb rfl b ⟨b0,c,h1,hbb⟩
theorem tg{b:Nat}:∀{ns:NS},b∈Kr ns→∃(k:Nat)(c:Nat×Nat),ns[k]? = some (some (b,c))
 | [],h=>by simp[Kr]at h
 | none::ns,h=>by
  obtain⟨k,c,hk⟩:=tg (ns:=ns) h
  exact⟨k+1,c,by simpa using hk⟩
 | some (b',c')::ns,h=>by
  rcases Lr.1 h with rfl | h
  ·exact⟨0,c',rfl⟩
  ·obtain⟨k,c,hk⟩:=tg (ns:=ns) h
   exact⟨k+1,c,by simpa using hk⟩
theorem dL(t:Ty)(l:List (ET F t)):(cells F t l).length=l.length*Jm F t:=by
 unfold cells
 induction l with
 | nil=>simp
 | cons a l ih=>simp only[K7,U9,I3,aT,P8,Ro,ih];omega
theorem Nk.at{w:World}{t:Ty}{l:List (ET F t)}{C:Nat→ND F→Value→Option (Nat×Nat×Nat)→Prop}{b cap:Nat}{n:Nat×NS}(h:Nk w t l C (some (b,cap,n))){k:Nat}{pl:Option (Nat×Nat×Nat)}(hk:n.2[k]? = some pl) :
  ∃d x,(cells F t l)[k]? = some d∧C k d x pl:=by
 obtain⟨q1,q2,q3,q4,q5,cur,e,q6,q7,q8⟩:=h;have hlt:k<n.2.length:=(I0.1 hk).1
 have h1:k<(cells F t l).length:=by omega
 have h2:(cells F t l).length≤cur.length:=by rw[q7,dL];exact M5 _ q2
 exact⟨_,_,IZ h1,q8 k _ _ _ (IZ h1) (IZ (by omega:k<cur.length)) hk⟩
theorem wV{w:World}{I7:Nat→Prop}{d:ND F}{x:Value}{q:Nat×Nat×Nat}(h:LJ w I7 d x (some q)):∃t' l',d = .sl t' l'∧bD w I7 t' l' (some (q.1,q.2.1,q.2.2,[])):=by
 cases d with
 | sl t' l'=>exact⟨t',l',rfl,h.1⟩
 | _=>exact absurd h.1 (by simp)
theorem Nc.sub{w:World}{I7:Nat→Prop}{t:Ty}{l:List (ET F t)}{b cap:Nat}{n:Nat×NS}(h:Nc w I7 t l (some (b,cap,n))){k b':Nat}{c':Nat×Nat}(hk:n.2[k]? = some (some (b',c'))) :
  ∃t' l',(cells F t l)[k]? = some (.sl t' l')∧bD w I7 t' l' (some (b',c'.1,c'.2,[])):=by
 obtain⟨d,x,h1,h2⟩:=Nk.at (C:=λ_=>LJ w I7) h hk;obtain⟨t',l',rfl,h3⟩:=wV h2;exact⟨t',l',h1,h3⟩
theorem Nk.blk{w:World}{t:Ty}{l:List (ET F t)}{C:Nat→ND F→Value→Option (Nat×Nat×Nat)→Prop}{b cap:Nat}{n:Nat×NS}(h:Nk w t l C (some (b,cap,n)))(hC:∀k d x q,C k d x (some q)→∃I7,LJ w I7 d x (some q)){b':Nat}(hb:b'∈b::Kr n.2):b'<w.heap.size:=by
 have key:∀{b:Nat}{o:Obj},w.heap[b]? = some o→b<w.heap.size:=λh=>(P_.1 h).1;rcases Lr.1 hb with rfl | h4
 ·obtain⟨_,_,_,_,_,cur,e,q6,_⟩:=h;exact key q6
 ·obtain⟨k,c',hk⟩:=tg h4;obtain⟨d,x,_,h2⟩:=Nk.at h hk;obtain⟨I7,h3⟩:=hC _ _ _ _ h2;obtain⟨t',l',_,_,_,_,cur,e,q,_⟩:=wV h3;exact key q
theorem qb.some{w:World}{I7:Nat→Prop}{sz i:Nat}{ks:List Nat}{k:Nat}{d:ND F}{x:Value}{q:Nat×Nat×Nat}(h:qb w I7 sz i ks k d x (some q)):LJ w I7 d x (some q):=by
 by_cases hn:∃q∈ks,k=i*sz+q
 ·exact absurd (h.1 hn).1 (by simp)
 ·exact h.2 hn
theorem RD.some{w:World}{I7:Nat→Prop}{sz j:Nat}{k:Nat}{d:ND F}{x:Value}{q:Nat×Nat×Nat}(h:RD w I7 sz j k d x (some q)):LJ w I7 d x (some q):=by
 by_cases hn:k<j*sz
 ·exact h.1 hn
 ·exact absurd (h.2 hn).1 (by simp)
theorem KQ.place{g:G}{w:World}(hi:∀b,g.I7 b→b<w.heap.size){id:Nat}{B:J8 F}(ho:B.Y2=false)(h:KQ g w id B){b:Nat}(hb:g.blk id b) :
  b<w.heap.size:=by
 have key:∀{b:Nat}{o:Obj},w.heap[b]? = some o→b<w.heap.size:=λh=>(P_.1 h).1
 cases B with
 | box cs=>obtain⟨b',c',arr,t,h1,h2,_⟩:=h;rw[G.Ox h1 hb];exact key h2
 | row t l=>
  rcases h with⟨h1,h2⟩ | ⟨b',cap,cur,e,h1,h2,_⟩
  ·exact(G.RG h1 hb).elim
  ·rw[G.Ox h1 hb];exact key h2
 | KR t l=>
  obtain⟨pl,h1,h2⟩:=h;obtain⟨b0,c,h3,h4⟩:=hb;rw[h1]at h3;cases h3;rcases Lr.1 h4 with rfl | h4
  ·obtain⟨_,_,_,_,_,cur,e,q6,_⟩:=h2;exact key q6
  ·obtain⟨k,c',hk⟩:=tg h4;obtain⟨t',l',_,_,_,_,cur,e,q,_⟩:=Nc.sub (n:=c.2) h2 hk;exact key q
 | OG t l=>
  rcases h with⟨h1,h2⟩ | ⟨b',cap,ns,h1,hn,h2,_⟩
  ·exact(G.RG h1 hb).elim
  ·obtain⟨b0,c,h3,h4⟩:=hb;rw[h1]at h3;cases h3;rcases Lr.1 h4 with rfl | h4
   ·exact hi _ h2
   ·exact hi _ (hn _ h4)
 | WC cs=>obtain⟨b',c',h1,h2,_⟩:=h;rw[G.Ox h1 hb];exact hi _ h2
 | mp t l=>obtain⟨b',h1,es,h2,_⟩:=h;rw[G.Ox h1 hb];exact key h2
 | it ob=>obtain⟨b',h1,h2⟩:=h;rw[G.Ox h1 hb];exact key h2
 | MJ k n=>cases ho
 | Oa t l i ks=>obtain⟨pl,h1,h2⟩:=h;obtain⟨b0,c,h3,h4⟩:=hb;rw[h1]at h3;cases h3;exact Nk.blk (n:=c.2) h2 (λ_ _ _ _ hc=>⟨_,hc.some⟩) h4
 | La t l j=>obtain⟨pl,h1,h2⟩:=h;obtain⟨b0,c,h3,h4⟩:=hb;rw[h1]at h3;cases h3;exact Nk.blk (n:=c.2) h2 (λ_ _ _ _ hc=>⟨_,hc.some⟩) h4
structure Ow where
 o:Nat→Prop
 i:Nat→Prop
 nm:Nat→Option Pl
structure Jl(ow:Ow)(g:G)(w:World)(m:Nat→Option (J8 F)):Prop where
 ok:∀id B,m id=some B→KQ g w id B
 OB:∀id id' B B' b,m id=some B→m id'=some B'→B.owned=true→B'.owned=true→g.blk id b→g.blk id' b→id=id'
 own:∀id B b,m id=some B→B.owned=true→g.blk id b→ow.o b∧¬ g.I7 b
 I7:∀b,g.I7 b→b<w.heap.size
 io:∀b,g.I7 b→ow.i b∨ow.o b
 len:∀b,g.len b→¬ ow.o b∧b<w.heap.size
structure Stp(m:Nat→Option (J8 F))(g:G)(w:World)(g':G)(w':World):Prop where
 le:Le g w g' w'
 os:w'.os=w.os
 tape:w'.tape=w.tape
 output:w'.output=w.output
 size:w.heap.size≤w'.heap.size
 frame:∀b,b<w.heap.size→(∀id B,m id=some B→B.owned=true→¬ g.blk id b)→w'.heap[b]? = w.heap[b]?
 drawn:w.drawn≤w'.drawn
theorem Stp.refl(m:Nat→Option (J8 F))(g:G)(w:World):Stp m g w g w:=⟨.refl _ _,rfl,rfl,rfl,KC _,λ_ _ _=>rfl,KC _⟩
structure RO(own:Ow)(W0 w:World):Prop where
 os:w.os=W0.os
 tape:w.tape=W0.tape
 output:w.output=W0.output
 size:W0.heap.size≤w.heap.size
 fresh:∀b,W0.heap.size≤b→own.o b
 block:∀b,b<W0.heap.size→¬ own.o b→w.heap[b]? = W0.heap[b]?
 drawn:W0.drawn≤w.drawn
theorem RO.stp{own:Ow}{W0 w w':World}{g g':G}{m:Nat→Option (J8 F)}(h:RO own W0 w)(hm:Jl own g w m)(hs:Stp m g w g' w'):RO own W0 w':=by refine⟨hs.os.trans h.os,hs.tape.trans h.tape,hs.output.trans h.output,MP h.size hs.size,h.fresh,λb hb ho=>?_,MP h.drawn hs.drawn⟩;rw[← h.block b hb ho];exact hs.frame b (O8 hb h.size) (λid B hB hw hi=>ho (hm.own id B b hB hw hi).1)
structure St(F:Fam) where
 e:Nat→Option (Dat F)
 m:Nat→Option (J8 F)
 u:Nat→Bool
structure Good(P:Program)(own:Ow)(W0:World)(n:Nat)(s:St F)(g:G)(a:Act)(w:World):Prop where
 Py:a.defers = []
 OP:a.tmps.size=n
 env:∀x d,s.e x=some d→J4 P g w d (a.tmps.getD x undef)
 mem:Jl own g w s.m
 dom:∀id,s.u id=false→g.ids id=none
 O5:∀b,own.i b→g.I7 b
 Lc:RO own W0 w
 N8:∀id p,own.nm id=some p→g.ids id=some p
def Kq(P:Program)(g:G)(w:World)(ds:List (Dat F))(vs:List Value):Prop:=
 vs.length=ds.length∧∀(k:Nat)(d:Dat F)(x:Value),ds[k]? = some d→vs[k]? = some x→J4 P g w d x
end
set_option linter.unusedVariables false
set_option linter.unusedSimpArgs false
structure TI(F:Fam) where
 desc:TypeDesc
 size:Nat
 bytes:Nat
 zero:List (ND F)
 ty:Option Ty
 eq:Bool:=false
def da:TypeDesc→Bool
 | .struct _ | .array _ _=>true
 | _=>false
def look{α : Type}:List (Nat×α)→Nat→Option α
 | [],_=>none
 | (y,a)::r,x=>if Nat.beq y x then some a else look r x
def Jw(x:Nat):List Nat→Bool
 | []=>false
 | y::l=>if Nat.beq y x then true else Jw x l
structure Oy(F:Fam) where
 val:Dat F
 mw:List (Nat×Option (J8 F)):=[]
 nu:Nat:=0
inductive Kd where
 | v (t:Ty) (ow:List Nat)
 | box (t:Ty) (ow:List Nat)
 | rp (t:Ty)
 | fn (ks:List Ty) (r:Ty)
 | row (t:Ty) (arr:Bool)
 | O1 (t:Ty)
 | pk (k:Nat) (t:Ty)
 | ln (t:Ty)
 | nb (t:Ty) (ow:List Nat)
 | cl (f n:Nat)
section
variable(F:Fam)
@[reducible] def Kd.El:Kd→Type
 | .v t _=>ET F t
 | .box t _=>ET F t
 | .rp t=>ET F t
 | .fn ks r=>Js F ks→Option (ET F r)
 | .row t _=>List (ET F t)
 | .O1 t=>ET F t
 | .pk _ t=>ET F t
 | .ln t=>ET F t
 | .nb t _=>ET F t
 | .cl _ _=>Unit
@[reducible] def HL:List Kd→Type
 | []=>Unit
 | k::r=>k.El F×HL r
@[reducible] def TL:List Kd→Type
 | []=>Unit
 | [k]=>k.El F
 | k::l::r=>k.El F×TL (l::r)
end
def Kd.UA:Kd→Bool
 | .ln _=>true
 | _=>false
def Kd.Y0:Kd→Bool
 | .v _ []=>true
 | .rp _=>true
 | .fn _ _=>true
 | .O1 _=>true
 | .pk _ _=>true
 | .ln _=>true
 | _=>false
def yx(ks:List Kd):Bool:=ks.all (λk=>!k.UA)||ks.all Kd.Y0
def Kd.PS:Kd→Bool
 | .cl _ _=>true
 | _=>false
def Kd.KT:Kd→Bool
 | .box _ _=>true
 | .row _ _=>true
 | _=>false
structure Spec(F:Fam) where
 ks:List Kd
 rs:List Kd
 D:HL F ks→Option (TL F (rs++ks.filter Kd.KT))
def Lx{α : Type}(p:α→Bool)(l:List α)(z:α):α:=(l.find? p).getD z
def Oi{α : Type}(p:α→Bool)(l:List α):Bool:=l.any p
def Lu{α : Type}(p:α→Bool)(l:List α)(y:α):List α:=match l with
 | []=>[y]
 | x::r=>cond (p x) (y::r) (x::Lu p r y)
def nz(x:Int):Option Unit:=if x≠0 then some ()else none
def nn(x:Int):Option Unit:=if 0≤x then some ()else none
def idx{α : Type}(l:List α)(i:Int):Option α:=if 0≤i then l[i.toNat]? else none
def Kk(i:Int)(n:Nat):Option Nat:=if 0≤i∧i.toNat<n then some i.toNat else none
def Ms(a b:Int)(n:Nat):Option (Nat×Nat):=if 0≤a∧a≤b∧b≤n then some (a.toNat,b.toNat - a.toNat)else none
def slc{α : Type}(l:List α)(a b:Int):Option (List α):=if 0≤a∧a≤b∧b≤l.length then some ((l.take b.toNat).drop a.toNat)else none
def cat(l m:List UInt8):Option (List UInt8):=if Nat.ble (l.length+m.length) 9223372036854775807 then some (l++m)else none
def app{α : Type}(b:Nat)(l m:List α):Option (List α):=if(l++m).length≤maxLen∧(l++m).length*b≤140737488355328 then some (l++m)else none
def P7{α : Type}(b:Nat)(n m:Int)(z:α):Option (List α):=if 0≤n∧n≤m∧m.toNat≤maxLen∧b*m.toNat≤281474976710656 then some (List.replicate n.toNat z)else none
def sub{α : Type}(l:List α)(a n:Nat):List α:=(l.drop a).take n
def LP{α : Type}(l:List α)(a n:Nat)(ys:List α):List α:=l.take a++ys.take n++l.drop (a+min n ys.length)
def Oj(x y:Int):Int:=if y<x then y else x
def imax(x y:Int):Int:=if y>x then y else x
abbrev Jd(x:Int):Int:=IntKind.i64.wrap x
abbrev N_(k:IntKind)(a b:Int):Int:=k.wrap (a*2 ^ min b.toNat k.bits)
abbrev Mi(_k:IntKind)(a b:Int):Int:=a.fdiv (2 ^ min b.toNat _k.bits)
abbrev Pj(k:IntKind)(a b:Int):Int:=k.wrap ((BitVec.ofInt k.bits a &&& BitVec.ofInt k.bits b).toNat)
abbrev orK(k:IntKind)(a b:Int):Int:=k.wrap ((BitVec.ofInt k.bits a ||| BitVec.ofInt k.bits b).toNat)
abbrev ak5(k:IntKind)(a b:Int):Int:=k.wrap ((BitVec.ofInt k.bits a ^^^ BitVec.ofInt k.bits b).toNat)
def OH(l m:List UInt8):Bool:=Op.bytesLess l m||l == m
section
variable{F:Fam}
def Ul:Value→Kv F
 | .int k n=>.im (.i k n)
 | .bool b=>.im (.b b)
 | .string s=>.im (.s s.data.toList)
 | .slice none 0 0=>.im .nl
 | .agg _ | .tuple _=>.any
 | x=>.im (.v x)
def VX:Value→Dat F
 | .agg cs=>.agg (cs.toList.map Ul)
 | x=>.c (Ul x)
def Zq(e:Nat→Option (Dat F)):Operand→Dat F
 | .tmp t=>(e t).getD (.c .any)
 | .const v=>VX v
 | .global g=>.c (.im (.v (.pointer (some ⟨g,0,none⟩))))
 | .func f=>.c (.im (.v (.func (.func f) #[] #[])))
def Dat.cells:Dat F→List (Kv F)
 | .c x=>[x]
 | .agg cs=>cs
 | _=>[]
def Kv.NA:Kv F→Bool
 | .any=>false
 | _=>true
def aau(t:Ty)(x:ET F t):Dat F:=
 match t,x with
 | .st n,x=>.agg ((Jj F (.st n) x).map .im)
 | .int k,n=>.c (.im (.i k n))
 | .bool,b=>.c (.im (.b b))
 | .str,l=>.c (.im (.s l))
 | .slice t,l=>.c (.im (.sl t l))
def Ki(m:Nat→Option (J8 F)):List (Nat×Option (J8 F))→Nat→Option (J8 F)
 | []=>m
 | (id,B)::r=>Ki (λx=>if Nat.beq id x then B else m x) r
def OV(mm:Nat→Option (J8 F)):Nat→Nat→Nat
 | 0,id=>id
 | n+1,id=>match mm id with
  | some (.MJ k _)=>OV mm n k
  | _=>id
def Rt(mm:Nat→Option (J8 F))(id:Nat):Nat:=match mm id with
 | some (.MJ k _)=>OV mm 8 k
 | _=>id
def Te(mm:Nat→Option (J8 F)):Kv F→Kv F
 | .KU id=>.KU (Rt mm id)
 | .Mg id sz i off=>.Mg (Rt mm id) sz i off
 | .Ny id sz off n=>.Ny (Rt mm id) sz off n
 | c=>c
def Xf(mm:Nat→Option (J8 F)):Dat F→Dat F
 | .c x=>.c (Te mm x)
 | d=>d
def Vs(mm:Nat→Option (J8 F))(id:Nat):Option (ND F×List Nat):=match mm id with
 | some (.row t l)=>some (.sl t l,[id])
 | some (.KR t l)=>some (.sl t l,[id])
 | some (.OG t l)=>some (.sl t l,[])
 | _=>none
def NZ(mm:Nat→Option (J8 F)):Kv F→Option (ND F×List Nat)
 | .im d=>some (d,[])
 | .KU id=>Vs mm (Rt mm id)
 | .Ny id sz off n=>match mm id with
  | some (.row t l)=>if sz=Jm F t then some (.sl t (sub l off n),[id])else none
  | some (.OG t l)=>if sz=Jm F t then some (.sl t (sub l off n),[])else none
  | _=>none
 | _=>none
def bI(mm:Nat→Option (J8 F)):List (Kv F)→Option (List (ND F)×List Nat)
 | []=>some ([],[])
 | c::r=>match NZ mm c with
  | none=>none
  | some (d,i)=>match bI mm r with
   | none=>none
   | some (ds,j)=>some (d::ds,i++j)
def PY(mm:Nat→Option (J8 F))(ids:List Nat)(id:Nat):Option (J8 F):=
 match mm id with
 | some (.row t l)=>some (.OG t l)
 | some (.KR t l)=>some (.OG t l)
 | some (.box cs)=>match bI mm cs with
  | some (ds,fz)=>cond (fz.all (λx=>Jw x ids)) (some (.WC ds)) none
  | none=>none
 | b=>b
def S9(mm:Nat→Option (J8 F))(ids:List Nat):List (Nat×Option (J8 F)):=ids.map λid=>(id,PY mm ids id)
def rv(mm:Nat→Option (J8 F)):Kv F→Option (ND F×Option Nat)
 | .KU id=>match mm id with
  | some (.row t l)=>cond t.KX none (some (.sl t l,some id))
  | _=>none
 | .Og id=>match mm id with
  | some (.mp t l)=>cond t.KX (some (.sl t l,some id)) none
  | _=>none
 | .im .nl=>some (.nl,none)
 | _=>none
def vX(mm:Nat→Option (J8 F))(id:Nat):Option (ND F×Option Nat):=match mm id with
 | some (.KR t l)=>some (.sl t l,some id)
 | _=>none
def qj(mm:Nat→Option (J8 F)):Kv F→Option (ND F×Option Nat)
 | .KU id=>vX mm (Rt mm id)
 | .im .nl=>some (.nl,none)
 | _=>none
def dJ(mm:Nat→Option (J8 F))(ow:List Nat):Nat→List (Kv F)→Option (List (ND F)×List (Option Nat)×List Nat)
 | _,[]=>some ([],[],[])
 | k,c::r=>
  if Jw k ow then
   match rv mm c with
   | none=>none
   | some (d,o)=>match dJ mm ow (k+1) r with
    | none=>none
    | some (ds,os,fz)=>some (d::ds,o::os,fz)
  else if Jw (k+1000) ow then
   match qj mm c with
   | none=>none
   | some (d,o)=>match dJ mm ow (k+1) r with
    | none=>none
    | some (ds,os,fz)=>some (d::ds,o::os,fz)
  else
   match NZ mm c with
   | none=>none
   | some (d,i)=>match dJ mm ow (k+1) r with
    | none=>none
    | some (ds,os,fz)=>some (d::ds,os,i++fz)
def xP(t:Ty):Dat F→Option (List (Kv F))
 | .c x=>if t.K9 then none else some [x]
 | .agg cs=>if t.K9 then some cs else none
 | _=>none
structure Pk(α : Type) where
 x:α
 os:List (Option Nat)
 fz:List Nat
 bx:List Nat
abbrev Ctx(F:Fam):=List (Nat×Spec F)
def Si(mm:Nat→Option (J8 F))(t:Ty)(ow:List Nat)(d:Dat F):Option (Pk (ET F t)):=
 match xP t d with
 | none=>none
 | some cs=>match dJ mm ow 0 cs with
  | none=>none
  | some (ds,os,fz)=>match Ml F t ds with
   | none=>none
   | some x=>some ⟨x,os,fz,[]⟩
def jR(mm:Nat→Option (J8 F))(t:Ty)(ow:List Nat):Dat F→Option (Pk (ET F t))
 | .c (.ptr id 0)=>match mm id with
  | some (.box cs)=>match dJ mm ow 0 cs with
   | none=>none
   | some (ds,os,fz)=>match Ml F t ds with
    | none=>none
    | some x=>some ⟨x,some id::os,fz,[id]⟩
  | _=>none
 | _=>none
def u9(t:Ty)(arr:Bool):Dat F→Option Nat
 | .c (.ptr id 0)=>cond t.KX none (if arr then some id else none)
 | .c (.KU id)=>cond t.KX none (if arr then none else some id)
 | .c (.Og id)=>cond t.KX (some id) none
 | _=>none
def MC(t:Ty)(arr:Bool)(id:Nat):Dat F:=cond t.KX (.c (.Og id)) (if arr then .c (.ptr id 0)else .c (.KU id))
def OE(t:Ty)(l:List (ET F t)):J8 F:=cond t.KX (.mp t l) (.row t l)
def aax(F:Fam)(t:Ty)(id:Nat):Kv F:=cond t.KX (.Og id) (.KU id)
def pP(mm:Nat→Option (J8 F))(t:Ty)(id:Nat):Option (Pk (List (ET F t))):=
 match mm id with
 | some (.row t' l)=>if h:t'=t then cond t.KX none (some ⟨h▸l,[some id],[],[id]⟩)else none
 | some (.mp t' l)=>if h:t'=t then cond t.KX (some ⟨h▸l,[some id],[],[id]⟩) none else none
 | _=>none
def wd(mm:Nat→Option (J8 F))(t:Ty)(arr:Bool)(d:Dat F):Option (Pk (List (ET F t))):=
 match u9 t arr d with
 | some id=>pP mm t id
 | none=>none
def Cm(mm:Nat→Option (J8 F))(t:Ty)(ow:List Nat)(d:Dat F):Option (Pk (ET F t)):=
 match jR mm t ow d with
 | some p=>some ⟨p.x,p.os,p.fz,[]⟩
 | none=>none
def vw(mm:Nat→Option (J8 F))(t:Ty):Dat F→Option (Pk (ET F t))
 | .c (.pt cs 0)=>match Ml F t cs with
  | some x=>some ⟨x,[],[],[]⟩
  | none=>none
 | .c (.ptr id 0)=>match mm id with
  | some (.box cs)=>match bI mm cs with
   | none=>none
   | some (ds,fz)=>match Ml F t ds with
    | none=>none
    | some x=>some ⟨x,[],id::fz,[]⟩
  | some (.WC cs)=>match Ml F t cs with
   | some x=>some ⟨x,[],[],[]⟩
   | none=>none
  | _=>none
 | _=>none
def sS(mm:Nat→Option (J8 F))(t:Ty):Dat F→Option (Pk (ET F t))
 | .c (.ptr id 0)=>match mm id with
  | some (.box [.ptr id2 0])=>match mm id2 with
   | some (.box cs)=>match bI mm cs with
    | none=>none
    | some (ds,fz)=>match Ml F t ds with
     | none=>none
     | some x=>some ⟨x,[],id::id2::fz,[]⟩
   | _=>none
  | some (.box [.pt cs 0])=>match Ml F t cs with
   | none=>none
   | some x=>some ⟨x,[],[id],[]⟩
  | _=>none
 | _=>none
def va(mm:Nat→Option (J8 F))(k:Nat)(t:Ty):Dat F→Option (Pk (ET F t))
 | .c (.ptr id 0)=>match mm id with
  | some (.box [.ptr id2 0])=>match mm id2 with
   | some (.box cs)=>match cs[k]? with
    | some (.im d)=>match Ml F t [d]with
     | some x=>some ⟨x,[],[id,id2],[]⟩
     | none=>none
    | _=>none
   | _=>none
  | _=>none
 | _=>none
def Vt:Kv F→Kv F
 | .ln d=>.im d
 | c=>c
def R5:Dat F→Dat F
 | .c x=>.c (Vt x)
 | .agg cs=>.agg (cs.map Vt)
 | d=>d
def DO(mm:Nat→Option (J8 F))(t:Ty)(d:Dat F):Option (Pk (ET F t)):=
 match Si mm t [] (R5 d)with
 | none=>none
 | some p=>some ⟨p.x,[],[],[]⟩
def Rf(mm:Nat→Option (J8 F)):(k:Kd)→Dat F→Option (Pk (k.El F))
 | .v t [],d=>Si mm t [] d
 | .rp t,d=>vw mm t d
 | .O1 t,d=>sS mm t d
 | .pk k t,d=>va mm k t d
 | _,_=>none
def Mk(mm:Nat→Option (J8 F)):(kk:List Kd)→(fs:List (Dat F))→(ks:List Ty)→(cs:List (Dat F))→Option (Pk (Js F ks→HL F kk))
 | k::kk,d::fs,ks,cs=>match Rf mm k d with
  | none=>none
  | some p=>match Mk mm kk fs ks cs with
   | none=>none
   | some q=>some ⟨λa=>(p.x,q.x a),[],p.fz++q.fz,[]⟩
 | .v t' []::kk,[],t::ks,cs=>if h:t=t' then match Mk mm kk [] ks cs with
   | none=>none
   | some q=>some ⟨λa=>(h▸a.1,q.x a.2),[],q.fz,[]⟩else none
 | k::kk,[],[],d::cs=>match Rf mm k d with
  | none=>none
  | some p=>match Mk mm kk [] [] cs with
   | none=>none
   | some q=>some ⟨λa=>(p.x,q.x a),[],p.fz++q.fz,[]⟩
 | [],[],[],[]=>some ⟨λ_=>(),[],[],[]⟩
 | _,_,_,_=>none
def wA(ks:List Kd)(t r:Ty):(bl:List Kd)→(HL F ks→Option (TL F ([.v t []]++bl)))→Option (HL F ks→Option (ET F r))
 | [],D=>if e:t=r then some (λa=>(e▸(D a:Option (ET F t)):Option (ET F r)))else none
 | _::_,_=>none
def cP(sp:Spec F)(r:Ty):Option (HL F sp.ks→Option (ET F r)):=
 match sp with
 | ⟨ks,[.v t []],D⟩=>wA ks t r (ks.filter Kd.KT) D
 | _=>none
def cB(F:Fam):Ty→Bool
 | .slice _=>false
 | .st n=>(F.fs n).all λt=>match t with | .slice _=>false | .st _=>false | _=>true
 | _=>true
def y9(Γ : Ctx F)(mm:Nat→Option (J8 F))(ks:List Ty)(r:Ty):Dat F→Option (Pk (Js F ks→Option (ET F r)))
 | .fv ks' r' φ=>if h:ks'=ks then if h':r'=r then some ⟨h▸h'▸φ,[],[],[]⟩else none else none
 | .NM (.func f) [] cs=>if cB F r then match look Γ f with
  | none=>none
  | some sp=>match cP sp r,Mk mm sp.ks [] ks cs with
   | some D,some q=>some ⟨λa=>D (q.x a),[],q.fz,[]⟩
   | _,_=>some ⟨λ_=>none,[],[],[]⟩
  else none
 | .NM (.func f) (d::fs) cs=>if cB F r&&Nat.beq ks.length 1 then match look Γ f with
  | none=>none
  | some sp=>match cP sp r,Mk mm sp.ks (d::fs) ks cs with
   | some D,some q=>some ⟨λa=>D (q.x a),[],q.fz,[]⟩
   | _,_=>none
  else none
 | .c (.im (.v (.func (.func f) ⟨[]⟩ ⟨[]⟩)))=>if cB F r then match look Γ f with
  | none=>none
  | some sp=>match cP sp r,Mk mm sp.ks [] ks []with
   | some D,some q=>some ⟨λa=>D (q.x a),[],q.fz,[]⟩
   | _,_=>none
  else none
 | _=>none
def Nt(Γ : Ctx F)(mm:Nat→Option (J8 F)):(k:Kd)→Dat F→Option (Pk (k.El F))
 | .v t ow,d=>Si mm t ow d
 | .box t ow,d=>jR mm t ow d
 | .rp t,d=>vw mm t d
 | .fn ks r,d=>y9 Γ mm ks r d
 | .row t arr,d=>wd mm t arr d
 | .O1 t,d=>sS mm t d
 | .pk k t,d=>va mm k t d
 | .ln t,d=>DO mm t d
 | .nb t ow,d=>Cm mm t ow d
 | .cl _ _,_=>none
def yh(f n:Nat):List (Dat F)→Option (List (Dat F))
 | .NM (.func f') [] cs::ds=>if Nat.beq f' f&&Nat.beq cs.length n then some (cs++ds)else none
 | _=>none
def gM(Γ : Ctx F)(mm:Nat→Option (J8 F)):(ks:List Kd)→List (Dat F)→Option (Pk (HL F ks))
 | [],[]=>some ⟨(),[],[],[]⟩
 | .cl f n::ks,ds=>match yh f n ds with
  | none=>none
  | some ds'=>match gM Γ mm ks ds' with
   | none=>none
   | some q=>some ⟨((),q.x),q.os,q.fz,q.bx⟩
 | k::ks,d::ds=>match Nt Γ mm k d with
  | none=>none
  | some p=>match gM Γ mm ks ds with
   | none=>none
   | some q=>some ⟨(p.x,q.x),p.os++q.os,p.fz++q.fz,p.bx++q.bx⟩
 | _,_=>none
def L9(ow:List Nat):Nat→Nat→List (ND F)→List (Kv F)×List (Nat×J8 F)×Nat
 | _,c,[]=>([],[],c)
 | k,c,d::r=>
  if Jw k ow then
   match d with
   | .sl t l=>match L9 ow (k+1) (c+1) r with
    | (cs,bs,c')=>(aax F t c::cs,(c,OE t l)::bs,c')
   | d=>match L9 ow (k+1) c r with
    | (cs,bs,c')=>(.im d::cs,bs,c')
  else if Jw (k+1000) ow then
   match d with
   | .sl t l=>match L9 ow (k+1) (c+1) r with
    | (cs,bs,c')=>(.KU c::cs,(c,.KR t l)::bs,c')
   | d=>match L9 ow (k+1) c r with
    | (cs,bs,c')=>(.im d::cs,bs,c')
  else match L9 ow (k+1) c r with
   | (cs,bs,c')=>(.im d::cs,bs,c')
def Sr(t:Ty)(cs:List (Kv F)):Dat F:=if t.K9 then .agg cs else match cs with | [x]=>.c x | _=>.c .any
def Mt:(k:Kd)→k.El F→Nat→Dat F×List (Nat×J8 F)×Nat
 | .v t ow,x,c=>match L9 ow 0 c (Jj F t x)with
  | (cs,bs,c')=>(Sr t cs,bs,c')
 | .box t ow,x,c=>match L9 ow 0 (c+1) (Jj F t x)with
  | (cs,bs,c')=>(.c (.ptr c 0),(c,.box cs)::bs,c')
 | .rp t,x,c=>(.c (.pt (Jj F t x) 0),[],c)
 | .fn ks r,φ,c=>(.fv ks r φ,[],c)
 | .row t arr,x,c=>(MC t arr c,[(c,OE t x)],c+1)
 | .O1 t,x,c=>(.c (.P5 (Jj F t x)),[],c)
 | .pk k t,x,c=>(.c .any,[],c)
 | .ln t,x,c=>(.c .any,[],c)
 | .nb t ow,x,c=>match L9 ow 0 (c+1) (Jj F t x)with
  | (cs,bs,c')=>(.c (.ptr c 0),(c,.box cs)::bs,c')
 | .cl _ _,x,c=>(.c .any,[],c)
def V4(t:Ty)(x:ET F t):Dat F:=Sr t ((Jj F t x).map λd=>if d.flat then .im d else .ln d)
def Ph:(ks:List Kd)→HL F ks→List (Dat F)→List (Dat F)
 | [],_,ds=>ds
 | _::_,_,[]=>[]
 | .cl _ _::_,_,ds=>ds
 | .ln t::ks,a,_::ds=>V4 t a.1::Ph ks a.2 ds
 | _::ks,a,d::ds=>d::Ph ks a.2 ds
def Lb:(ks:List Kd)→HL F ks→Nat→List (Dat F)×List (Nat×J8 F)×Nat
 | [],_,c=>([],[],c)
 | .cl f n::ks,a,c=>match Lb ks a.2 c with
  | (ds,bs,c')=>(.NM (.func f) [] (ds.take n)::ds.drop n,bs,c')
 | k::ks,a,c=>match Mt k a.1 c with
  | (d,bs,c')=>match Lb ks a.2 c' with
   | (ds,bs',c'')=>(d::ds,bs++bs',c'')
def oo(ow:List Nat):List Nat:=if Jw 7000 ow then[]else ow
def ap:(ks:List Kd)→TL F ks→List Nat→Nat→List (Dat F)×List (Nat×J8 F)×Nat
 | [],_,_,c=>([],[],c)
 | [.box t ow],x,b::_,c=>match L9 (oo ow) 0 c (Jj F t x)with
  | (cs,bs,c')=>([],(b,.box cs)::bs,c')
 | .box t ow::l::ks,a,b::bx,c=>match L9 (oo ow) 0 c (Jj F t a.1)with
  | (cs,bs,c')=>match ap (l::ks) a.2 bx c' with
   | (ds,bs',c'')=>(ds,(b,.box cs)::(bs++bs'),c'')
 | [.row t _],x,b::_,c=>([],[(b,OE t x)],c)
 | .row t _::l::ks,a,b::bx,c=>match ap (l::ks) a.2 bx c with
   | (ds,bs',c'')=>(ds,(b,OE t a.1)::bs',c'')
 | [k],a,_,c=>match Mt k a c with
  | (d,bs,c')=>([d],bs,c')
 | k::l::ks,a,bx,c=>match Mt k a.1 c with
  | (d,bs,c')=>match ap (l::ks) a.2 bx c' with
   | (ds,bs',c'')=>(d::ds,bs++bs',c'')
def aN:(ks:List Kd)→HL F ks→Nat→List Nat
 | [],_,_=>[]
 | .box t ow::ks,a,c=>c::aN ks a.2 (Mt (.box t ow) a.1 c).2.2
 | .row t arr::ks,a,c=>c::aN ks a.2 (Mt (.row t arr) a.1 c).2.2
 | k::ks,a,c=>aN ks a.2 (Mt k a.1 c).2.2
def sW(F:Fam)(ow:List Nat):Nat→List Ty→Bool
 | _,[]=>true
 | k,t::ts=>(match t with | .slice e=>Jw k ow&&cB F e&&!e.KX | .st _=>false | _=>true)&&sW F ow (k+1) ts
def Kd.KI(F:Fam):Kd→Bool
 | .v t []=>cB F t
 | .v (.st n) ow=>Jw 9999 ow&&sW F ow 0 (F.fs n)
 | .v (.slice t) ow=>Jw 0 ow&&cB F t&&!t.KX
 | _=>false
def cv:List Nat→Bool
 | []=>true
 | x::l=>!(Jw x l)&&cv l
def Km:List (Option Nat)→List Nat
 | []=>[]
 | some x::l=>x::Km l
 | none::l=>Km l
def NI:List Nat→List Nat→Bool
 | [],_=>true
 | x::l,m=>!(Jw x m)&&NI l m
def Tc:List (Dat F)→Dat F
 | [d]=>d
 | ds=>.MI ds
end
set_option linter.unusedVariables false
set_option linter.unusedSimpArgs false
section
variable{F:Fam}{R:Type}
def dh(ti:TI F)(cs:List (Kv F))(off:Nat):Option (Dat F):=
 if da ti.desc then(if Nat.ble (off+ti.size) cs.length then some (.agg ((cs.drop off).take ti.size))else none)else match cs[off]? with | some x=>some (.c x) | none=>none
def pK(o:Option (Dat F))(K:Oy F→Option R):Option R:=match o with | some d=>K { val:=d } | none=>none
section
variable(T:TypeId→Option (TI F))(Γ : Ctx F)(vals:List (Dat F))(mm:Nat→Option (J8 F))(c:Nat)(K:Oy F→Option R)
abbrev kI(k:IntKind)(n:Int):Option R:=K { val:=.c (.im (.i k n)) }
abbrev kB(b:Bool):Option R:=K { val:=.c (.im (.b b)) }
def Sv:Operand→Bool
 | .const (.int _ n)=>n != 0
 | _=>false
def Ub:Operand→Bool
 | .const (.int _ n)=>decide (0≤n)
 | _=>false
def ww(op:BinOp)(k:IntKind)(n m:Int)(y:Operand):Option R:=
 match op with
 | .add=>kI K k (k.wrap (n+m))
 | .sub=>kI K k (k.wrap (n - m))
 | .mul=>kI K k (k.wrap (n*m))
 | .quo=>if Sv y then kI K k (k.wrap (n.tdiv m))else(nz m).bind λ_=>kI K k (k.wrap (n.tdiv m))
 | .rem=>if Sv y then kI K k (n.tmod m)else(nz m).bind λ_=>kI K k (n.tmod m)
 | .and=>kI K k (Pj k n m)
 | .or=>kI K k (orK k n m)
 | .xor=>kI K k (ak5 k n m)
 | .eql=>kB K (n == m)
 | .neq=>kB K (n != m)
 | .lss=>kB K (decide (n<m))
 | .leq=>kB K (decide (n≤m))
 | .gtr=>kB K (decide (n>m))
 | .geq=>kB K (decide (n≥m))
 | _=>none
def vY(op:BinOp)(l m:List UInt8):Option R:=
 match op with
 | .add=>(cat l m).bind λr=>K { val:=.c (.im (.s r)) }
 | .eql=>kB K (l == m)
 | .neq=>kB K (!(l == m))
 | .lss=>kB K (Op.bytesLess l m)
 | .leq=>kB K (OH l m)
 | .gtr=>kB K (!(OH l m))
 | .geq=>kB K (!(Op.bytesLess l m))
 | _=>none
def Po(d:Option TypeDesc)(a b:Kv F):Option Bool:=
 match d,a,b with
 | some (.int _),.im (.i k n),.im (.i k' m)=>if k=k' then some (n == m)else none
 | some .bool,.im (.b x),.im (.b y)=>some (x == y)
 | some .string,.im (.s l),.im (.s m)=>some (l == m)
 | _,_,_=>none
def eD(t:TypeId):Option TypeDesc:=match T t with | some ti=>some ti.desc | none=>none
def jk:List Field→Nat→List (Kv F)→List (Kv F)→Option Bool
 | [],_,[],[]=>some true
 | [f],off,[a],[b] => if f.name != "_" && f.offset == off then Po (eD T f.type) a b else none
 | f :: f' :: fs,off,a :: l,b :: r => if f.name != "_" && f.offset == off then match Po (eD T f.type) a b with
  | none=>none
  | some x=>match jk (f'::fs) (off+1) l r with
   | none=>none
   | some y=>some (x&&y)
  else none
 | _,_,_,_=>none
def SA(f:Field)(cs ds:List (Kv F)):Option (Bool×Nat):=
 match T f.type with
 | some ⟨.struct gs,n,_,_,_,true⟩=>if Nat.ble n cs.length&&Nat.ble n ds.length then match jk T gs.toList 0 (cs.take n) (ds.take n)with
  | some x=>some (x,n)
  | none=>none
  else none
 | some ti=>match cs,ds with
  | a::_,b::_=>match Po (some ti.desc) a b with
   | some x=>some (x,1)
   | none=>none
  | _,_=>none
 | none=>none
def lk:List Field→Nat→List (Kv F)→List (Kv F)→Option Bool
 | [],_,[],[]=>some true
 | [f],off,cs,ds => if f.name != "_" && f.offset == off then match SA T f cs ds with
  | some (x,n)=>if cs.length=n∧ds.length=n then some x else none
  | none=>none
  else none
 | f :: f' :: fs,off,cs,ds => if f.name != "_" && f.offset == off then match SA T f cs ds with
  | some (x,n)=>match lk (f'::fs) (off+n) (cs.drop n) (ds.drop n)with
   | some y=>some (x&&y)
   | none=>none
  | none=>none
  else none
 | _,_,_,_=>none
def Uk(fs:List Field)(cs ds:List (Kv F)):Option Bool:=
 match jk T fs 0 cs ds with
 | some b=>some b
 | none=>lk T fs 0 cs ds
def ZM(op:BinOp)(xT:TypeId)(y:Operand):Option R:=
 match vals with
 | [.c (.im (.i k n)),.c (.im (.i k' m))]=>
  match op with
  | .shl=>if Ub y then kI K k (N_ k n m)else(nn m).bind λ_=>kI K k (N_ k n m)
  | .shr=>if Ub y then kI K k (Mi k n m)else(nn m).bind λ_=>kI K k (Mi k n m)
  | _=>if k=k' then ww K op k n m y else none
 | [.c (.im (.s l)),.c (.im (.s m))]=>vY K op l m
 | [.c (.im (.b x)),.c (.im (.b y))]=>
  match T xT,op with
  | some ⟨.bool,_,_,_,_,_⟩,.eql=>kB K (x == y)
  | some ⟨.bool,_,_,_,_,_⟩,.neq=>kB K (!(x == y))
  | _,_=>none
 | [.agg cs,.agg ds]=>
  match T xT,op with
  | some ⟨.struct fs,_,_,_,_,true⟩,.eql=>match Uk T fs.toList cs ds with | some b=>kB K b | none=>none
  | some ⟨.struct fs,_,_,_,_,true⟩,.neq=>match Uk T fs.toList cs ds with | some b=>kB K (!b) | none=>none
  | _,_=>none
 | [.c (.im (.sl _ l)),.c (.im .nl)]=>
  match y,T xT,op with
  | .const (.slice none 0 0),some ⟨.slice _,_,_,_,_,_⟩,.eql=>cond l.isEmpty none (kB K false)
  | .const (.slice none 0 0),some ⟨.slice _,_,_,_,_,_⟩,.neq=>cond l.isEmpty none (kB K true)
  | _,_,_=>none
 | _=>none
def tUn(op:UnOp):Option R:=
 match op,vals with
 | .neg,[.c (.im (.i k n))]=>kI K k (k.wrap (0 - n))
 | .not,[.c (.im (.b x))]=>kB K (!x)
 | _,_=>none
def toB(n:Int):UInt8:=UInt8.ofNat n.toNat
def VD(src dst:TypeId):Option R:=
 match T src,T dst,vals with
 | some _,some ⟨.int k,_,_,_,_,_⟩,[.c (.im (.i _ n))]=>kI K k (k.wrap n)
 | some _,some ⟨.string,_,_,_,_,_⟩,[.c (.im (.s l))]=>K { val:=.c (.im (.s l)) }
 | some ⟨.slice e,_,_,_,_,_⟩,some ⟨.string,_,_,_,_,_⟩,[.c (.KU id)]=>match T e with
  | some ⟨.int .u8,_,_,_,_,_⟩=>match mm id with
   | some (.row (.int .u8) l)=>K { val:=.c (.im (.s (l.map toB))) }
   | _=>none
  | _=>none
 | some ⟨.slice e,_,_,_,_,_⟩,some ⟨.string,_,_,_,_,_⟩,[.c (.im (.sl (.int .u8) l))]=>match T e with
  | some ⟨.int .u8,_,_,_,_,_⟩=>K { val:=.c (.im (.s (l.map toB))) }
  | _=>none
 | _,_,_=>none
def yM(s:TypeId)(f:Nat):Option R:=
 match T s with
 | some ⟨.struct fs,_,_,_,_,_⟩=>match fs[f]? with
  | none=>none
  | some U3=>match T U3.type with
   | none=>none
   | some ti=>if ti.size=0 then none else
    match vals with
    | [.c (.ptr id off)]=>K { val:=.c (.ptr id (off+U3.offset)) }
    | [.c (.Mg id sz i off)]=>K { val:=.c (.Mg id sz i (off+U3.offset)) }
    | [.c (.pt cs off)]=>K { val:=.c (.pt cs (off+U3.offset)) }
    | [.c (.Px id sz i off sz' j off')]=>K { val:=.c (.Px id sz i off sz' j (off'+U3.offset)) }
    | _=>none
 | _=>none
def Vx(s:TypeId)(f:Nat):Option R:=
 match T s,vals with
 | some ⟨.struct fs,size,_,_,_,_⟩,[.agg cs]=>match fs[f]? with
  | none=>none
  | some U3=>match T U3.type with
   | none=>none
   | some ti=>if cs.length=size then pK (dh ti cs U3.offset) K else none
 | _,_=>none
def Pn(n:Nat):Operand→Option Nat
 | .const (.int _ (.ofNat k))=>if Nat.blt k n then some k else none
 | _=>none
def qV(t:TypeId)(y:Operand):Option R:=
 match T t with
 | some ⟨.slice e,_,_,_,_,_⟩=>match T e with
  | none=>none
  | some te=>match vals with
   | [.c (.im (.sl t' l)),.c (.im (.i _ n))]=>if Jm F t'=te.size then(idx l n).bind λx=>K { val:=.c (.pt (Jj F t' x) 0) }else none
   | [.c (.KU id),.c (.im (.i _ n))]=>match mm id with
    | some (.row t' l)=>if Jm F t'=te.size then(Kk n l.length).bind λi=>K { val:=.c (.Mg id te.size i 0) }else none
    | some (.KR t' l)=>if Jm F t'=te.size then(Kk n l.length).bind λi=>K { val:=.c (.Mg id te.size i 0) }else none
    | some (.Oa t' l _ _)=>if Jm F t'=te.size then(Kk n l.length).bind λi=>K { val:=.c (.Mg id te.size i 0) }else none
    | some (.La t' l _)=>if Jm F t'=te.size then(Kk n l.length).bind λi=>K { val:=.c (.Mg id te.size i 0) }else none
    | some (.OG t' l)=>if Jm F t'=te.size then(idx l n).bind λx=>K { val:=.c (.pt (Jj F t' x) 0) }else none
    | _=>none
   | [.c (.O4 id sz i off),.c (.im (.i _ n))]=>match mm id with
    | some (.KR t' l)=>if sz=Jm F t' then(l[i]?).bind λx=>match(Jj F t' x)[off]? with
     | some (.sl t2 l2)=>if Jm F t2=te.size then(Kk n l2.length).bind λj=>K { val:=.c (.Px id sz i off te.size j 0) }else none
     | _=>none
     else none
    | _=>none
   | [.c (.Ny id sz off len),.c (.im (.i _ n))]=>if sz=te.size then(Kk n len).bind λi=>K { val:=.c (.Mg id sz (off+i) 0) }else none
   | [.c (.O6 id len),.c (.im (.i _ n))]=>if te.size=1 then(Kk n len).bind λi=>K { val:=.c (.ptr id i) }else none
   | _=>none
 | some ⟨.array len e,_,_,_,_,_⟩=>match T e with
  | none=>none
  | some te=>match vals with
   | [.c (.ptr id off),.c (.im (.i _ n))]=>match mm id,off with
    | some (.row t' _),0=>if Jm F t'=te.size then
      match Pn len y with
      | some i=>K { val:=.c (.Mg id te.size i 0) }
      | none=>(Kk n len).bind λi=>K { val:=.c (.Mg id te.size i 0) }
     else none
    | some (.box _),off=>match Pn len y with
     | some i=>K { val:=.c (.ptr id (off+i*te.size)) }
     | none=>none
    | _,_=>none
   | [.c (.Mg id sz j off),.c (.im (.i _ _))]=>match Pn len y with
    | some i=>K { val:=.c (.Mg id sz j (off+i*te.size)) }
    | none=>none
   | [.c (.pt cs off),.c (.im (.i _ _))]=>match Pn len y with
    | some i=>K { val:=.c (.pt cs (off+i*te.size)) }
    | none=>none
   | _=>none
 | _=>none
def zr(t:TypeId):Option R:=
 match T t,vals with
 | some ⟨.string,_,_,_,_,_⟩,[.c (.im (.s l)),.c (.im (.i _ n))]=>(idx l n).bind λch=>kI K .u8 ch.toNat
 | _,_=>none
def Vy(t:TypeId):Option R:=
 match T t with
 | none=>none
 | some ti=>match vals with
  | [.c (.pt cs off)]=>pK (dh ti (cs.map .im) off) K
  | [.c (.P5 cs)]=>if da ti.desc then none else K { val:=.c (.pt cs 0) }
  | [.c (.ptr id off)]=>match mm id with
   | some (.box cs)=>pK (dh ti cs off) K
   | some (.WC cs)=>pK (dh ti (cs.map .im) off) K
   | _=>none
  | [.c (.Mg id sz i off)]=>match mm id with
   | some (.row t' l)=>if sz=Jm F t' then(l[i]?).bind λx=>pK (dh ti ((Jj F t' x).map .im) off) K else none
   | some (.OG t' l)=>if sz=Jm F t' then(l[i]?).bind λx=>pK (dh ti ((Jj F t' x).map .im) off) K else none
   | some (.KR t' l)=>if sz=Jm F t'&&!(da ti.desc)then(l[i]?).bind λx=>match(Jj F t' x)[off]? with
    | some (.sl _ _)=>K { val:=.c (.O4 id sz i off) }
    | some d=>if d.flat then K { val:=.c (.im d) }else none
    | none=>none
    else none
   | _=>none
  | _=>none
def yQ(t:TypeId):Option R:=
 match T t with
 | none=>none
 | some ti=>match vals with
  | [.c (.ptr id off),v]=>match mm id with
   | some (.box cs)=>
    let vs:=v.cells
    if vs.length=ti.size&&vs.all Kv.NA&&Nat.ble (off+vs.length) cs.length&&Nat.blt 0 vs.length then
     K { val:=.c .any,mw:=[(id,some (.box (cs.take off++vs++cs.drop (off+vs.length))))] }else none
   | _=>none
  | [.c (.Mg id sz i off),v]=>match mm id,bI mm v.cells with
   | some (.row t' l),some (ds,fz)=>
    if ds.length=ti.size&&sz == Jm F t'&&Nat.ble (off+ds.length) (Jm F t')&&Nat.blt 0 ds.length&&!(Jw id fz)&&cv fz then
     (l[i]?).bind λx=>
      let cs:=Jj F t' x
      match Ml F t' (cs.take off++ds++cs.drop (off+ds.length))with
      | some y=>K { val:=.c .any,mw:=S9 mm fz++[(id,some (.row t' (l.set i y)))] }
      | none=>none
    else none
   | _,_=>none
  | [.c (.Px id sz i off sz' j off'),v]=>match mm id,bI mm v.cells with
   | some (.KR t' l),some (ds,fz)=>
    if ds.length=ti.size&&sz == Jm F t'&&Nat.blt 0 ds.length&&fz.isEmpty then
     (l[i]?).bind λx=>
      match(Jj F t' x)[off]? with
      | some (.sl t2 l2)=>if sz' == Jm F t2&&Nat.ble (off'+ds.length) (Jm F t2)then
        (l2[j]?).bind λy=>
         match Ml F t2 ((Jj F t2 y).take off'++ds++(Jj F t2 y).drop (off'+ds.length))with
         | some z=>match Ml F t' ((Jj F t' x).set off (.sl t2 (l2.set j z)))with
          | some x'=>K { val:=.c .any,mw:=[(id,some (.KR t' (l.set i x')))] }
          | none=>none
         | none=>none
       else none
      | _=>none
    else none
   | _,_=>none
  | _=>none
def rF(tt:Ty):Dat F→Option (List (ET F tt))
 | .c (.im .nl)=>some []
 | .c (.im (.sl t' l))=>if h:t'=tt then some (h▸l)else none
 | .c (.KU id)=>match mm id with
  | some (.row t' l)=>if h:t'=tt then some (h▸l)else none
  | some (.OG t' l)=>if h:t'=tt then some (h▸l)else none
  | _=>none
 | .c (.Ny id sz off n)=>match mm id with
  | some (.row t' l)=>if h:t'=tt then if sz=Jm F t' then some (h▸sub l off n)else none else none
  | some (.OG t' l)=>if h:t'=tt then if sz=Jm F t' then some (h▸sub l off n)else none else none
  | _=>none
 | _=>none
def AH(tt:Ty):List (Dat F)→Option (List Nat×List (ET F tt)×List (ET F tt))
 | [.c (.im .nl),.c (.KU id2)]=>match mm id2 with
  | some (.KR t2 l2)=>if h:t2=tt then some ([id2],[],h▸l2)else none
  | _=>none
 | [.c (.KU id),.c (.KU id2)]=>match mm id,mm id2 with
  | some (.KR t1 l1),some (.KR t2 l2)=>if h:t1=tt then if h2:t2=tt then if Nat.beq id id2 then none else some ([id,id2],h▸l1,h2▸l2)else none else none
  | _,_=>none
 | _=>none
def vR(t0 t1:TypeId):Option R:=
 if t1 != t0 then none else
 match T t0 with
 | some ⟨.slice e,_,_,_,_,_⟩=>match T e with
  | none=>none
  | some te=>match te.ty with
   | none=>none
   | some tt=>if te.size=0 then none else
    match AH mm tt vals with
    | some (rm,l,ys)=>(app te.bytes l ys).bind λl'=>K { val:=.c (.KU c),mw:=rm.map (λr=>(r,none))++[(c,some (.KR tt l'))],nu:=1 }
    | none=>
    match vals with
    | [x,y]=>match rF mm tt y with
     | none=>none
     | some ys=>match x with
      | .c (.im .nl)=>(app te.bytes [] ys).bind λl'=>K { val:=.c (.KU c),mw:=[(c,some (.row tt l'))],nu:=1 }
      | .c (.KU id)=>match mm id with
       | some (.row t' l)=>if h:t'=tt then(app te.bytes (h▸l) ys).bind λl'=>K { val:=.c (.KU c),mw:=[(id,none),(c,some (.row tt l'))],nu:=1 }else none
       | _=>none
      | _=>none
    | _=>none
 | _=>none
def TH(t:TypeId):Option R:=
 match T t with
 | some ⟨.slice e,_,_,_,_,_⟩=>match T e with
  | none=>none
  | some te=>match te.ty with
   | none=>none
   | some tt=>if te.size=0 then none else
    match vals,Ml F tt te.zero with
    | [.c (.im (.i _ n)),.c (.im (.i _ m))],some z=>(P7 te.bytes n m z).bind λl=>K { val:=.c (.KU c),mw:=[(c,some (.row tt l))],nu:=1 }
    | _,_=>none
 | _=>none
def Xj:Operand→Option Nat
 | .const (.int _ (.ofNat k))=>some k
 | _=>none
def p9(t:TypeId)(x y:Operand):Option Nat:=
 match T t,Xj x,Xj y with
 | some ⟨.slice e,_,_,_,_,_⟩,some n,some m=>match T e with
  | some ⟨.slice _,1,b,[.nl],_,_⟩=>if n=m∧0<n∧n≤8∧b≤1000 then some n else none
  | _=>none
 | _,_,_=>none
def Cu(n:Nat):Option R:=K { val:=.c (.O6 c n),mw:=[(c,some (.box (List.replicate n (.im .nl))))],nu:=1 }
def lay(place:Nat→Option (Nat×Nat))(cells:List (Kv F)):List (Nat×Dat F)→Option (List (Kv F))
 | []=>some cells
 | (i,v)::rest=>
  match place i with
  | none=>none
  | some (off,size)=>
   if v.cells.length=size&&Nat.ble (off+size) cells.length&&(v.cells.all Kv.NA)&&Nat.blt 0 size then lay place (cells.take off++v.cells++cells.drop (off+size)) rest else none
def oP:List Field→Option (List (Nat×Nat))
 | []=>some []
 | f::l=>match T f.type with
  | none=>none
  | some ti=>match oP l with
   | none=>none
   | some r=>some ((f.offset,ti.size)::r)
def yc(t:TypeId)(ix:List Nat):Option R:=
 match T t with
 | some ⟨.struct fs,_,_,zero,_,_⟩=>match oP T fs.toList with
  | none=>none
  | some pl=>match lay (λi=>pl[i]?) (zero.map .im) (ix.zip vals)with
   | none=>none
   | some cs=>K { val:=.agg cs }
 | some ⟨.array _ e,_,_,zero,_,_⟩=>match T e with
  | none=>none
  | some te=>match lay (λi=>some (i*te.size,te.size)) (zero.map .im) (ix.zip vals)with
   | none=>none
   | some cs=>K { val:=.agg cs }
 | _=>none
def je(tt:Ty)(sz:Nat):Nat→List (ND F)→Option (List (ET F tt))
 | 0,_=>some []
 | n+1,l=>match Ml F tt (l.take sz)with
  | none=>none
  | some x=>match je tt sz n (l.drop sz)with
   | none=>none
   | some r=>some (x::r)
def pI(t:TypeId)(len:Nat)(ix:List Nat):Option R:=
 match T t with
 | some ⟨.slice e,_,_,_,_,_⟩=>match T e with
  | none=>none
  | some te=>match te.ty with
   | none=>none
   | some tt=>if te.size=0||Nat.blt 1048576 (len*te.size)||Jm F tt != te.size then none else
    match lay (λi=>some (i*te.size,te.size)) ((List.replicate len te.zero).flatten.map .im) (ix.zip vals)with
    | none=>none
    | some cs=>match bI mm cs with
     | none=>none
     | some (ds,fz)=>match je tt te.size len ds with
      | none=>none
      | some l=>if ds.length=len*te.size&&cv fz then K { val:=.c (.KU c),mw:=S9 mm fz++[(c,some (.row tt l))],nu:=1 }else none
 | _=>none
def jV:List (Kv F)→Option (List (ND F)×List (Option Nat))
 | []=>some ([],[])
 | .KU id::r=>match mm id with
  | some (.row t l)=>match jV r with
   | some (ds,os)=>some (.sl t l::ds,some id::os)
   | none=>none
  | _=>none
 | .im .nl::r=>match jV r with
  | some (ds,os)=>some (.nl::ds,none::os)
  | none=>none
 | .im d::r=>if d.flat then match jV r with
  | some (ds,os)=>some (d::ds,none::os)
  | none=>none
  else none
 | _::_=>none
def n9(t:TypeId)(len:Nat)(ix:List Nat):Option R:=
 match T t with
 | some ⟨.slice e,_,_,_,_,_⟩=>match T e with
  | none=>none
  | some te=>match te.ty with
   | none=>none
   | some tt=>if te.size=0||Nat.blt 1048576 (len*te.size)||Jm F tt != te.size then none else
    match lay (λi=>some (i*te.size,te.size)) ((List.replicate len te.zero).flatten.map .im) (ix.zip vals)with
    | none=>none
    | some cs=>match jV mm cs with
     | none=>none
     | some (ds,os)=>match je tt te.size len ds with
      | none=>none
      | some l=>if ds.length=len*te.size&&cv (Km os)then K { val:=.c (.KU c),mw:=(Km os).map (λr=>(r,none))++[(c,some (.KR tt l))],nu:=1 }else none
 | _=>none
def AV:Ctx F→Bool
 | (a,_)::(b,_)::_=>Nat.beq a b
 | _=>false
def aiO(t:TypeId):Bool:=
 match T t with
 | some ⟨.slice e,_,_,_,_,_⟩=>match T e with
  | some te=>match te.ty with
   | some tt=>tt.K9&&!(cB F tt)
   | none=>false
  | none=>false
 | _=>false
def Uz(elem:TypeId)(cs:List (Kv F)):Option R:=
 match T elem with
 | none=>none
 | some ti=>if cs.length=ti.size&&cs.all Kv.NA&&Nat.blt 0 cs.length then
  match ti.desc with
  | .array len e=>match T e with
   | none=>none
   | some te=>match te.ty with
    | none=>none
    | some tt=>match bI mm cs with
     | none=>none
     | some (ds,fz)=>match je tt te.size len ds with
      | none=>none
      | some l=>if te.size=0||ds.length != len*te.size||Jm F tt != te.size||!(Nat.ble len 1048576)||!(fz.isEmpty)then none else
       K { val:=.c (.ptr c 0),mw:=[(c,some (.row tt l))],nu:=1 }
  | _=>K { val:=.c (.ptr c 0),mw:=[(c,some (.box cs))],nu:=1 }
 else none
def bound(o:Option Nat)(dflt:Int):Option Int:=match o with
 | none=>some dflt
 | some k=>match(vals[k]? : Option (Dat F))with | some (.c (.im (.i _ n)))=>some n | _=>none
def yq(t:TypeId)(lo hi:Option Nat):Option R:=
 match T t,(vals[0]? : Option (Dat F))with
 | some ⟨.string,_,_,_,_,_⟩,some (.c (.im (.s l)))=>match bound vals lo 0,bound vals hi l.length with
  | some a,some b=>(slc l a b).bind λr=>K { val:=.c (.im (.s r)) }
  | _,_=>none
 | some ⟨.slice e,_,_,_,_,_⟩,some (.c x)=>match T e with
  | none=>none
  | some te=>match x with
   | .im (.sl t' l)=>if Jm F t'=te.size then match bound vals lo 0,bound vals hi l.length with
    | some a,some b=>(slc l a b).bind λr=>K { val:=.c (.im (.sl t' r)) }
    | _,_=>none
    else none
   | .KU id=>match mm id with
    | some (.row t' l)=>if Jm F t'=te.size then match bound vals lo 0,bound vals hi l.length with
     | some a,some b=>(Ms a b l.length).bind λp=>K { val:=.c (.Ny id te.size p.1 p.2) }
     | _,_=>none
     else none
    | some (.OG t' l)=>if Jm F t'=te.size then match bound vals lo 0,bound vals hi l.length with
     | some a,some b=>(slc l a b).bind λr=>K { val:=.c (.im (.sl t' r)) }
     | _,_=>none
     else none
    | _=>none
   | _=>none
 | _,_=>none
def ZL(t:TypeId):Option R:=
 match T t,vals with
 | some ⟨.string,_,_,_,_,_⟩,[.c (.im (.s l))]=>kI K .i64 l.length
 | some ⟨.slice _,_,_,_,_,_⟩,[.c (.im (.sl _ l))]=>kI K .i64 l.length
 | some ⟨.slice _,_,_,_,_,_⟩,[.c (.im .nl)]=>kI K .i64 0
 | some ⟨.slice _,_,_,_,_,_⟩,[.c (.KU id)]=>match mm id with
  | some (.row _ l)=>kI K .i64 l.length
  | some (.OG _ l)=>kI K .i64 l.length
  | some (.KR _ l)=>kI K .i64 l.length
  | some (.Oa _ l _ _)=>kI K .i64 l.length
  | some (.La _ l _)=>kI K .i64 l.length
  | _=>none
 | some ⟨.slice _,_,_,_,_,_⟩,[.c (.Ny _ _ _ n)]=>kI K .i64 n
 | some ⟨.slice _,_,_,_,_,_⟩,[.c (.O6 _ n)]=>kI K .i64 n
 | some ⟨.array n _,_,_,_,_,_⟩,[_]=>kI K .i64 n
 | some ⟨.map _ _,_,_,_,_,_⟩,[.c (.Og id)]=>match mm id with
  | some (.mp _ l)=>kI K .i64 l.length
  | _=>none
 | _,_=>none
def ML(tt:Ty)(kd:ND F)(x:ET F tt):Bool:=match kd,Jj F tt x with
 | .i _ n,.i _ m::_=>n == m
 | .s a,.s b::_=>a == b
 | _,_=>false
def Ou(tt:Ty)(D:Option TypeDesc)(kd:ND F):Bool:=match tt with
 | .st n=>match F.fs n,D,kd with
  | .int K::_,some (.int K'),.i K'' _=>decide (K=K')&&decide (K'=K'')
  | .str::_,some .string,.s _=>true
  | _,_,_=>false
 | _=>false
def pO(tt:Ty)(x:ET F tt):Option (Dat F):=match Jj F tt x with
 | _::Np=>cond tt.SY (some (.agg (Np.map .im))) (match Np with | [d]=>some (.c (.im d)) | _=>none)
 | []=>none
def Rh(t:TypeId):Option (TypeId×TypeId×Ty):=match T t with
 | some ⟨.map k v,_,_,_,some (.slice tt),_⟩=>cond tt.KX (some (k,v,tt)) none
 | _=>none
def wj(v:TypeId)(tt:Ty)(kd:ND F):Option (ET F tt):=match T v with
 | some te=>cond (da te.desc == tt.SY) (Ml F tt (kd::te.zero)) none
 | none=>none
def ui(t:TypeId):Option R:=
 match Rh T t with
 | some (_,_,tt)=>K { val:=.c (.Og c),mw:=[(c,some (.mp tt []))],nu:=1 }
 | none=>none
def v_(t:TypeId)(ok:Bool):Option R:=
 match Rh T t,vals with
 | some (k,v,tt),[.c (.Og id),.c (.im kd)]=>match mm id with
  | some (.mp Pb l)=>if h:Pb=tt then cond (Ou tt (eD T k) kd) (match wj T v tt kd with
   | some z=>match pO tt (Lx (ML tt kd) (h▸l) z)with
    | some d=>K { val:=cond ok (.MI [d,.c (.im (.b (Oi (ML tt kd) (h▸l))))]) d }
    | none=>none
   | none=>none) none else none
  | _=>none
 | _,_=>none
def sm(tt:Ty):Dat F→Option (List (Kv F))
 | .c x=>cond tt.SY none (some [x])
 | .agg cs=>cond tt.SY (some cs) none
 | _=>none
def qT(t:TypeId):Option R:=
 match Rh T t,vals with
 | some (k,_,tt),[.c (.Og id),.c (.im kd),d]=>match mm id,sm tt d with
  | some (.mp Pb l),some cs=>if h:Pb=tt then cond (Ou tt (eD T k) kd) (match bI mm cs with
   | some (ds,[])=>match Ml F tt (kd::ds)with
    | some y=>K { val:=.c .any,mw:=[(id,some (.mp tt (Lu (ML tt kd) (h▸l) y)))] }
    | none=>none
   | _=>none) none else none
  | _,_=>none
 | _,_=>none
def pV(f:Int→Int→Int)(k:IntKind)(n:Int):List (Dat F)→Option Int
 | []=>some n
 | .c (.im (.i k' m))::l=>if k=k' then pV f k (f n m) l else none
 | _=>none
def TK(f:Int→Int→Int):Option R:=
 match vals with
 | .c (.im (.i k n))::l=>match pV f k n l with
  | some m=>kI K k m
  | none=>none
 | _=>none
def nones(l:List Nat):List (Nat×Option (J8 F)):=l.map λi=>(i,none)
def blks(l:List (Nat×J8 F)):List (Nat×Option (J8 F)):=l.map λp=>(p.1,some p.2)
def nmF:Nat→List (J8 F)→List (Nat×J8 F)
 | _,[]=>[]
 | c,B::r=>(c,B)::nmF (c+1) r
def bz(F:Fam):Nat→List (ND F)→List (Nat×J8 F)
 | _,[]=>[]
 | k,d::r=>match d with
  | .sl t l=>(k,.row t l)::bz F (k+1) r
  | _=>bz F (k+1) r
def takeC(F:Fam):Nat→List (ND F)→List (Kv F)
 | _,[]=>[]
 | c,d::r=>match d with
  | .sl _ _=>.KU c::takeC F (c+1) r
  | d=>.im d::takeC F c r
def NV.okN:ND F→Bool
 | .sl _ _=>true
 | d=>d.flat
def mv(mm:Nat→Option (J8 F)):Kv F→Option (ND F×Option Nat)
 | .KU id=>match mm id with
  | some (.row t l)=>some (.sl t l,some id)
  | _=>none
 | .im d=>match d with
  | .nl=>some (.nl,none)
  | d=>if d.flat then some (d,none)else none
 | _=>none
def dt(mm:Nat→Option (J8 F)):List (Kv F)→Option (List (ND F)×List (Option Nat))
 | []=>some ([],[])
 | c::r=>match mv mm c with
  | none=>none
  | some (d,o)=>match dt mm r with
   | none=>none
   | some (ds,os)=>some (d::ds,o::os)
def Ve(id c n:Nat)(os:List (Option Nat))(B:J8 F):List (Nat×Option (J8 F)):=nones (id::Km os)++[(c,some B),(id,some (.MJ c n))]
def Nr(id c:Nat)(t:Ty)(l:List (ET F t))(i:Nat)(ks:List Nat)(rs:List (J8 F)):List (Nat×Option (J8 F)):=
 (id,none)::(c,some (.Oa t l i ks))::blks (nmF (c+1) rs)++[(id,some (.MJ c l.length))]
def fgC(ks:List Nat):Kv F→Kv F
 | .im d=>cond d.flat (.im d) .one
 | .KU id=>cond (Jw id ks) (.KU id) .one
 | .any=>.any
 | _=>.one
def fgD(ks:List Nat):Dat F→Dat F
 | .c x=>.c (fgC ks x)
 | .agg cs=>.agg (cs.map (fgC ks))
 | _=>.c .any
def U4:Nat×J8 F→Bool
 | (_,.row t _)=>cB F t
 | _=>false
def fgt:Ctx F→Bool
 | a::b::c::_=>Nat.beq a.1 b.1&&Nat.beq b.1 c.1
 | _=>false
def mark:Ctx F→Ctx F
 | []=>[]
 | a::l=>a::a::a::l
def zx(f:FuncId)(args:List (Dat F)):Option R:=
 match look Γ f with
 | none=>none
 | some sp=>match gM Γ mm sp.ks (args.map R5)with
  | none=>none
  | some p=>if cv (Km p.os)&&NI (Km p.os) p.fz then
    (sp.D p.x).bind λr=>
     match ap (sp.rs++sp.ks.filter Kd.KT) r p.bx c with
     | (ds,bs,c')=>K { val:=Tc (ds.map (fgD ((bs.filter U4).map (·.1)))),mw:=nones (Km p.os)++blks (bs.filter U4),nu:=c' - c }
   else none
def vq(f:FuncId)(args:List (Dat F)):Option R:=
 cond (fgt Γ) (zx Γ mm c K f args) <|
 match look Γ f with
 | none=>none
 | some sp=>match gM Γ mm sp.ks (cond ((sp.rs++sp.ks.filter Kd.KT).all (Kd.KI F)) (args.map R5) args)with
  | none=>none
  | some p=>if cv (Km p.os)&&NI (Km p.os) p.fz then
    (sp.D p.x).bind λr=>
     match ap (sp.rs++sp.ks.filter Kd.KT) r p.bx c with
     | (ds,bs,c')=>K { val:=Tc ds,mw:=(if(sp.rs++sp.ks.filter Kd.KT).all (Kd.KI F)then[]else S9 mm p.fz)++nones (Km p.os)++blks bs,nu:=c' - c }
   else none
def qi(ks:List Ty)(r:Ty)(φ : Js F ks→Option (ET F r))(args:List (Dat F)):Option R:=
 match Mk mm (ks.map λt=>.v t []) args [] []with
 | none=>none
 | some q=>if cB F r then match Sb ks (q.x ())with
   | a=>(φ a).bind λx=>K { val:=aau r x }
  else none
where Sb:(ks:List Ty)→HL F (ks.map λt=>.v t [])→Js F ks
 | [],_=>()
 | _::ks,a=>(a.1,Sb ks a.2)
def VA(t:TypeId):Option R:=
 match T t with
 | some ⟨.slice e,_,_,_,_,_⟩=>match T e with
  | none=>none
  | some te=>match vals with
   | [.c (.KU id),y]=>match mm id with
    | some (.row t l)=>if Jm F t=te.size then match rF mm t y with
     | some ys=>K { val:=.c (.im (.i .i64 (min l.length ys.length:Nat))),mw:=[(id,some (.row t (LP l 0 l.length ys)))] }
     | none=>none
     else none
    | _=>none
   | [.c (.Ny id sz off n),y]=>match mm id with
    | some (.row t l)=>if Jm F t=te.size&&sz == te.size then match rF mm t y with
     | some ys=>K { val:=.c (.im (.i .i64 (min n ys.length:Nat))),mw:=[(id,some (.row t (LP l off n ys)))] }
     | none=>none
     else none
    | _=>none
   | _=>none
 | _=>none
def yS(t:TypeId):Option R:=
 match T t,vals with
 | some ⟨.slice e,_,_,_,_,_⟩,[.c (.Ny id sz off n)]=>match T e with
  | none=>none
  | some te=>match mm id with
   | some (.row tt l)=>if Jm F tt=te.size&&sz == te.size&&Nat.blt 0 te.size then match Ml F tt te.zero with
    | some z=>K { val:=.MI [],mw:=[(id,some (.row tt (LP l off n (List.replicate n z))))] }
    | none=>none
    else none
   | _=>none
 | _,_=>none
def Vz(t:TypeId)(hi:Option Nat):Option R:=
 match T t,vals with
 | some ⟨.slice e,_,_,_,_,_⟩,.c (.KU id)::_=>match T e with
  | none=>none
  | some te=>match mm id with
   | some (.row t' l)=>if Jm F t'=te.size then match bound vals hi l.length with
    | some b=>(Ms 0 b l.length).bind λp=>K { val:=.c (.KU c),mw:=[(id,none),(c,some (.row t' (l.take p.2)))],nu:=1 }
    | none=>none
    else none
   | _=>none
 | _,_=>none
def VE(cl:Call):Option R:=
 match cl.callee with
 | .builtin .len=>match cl.argTypes,cl.args with
  | ⟨[t]⟩,⟨[_]⟩=>ZL T vals mm K t
  | _,_=>none
 | .builtin .append=>match cl.argTypes,cl.args with
  | ⟨[t0,t1]⟩,⟨[_,_]⟩=>vR T vals mm c K t0 t1
  | _,_=>none
 | .builtin .copy=>match cl.argTypes,cl.args with
  | ⟨[t,_]⟩,⟨[_,_]⟩=>VA T vals mm K t
  | _,_=>none
 | .builtin .clear=>match cl.argTypes,cl.args with
  | ⟨[t]⟩,⟨[_]⟩=>yS T vals mm K t
  | _,_=>none
 | .builtin .min=>TK vals K Oj
 | .builtin .max=>TK vals K imax
 | .value _=>match vals with
  | .c (.im (.v (.func (.func f) ⟨[]⟩ ⟨[]⟩)))::args=>vq Γ mm c K f args
  | .NM (.func f) fs cs::args=>vq Γ mm c K f (fs++args++cs)
  | .fv ks r φ::args=>qi mm K ks r φ args
  | _=>none
 | _=>none
def Vw:Option R:=
 match vals with
 | [.c (.im (.b x)),a,b]=>cond x (K { val:=a }) (K { val:=b })
 | _=>none
def sA:Option R:=
 match vals with
 | [.c (.ptr id off)]=>K { val:=.c (.ptr id off) }
 | [.c (.Mg id sz i off)]=>K { val:=.c (.Mg id sz i off) }
 | [.c (.pt cs off)]=>K { val:=.c (.pt cs off) }
 | _=>none
def yC(fn:Fn)(first captured:Nat):Option R:=
 if first=0&&captured=0 then K { val:=.c (.im (.v (.func fn #[] #[]))) }
 else K { val:=.NM fn (vals.take first) (vals.drop first) }
def Ud(lo:Option Operand):Nat:=match lo with | some _=>2 | none=>1
def ob(o:Option Operand)(k:Nat):Option Nat:=match o with | some _=>some k | none=>none
def Xy(o:Op):Option R:=
 match o with
 | .move _ | .assign _=>match vals with | [x]=>K { val:=x } | _=>none
 | .pick _ _ _=>Vw vals K
 | .alloc elem=>match T elem with | some ti=>Uz T mm c K elem (ti.zero.map .im) | none=>none
 | .box elem _=>match vals with | [x]=>Uz T mm c K elem x.cells | _=>none
 | .build t parts=>yc T vals K t (parts.toList.map (·.1))
 | .buildSlice t len parts=>if AV Γ && aiO T t then n9 T vals mm c K t len (parts.toList.map (·.1))else pI T vals mm c K t len (parts.toList.map (·.1))
 | .load t _=>Vy T vals mm K t
 | .store t _ _=>yQ T vals mm K t
 | .nilCheck _=>sA vals K
 | .binOp op t _ y _=>ZM T vals K op t y
 | .unOp op _ _=>tUn vals K op
 | .convert s d _=>VD T vals mm K s d
 | .makeFunc fn first captured=>yC vals K fn first.size captured.size
 | .makeSlice t x y=>if AV Γ then(match p9 T t x y with | some n=>Cu c K n | none=>TH T vals c K t)else TH T vals c K t
 | .slice t _ lo hi none=>if fgt Γ && lo.isNone then Vz T vals mm c K t (ob hi 1)else yq T vals mm K t (ob lo 1) (ob hi (Ud lo))
 | .fieldAddr s _ f=>yM T vals K s f
 | .field s _ f=>Vx T vals K s f
 | .indexAddr t _ y=>qV T vals mm K t y
 | .index t _ _=>zr T vals K t
 | .makeMap t none=>ui T c K t
 | .lookup t _ _ ok=>v_ T vals mm K t ok
 | .mapUpdate t _ _ _=>qT T vals mm K t
 | .extract _ i=>match vals with | [.MI ds]=>(match ds[i]? with | some d=>K { val:=d } | none=>none) | _=>none
 | .call cl=>VE T Γ vals mm c K cl
 | _=>none
end
end
set_option linter.unusedVariables false
set_option linter.unusedSimpArgs false
structure Rec where
 rs:List Nat
 d:Option Nat
 tm:List Nat
 wm:List Nat
 Ur:Nat
def oJ:List Operand→List Nat
 | []=>[]
 | .tmp t::l=>t::oJ l
 | _::l=>oJ l
def KH:List Edge→List Nat
 | []=>[]
 | x::l=>if Region.binds .any x then x.on::KH l else KH l
def Nf(recs:List Rec):List Nat→Nat
 | []=>0
 | i::l=>Nat.lor (Nat.lor (2 ^ i) ((recs[i]?).elim 0 (·.Ur))) (Nf recs l)
def NH(ops:List Oper)(j:Nat):Option Nat:=(ops[j]?).bind (·.dst)
def meets(a b:List Nat):Bool:=match a with | []=>false | x::l=>Jw x b||meets l b
def Rec.conflict(a b:Rec):Bool:=
 (match a.d with | some x=>Jw x b.rs||(match b.d with | some y=>Nat.beq x y | none=>false) | none=>false) ||
 (match b.d with | some y=>Jw y a.rs | none=>false) ||
 meets a.wm b.tm||meets a.wm b.wm||meets b.wm a.tm
def qe(b:Rec):Nat→List Rec→Bool
 | _,[]=>true
 | i,a::l=>(Nat.testBit b.Ur i||!(a.conflict b))&&qe b (i+1) l
def r9(all:List Rec):List Rec→Bool
 | []=>true
 | b::l=>qe b 0 (all.take (all.length - (b::l).length))&&r9 all l
def qm:Nat→List Oper→Bool
 | _,[]=>true
 | i,o::l=>(KH o.after.toList).all (λk=>Nat.blt k i)&&qm (i+1) l
section
variable{F:Fam}
def Kv.ids:Kv F→List Nat
 | .ptr id _ | .Mg id _ _ _ | .Ny id _ _ _ | .KU id | .O4 id _ _ _ | .Px id _ _ _ _ _ _ | .O6 id _ | .Og id=>[id]
 | _=>[]
def wi:List (Kv F)→List Nat
 | []=>[]
 | c::l=>c.ids++wi l
mutual
def Dat.ids:Dat F→List Nat
 | .c x=>x.ids
 | .agg cs=>wi cs
 | .NM _ fs cs=>lC fs++lC cs
 | .gh id=>[id]
 | _=>[]
def lC:List (Dat F)→List Nat
 | []=>[]
 | d::l=>d.ids++lC l
end
def zi(mm:Nat→Option (J8 F)):Nat→Nat→List Nat
 | 0,_=>[]
 | n+1,k=>k::match mm k with | some (.MJ k' _)=>zi mm n k' | _=>[]
def yO(mm:Nat→Option (J8 F)):List Nat→List Nat
 | []=>[]
 | id::l=>id::((match mm id with | some (.MJ k _)=>zi mm 9 k | _=>[])++yO mm l)
def DJ(mm:Nat→Option (J8 F)):List Nat→List Nat
 | []=>[]
 | id::l=>(match mm id with | some (.box cs)=>yO mm (wi cs) | some (.MJ k _)=>zi mm 9 k | _=>[])++DJ mm l
def reach(mm:Nat→Option (J8 F))(ids:List Nat):List Nat:=ids++DJ mm ids
def Ao(mm:Nat→Option (J8 F))(o:Op)(vals:List (Dat F)):List Nat:=
 match o with
 | .call _=>reach mm (reach mm (lC vals))
 | .indexAddr _ _ _=>lC vals
 | .load _ _=>yO mm (lC vals)
 | .store _ _ _ | .slice _ _ _ _ _ | .buildSlice _ _ _ | .box _ _ | .convert _ _ _ | .lookup _ _ _ _ | .mapUpdate _ _ _ _=>reach mm (lC vals)
 | _=>[]
def TT(m:Nat→Option (J8 F))(l:List Nat):Nat→Option (J8 F):=λid=>if Jw id l then m id else none
structure TS(F:Fam) where
 E:List (Nat×Dat F)
 M:List (Nat×J8 F)
 c:Nat
 dE:List Nat:=[]
 dM:List Nat:=[]
def Ru(E:List (Nat×Dat F))(dst:Option Nat)(d:Dat F):List (Nat×Dat F):=
 match dst with
 | some x=>(x,d)::E
 | none=>E
def NQ(M:List (Nat×J8 F)):List (Nat×Option (J8 F))→List (Nat×J8 F)
 | []=>M
 | (id,none)::r=>NQ (M.filter λp=>!(Nat.beq id p.1)) r
 | (id,some B)::r=>NQ ((id,B)::M.filter λp=>!(Nat.beq id p.1)) r
section
variable(T:TypeId→Option (TI F))(Γ : Ctx F)(nv n:Nat)
def dirty(dE:List Nat):Option Nat→List Nat
 | some x=>if Nat.blt x nv then x::dE else dE
 | none=>dE
variable{R:Type}
def VF(vals:List (Dat F))(mm:Nat→Option (J8 F))(c:Nat)(K:Oy F→Option R)(o:Op)(id sz i off:Nat):Option R:=
 match mm id with
 | some (.KR t l)=>if sz=Jm F t then(l[i]?).bind λx=>match(Jj F t x)[off]? with
  | some (.sl t2 l2)=>Xy T Γ (.c (.KU (c+1))::vals.tail) (Ki mm (Nr id c t l i [off] [.row t2 l2])) (c+2) (λr=>K ⟨r.val,Nr id c t l i [off] [.row t2 l2]++r.mw,2+r.nu⟩) o
  | _=>none
  else none
 | _=>none
def TG(mm:Nat→Option (J8 F))(c:Nat)(K:Oy F→Option R)(ty:TypeId)(id sz i off:Nat)(v:Dat F)(t:Ty)(l:List (ET F t))(i0:Nat)(ks:List Nat):Option R:=
 match T ty with
 | none=>none
 | some ti=>match dt mm v.cells with
  | none=>none
  | some (ds,os)=>
   if ds.length=ti.size&&sz == Jm F t&&Nat.ble (off+ds.length) (Jm F t)&&Nat.blt 0 ds.length&&cv (id::Km os)&&ks.all (λq=>Nat.ble off q&&Nat.blt q (off+ds.length))then
    cond (ks.isEmpty||Nat.beq i i0) ((l[i]?).bind λx=>match Ml F t ((Jj F t x).take off++ds++(Jj F t x).drop (off+ds.length))with
     | some y=>K { val:=.c .any,mw:=Ve id c l.length os (.KR t (l.set i y)),nu:=1 }
     | none=>none) none
   else none
def Vu(mm:Nat→Option (J8 F))(c:Nat)(K:Oy F→Option R)(ty:TypeId)(id sz i off:Nat)(v:Dat F)(t:Ty)(l:List (ET F t))(j:Nat):Option R:=
 match T ty with
 | none=>none
 | some ti=>match dt mm v.cells with
  | none=>none
  | some (ds,os)=>
   if ds.length=ti.size&&sz == Jm F t&&Nat.ble (off+ds.length) (Jm F t)&&Nat.blt 0 ds.length&&cv (id::Km os)then
    cond (Nat.beq i j) ((l[i]?).bind λx=>
     if((Jj F t x).take off++(Jj F t x).drop (off+ds.length)).all NV.flat then
      match Ml F t ((Jj F t x).take off++ds++(Jj F t x).drop (off+ds.length))with
      | some y=>K { val:=.c .any,mw:=Ve id c l.length os (.La t (l.set i y) (j+1)),nu:=1 }
      | none=>none
     else none) none
   else none
def zw(c:Nat)(K:Oy F→Option R)(ty:TypeId)(id sz i off:Nat)(t:Ty)(l:List (ET F t)):Option R:=
 match T ty with
 | none=>none
 | some ti=>if sz == Jm F t&&da ti.desc then(l[i]?).bind λx=>
   if(((Jj F t x).drop off).take ti.size).all NV.flat then pK (dh ti ((Jj F t x).map λd=>cond d.flat (.im d) .one) off) (λr=>K r)
   else if(Jj F t x).all NV.okN then match dh ti (takeC F (c+1) (Jj F t x)) off with
    | some d=>K { val:=d,mw:=Nr id c t l i ((bz F 0 (Jj F t x)).map (·.1)) ((bz F 0 (Jj F t x)).map (·.2)),nu:=1+(bz F 0 (Jj F t x)).length }
    | none=>none
   else none
  else none
def yB(K:Oy F→Option R)(ty:TypeId)(sz i off:Nat)(t:Ty)(l:List (ET F t))(j:Nat):Option R:=
 match T ty with
 | none=>none
 | some ti=>if sz == Jm F t then cond (Nat.ble j i) ((l[i]?).bind λx=>pK (dh ti ((Jj F t x).map .im) off) (λr=>K r)) none else none
def Xc(vals:List (Dat F))(mm:Nat→Option (J8 F))(c:Nat)(K:Oy F→Option R)(o:Op):Option R:=
 match o,vals with
 | .call ⟨.builtin .append,_,_⟩,.c (.O4 id sz i off)::_=>VF T Γ vals mm c K o id sz i off
 | .store ty _ _,[.c (.Mg id sz i off),v]=>match mm id with
  | some (.KR t l)=>TG T mm c K ty id sz i off v t l 0 []
  | some (.Oa t l i0 ks)=>TG T mm c K ty id sz i off v t l i0 ks
  | some (.La t l j)=>Vu T mm c K ty id sz i off v t l j
  | _=>Xy T Γ vals mm c K o
 | .load ty _,[.c (.Mg id sz i off)]=>match mm id with
  | some (.KR t l)=>match T ty with
   | some ti=>if da ti.desc then zw T c K ty id sz i off t l else Xy T Γ vals mm c K o
   | none=>none
  | some (.La t l j)=>yB T K ty sz i off t l j
  | _=>Xy T Γ vals mm c K o
 | .indexAddr ty _ _,[.c (.KU id),.c (.im (.i _ n))]=>match mm id with
  | some (.MJ _ len)=>match T ty with
   | some ⟨.slice e,_,_,_,_,_⟩=>match T e with
    | some te=>(Kk n len).bind λi=>K { val:=.c (.Mg id te.size i 0) }
    | none=>none
   | _=>none
  | _=>Xy T Γ vals mm c K o
 | _,_=>Xy T Γ vals mm c K o
def ZK(vals:List (Dat F))(mm:Nat→Option (J8 F))(c:Nat)(K:Oy F→Option R)(o:Op):Option R:=
 match o with
 | .indexAddr _ _ _=>Xc T Γ vals mm c K o
 | o=>Xc T Γ (vals.map (Xf mm)) mm c K o
def tGo(o:Oper)(gs:List Nat)(s:TS F)(recs:List Rec)(K:TS F→List Rec→Option R):Option R:=
 let vals:=o.op.operands.toList.map (Zq (look s.E))
 let tm:=Ao (look s.M) o.op vals
 ZK T Γ vals (TT (look s.M) tm) s.c (λres=>
  if(match o.dst with | some d=>Nat.blt d n | none=>true)then
   K ⟨Ru s.E o.dst res.val,NQ s.M res.mw,s.c+res.nu,dirty nv s.dE o.dst,res.mw.map (·.1)++s.dM⟩
    (recs++[⟨gs++oJ o.op.operands.toList,o.dst,tm,res.mw.map (·.1),Nf recs (KH o.after.toList)⟩])
  else none) o.op
def Sd(o:Oper)(gs:List Nat)(s:TS F)(recs:List Rec)(K:TS F→List Rec→Option R):Option R:=
 if(match o.dst with | some d=>Nat.blt d n | none=>true)then
  K ⟨Ru s.E o.dst (.MI []),s.M,s.c,dirty nv s.dE o.dst,s.dM⟩ (recs++[⟨gs,o.dst,[],[],Nf recs (KH o.after.toList)⟩])
 else none
def Vv(ops:List Oper)(o:Oper)(s:TS F)(recs:List Rec)(K:TS F→List Rec→Option R):Option R:=
 match o.guard with
 | none=>tGo T Γ nv n o [] s recs K
 | some (j,want)=>match NH ops j with
  | none=>none
  | some d=>match look s.E d with
   | some (.c (.im (.b x)))=>
    cond x
     (let s':TS F:=⟨(d,.c (.im (.b true)))::s.E,s.M,s.c,s.dE,s.dM⟩
      if want then tGo T Γ nv n o [d] s' recs K else Sd nv n o [d] s' recs K)
     (let s':TS F:=⟨(d,.c (.im (.b false)))::s.E,s.M,s.c,s.dE,s.dM⟩
      if want then Sd nv n o [d] s' recs K else tGo T Γ nv n o [d] s' recs K)
   | some (.MI [])=>Sd nv n o [d] s recs K
   | _=>none
def Td(ops:List Oper):List Oper→TS F→List Rec→(TS F→List Rec→Option R)→Option R
 | [],s,recs,K=>K s recs
 | o::l,s,recs,K=>Vv T Γ nv n ops o s recs λs' agh=>Td ops l s' agh K
def pT(kp:List Nat):List (Nat×Dat F)→List Nat→(List (Nat×Dat F)→Option R)→Option R
 | [],_,K=>K []
 | (x,d)::r,seen,K=>if(Nat.blt x nv||Jw x kp)&&!(Jw x seen)then pT kp r (x::seen) λr'=>K ((x,d)::r')else pT kp r seen K
def wz:List Oper→List Nat
 | []=>[]
 | [o]=>o.dst.toList
 | _::l=>wz l
def OU(kp:List Nat)(ops:List Oper)(draw:Bool)(s:TS F)(K:TS F→Option R):Option R:=
 Td T Γ nv n ops ops s [] λs' recs=>
  if(if draw then qm 0 ops&&r9 recs recs else true)then
   pT nv (wz ops++kp) s'.E [] λE'=>K ⟨E',s'.M,s'.c,s'.dE,s'.dM⟩
  else none
end
abbrev Ks:=List (Nat×Kd)
section
variable(F:Fam)
@[reducible] def TLS:Ks→Type
 | []=>Unit
 | [k]=>k.2.El F
 | k::l::r=>k.2.El F×TLS (l::r)
@[reducible] def ExT:List (Nat×Ks)→Type
 | []=>Empty
 | [x]=>TLS F x.2
 | x::y::r=>TLS F x.2 ⊕ ExT (y::r)
end
inductive Hint where
 | z
 | s (a b:Hint)
 | c (a b:Hint)
 | b (a:Hint)
 | r (kp:List Nat)
 | l (ks:Ks) (dr:List Nat) (xs:List (Nat×Ks)) (a:Hint)
 | j (dr:List Nat) (xs:List (Nat×Ks)) (a:Hint)
 | u (n:Nat) (a:Hint)
 | g (ks:Ks) (dr:List Nat) (a:Hint)
 | p (a b:Hint)
 | m (x ix ex:Nat) (dr:List Nat) (a:Hint)
def Hint.isL:Hint→Bool
 | .l _ _ _ _=>true
 | _=>false
def keysOf(ks:Ks):List Nat:=ks.map (·.1)
def MZ(xs:List (Nat×Ks)):List Nat:=xs.flatMap λx=>keysOf x.2
section
variable(T:TypeId→Option (TI F))(Γ : Ctx F)(nv n:Nat)
def PL:List Nat→Option Nat
 | []=>none
 | x::_=>if Nat.ble 5000 x then some (x - 5000)else none
def U5(ow:List Nat)(id:Nat):Dat F:=match PL ow with | some n=>cond (Nat.beq n 4997) (.gh id) (.c (.O6 id n)) | none=>.c (.ptr id 0)
def Sc:Dat F→Dat F
 | .c (.O6 id _)=>.c (.ptr id 0)
 | .gh id=>.c (.ptr id 0)
 | d=>d
def dH(k:Kd)(d:Option (Dat F)):Option Nat:=
 match k,d with
 | .box _ ow,some (.c (.ptr id 0))=>match PL ow with | none=>some id | some _=>none
 | .box _ ow,some (.c (.O6 id n))=>match PL ow with | some m=>if Nat.beq n m&&!(Nat.beq m 4997)then some id else none | none=>none
 | .box _ ow,some (.gh id)=>match PL ow with | some m=>if Nat.beq m 4997 then some id else none | none=>none
 | .row t arr,some d=>u9 t arr d
 | _,_=>none
def vF(s0 s:TS F)(x:Nat)(k:Kd):Option (Pk (k.El F)):=
 match dH k (look s0.E x)with
 | some id=>match look s.E x with
  | none=>none
  | some d=>match dH k (some d)with
   | some id'=>if Nat.beq id id' then Nt Γ (look s.M) k (Sc d)else none
   | none=>none
 | none=>match look s.E x with
  | none=>none
  | some d=>Nt Γ (look s.M) k d
def Pm(s0 s:TS F):(ks:Ks)→Option (Pk (TLS F ks))
 | []=>some ⟨(),[],[],[]⟩
 | [k]=>vF Γ s0 s k.1 k.2
 | k::l::r=>match vF Γ s0 s k.1 k.2 with
   | none=>none
   | some p=>match Pm s0 s (l::r)with
    | none=>none
    | some q=>some ⟨(p.x,q.x),p.os++q.os,p.fz++q.fz,p.bx++q.bx⟩
def Uy(id:Nat):(k:Kd)→k.El F→Nat→Dat F×List (Nat×J8 F)×Nat
 | .box t ow,x,c=>match L9 ow 0 c (Jj F t x)with
  | (cs,bs,c')=>(U5 ow id,(id,.box cs)::bs,c')
 | .row t arr,x,c=>(MC t arr id,[(id,OE t x)],c)
 | _,_,c=>(.c .any,[],c)
def NW(E0:List (Nat×Dat F))(x:Nat)(k:Kd)(v:k.El F)(c:Nat):Dat F×List (Nat×J8 F)×Nat:=
 match dH k (look E0 x)with
 | some id=>Uy id k v c
 | none=>Mt k v c
def KO(E0:List (Nat×Dat F)):(ks:Ks)→TLS F ks→Nat→List (Nat×Dat F)×List (Nat×J8 F)×Nat
 | [],_,c=>([],[],c)
 | [k],a,c=>match NW E0 k.1 k.2 a c with
  | (d,bs,c')=>([(k.1,d)],bs,c')
 | k::l::r,a,c=>match NW E0 k.1 k.2 a.1 c with
  | (d,bs,c')=>match KO E0 (l::r) a.2 c' with
   | (ds,bs',c'')=>((k.1,d)::ds,bs++bs',c'')
def aM(s:TS F)(xs:List Nat):List Nat:=reach (look s.M) (xs.flatMap λx=>match look s.E x with | some d=>d.ids | none=>[])
def Ov(c0:Nat)(kill:List Nat)(l:List Nat):Bool:=l.all λid=>Nat.ble c0 id||Jw id kill
def LA(s0:TS F)(dr:List Nat)(c0:Nat)(kill:List Nat)(ks:Ks)(s:TS F):Option (TLS F ks):=
 if s.dE.all (λx=>Jw x dr)&&Ov c0 kill s.dM then
  match Pm Γ s0 s ks with
  | none=>none
  | some p=>if cv (Km p.os)&&NI (Km p.os) p.fz&&Ov c0 kill (Km p.os)&&Ov c0 kill p.fz then some p.x else none
 else none
def Pg(s0:TS F)(dr:List Nat)(c0:Nat)(kill:List Nat):(xs:List (Nat×Ks))→Nat→TS F→Option (ExT F xs)
 | [],_,_=>none
 | [x],e,s=>if Nat.beq x.1 e then LA Γ s0 dr c0 kill x.2 s else none
 | x::y::r,e,s=>if Nat.beq x.1 e then(match LA Γ s0 dr c0 kill x.2 s with | some v=>some (.inl v) | none=>none)else(match Pg s0 dr c0 kill (y::r) e s with | some v=>some (.inr v) | none=>none)
def merge(dr:List Nat)(kill:List Nat)(s:TS F)(ks:Ks)(v:TLS F ks):TS F:=
 match KO s.E ks v s.c with
 | (es,bs,c')=>⟨es++s.E.filter (λp=>Nat.blt p.1 nv&&!(Jw p.1 dr)),bs++s.M.filter (λp=>!(Jw p.1 kill)),c',dr++s.dE,kill++s.dM⟩
def clean(s:TS F):TS F:=⟨s.E,s.M,s.c,[],[]⟩
def OM{R:Type}(K:(e:Nat)→(ks:Ks)→TLS F ks→Option R):(xs:List (Nat×Ks))→ExT F xs→Option R
 | []=>λ_=>none
 | [x]=>λv=>K x.1 x.2 v
 | x::y::r=>λv=>match v with
  | .inl a=>K x.1 x.2 a
  | .inr b=>OM K (y::r) b
end
end
def iter{τ σ : Type}(step:τ→Option (τ ⊕ σ)):Nat→τ→Option σ
 | 0,_=>none
 | n+1,t=>match step t with
  | none=>none
  | some (.inl t')=>iter step n t'
  | some (.inr r)=>some r
noncomputable def loop{τ σ : Type}(step:τ→Option (τ ⊕ σ))(t:τ):Option σ:=
 match iter step 100000 t with
 | some r=>some r
 | none=>@dite _ (∃r n,iter step n t=some r) (Classical.propDecidable _) (λh=>some h.choose) (λ_=>none)
theorem rW{τ σ : Type}{step:τ→Option (τ ⊕ σ)}{r:σ}:∀{n:Nat}(k:Nat){t:τ},iter step n t=some r→iter step (n+k) t=some r
 | 0,_,_,h=>by simp[iter]at h
 | n+1,k,t,h=>by
  rw[Nat.add_right_comm];simp only[iter]at h ⊢;split at h
  ·cases h
  ·exact rW k h
  ·exact h
theorem pq{τ σ : Type}{step:τ→Option (τ ⊕ σ)}{t:τ}{r:σ}(h:loop step t=some r):∃n,iter step n t=some r:=by
 unfold loop at h;split at h
 ·rename_i e;exact⟨_,e.trans h⟩
 ·split at h
  ·rename_i hx;cases h;exact hx.choose_spec
  ·cases h
theorem zC{τ σ : Type}{step:τ→Option (τ ⊕ σ)}{t:τ}{r q:σ}{n m:Nat}(h:iter step n t=some r)(k:iter step m t=some q):q=r:=by have h1:=rW m h;have h2:=rW n k;rw[XG]at h2;rw[h1]at h2;exact(Option.some.inj h2).symm
theorem rt{τ σ : Type}{step:τ→Option (τ ⊕ σ)}{t:τ}{r:σ}{n:Nat}(h:iter step n t=some r):loop step t=some r:=by
 unfold loop;split
 ·rename_i e;rw[zC h e]
 ·have hx:∃r n,iter step n t=some r:=⟨r,n,h⟩;rw[dif_pos hx];obtain⟨m,hm⟩:=hx.choose_spec;rw[zC h hm]
theorem cR{τ σ : Type}(step:τ→Option (τ ⊕ σ))(t:τ):loop step t=match step t with
  | none=>none
  | some (.inl t')=>loop step t'
  | some (.inr r)=>some r:=by
 cases hl:loop step t with
 | some r=>
  obtain⟨n,hn⟩:=pq hl
  cases n with
  | zero=>simp[iter]at hn
  | succ n=>
   simp only[iter]at hn;split at hn
   ·cases hn
   ·exact(rt hn).symm
   ·cases hn;rfl
 | none=>
  split
  ·rfl
  ·rename_i t' hs
   cases hl':loop step t' with
   | none=>rfl
   | some r=>
    obtain⟨n,hn⟩:=pq hl'
    have:iter step (n+1) t=some r:=by simp only[iter,hs];exact hn
    rw[rt this]at hl;cases hl
  ·rename_i r hs
   have:iter step 1 t=some r:=by simp only[iter,hs]
   rw[rt this]at hl;cases hl
def NY{τ α ω : Type}(step:ω→τ→α→Option τ)(l:List α):Nat→List Nat→τ→τ→Prop
 | 0,_,t,r=>t=r
 | m+1,seen,t,r=>∀k x,k∉seen→l[k]? = some x→∃t',(∀ob,step ob t x=some t')∧NY step l m (seen++[k]) t' r
noncomputable def rng{τ α ω : Type}(t0:ω→Option τ)(step:ω→τ→α→Option τ)(l:List α):Option τ:=
 @dite _ (∃r t,(∀ob,t0 ob=some t)∧NY step l l.length [] t r) (Classical.propDecidable _) (λh=>some h.choose) (λ_=>none)
theorem EW{τ α ω : Type}{t0:ω→Option τ}{step:ω→τ→α→Option τ}{l:List α}{r:τ}(h:rng t0 step l=some r):∃t,(∀ob,t0 ob=some t)∧NY step l l.length [] t r:=by
 unfold rng at h;split at h
 ·rename_i hx;cases h;exact hx.choose_spec
 ·cases h
structure RgS where
 a:Nat
 b:Nat
 it:Nat
 d1:Nat
 d3:Nat
 ty:TypeId
 rest:List Oper
def wu(n:Nat)(M6 Mj Nu:List Oper)(c2:Nat):Option RgS:=
 match M6,Mj,Nu with
 | [⟨some b,.move (.tmp a),_,_,_,none⟩,⟨some it,.range ty (.tmp b'),_,_,_,none⟩],[⟨some d1,.next (.tmp it') false,_,_,_,none⟩,⟨some c2',.extract (.tmp d1') 0,_,_,_,none⟩],⟨some d3,.entry (.tmp it''),_,_,_,none⟩::rest=>
  if Nat.beq b' b&&Nat.beq it' it&&Nat.beq c2' c2&&Nat.beq d1' d1&&Nat.beq it'' it&&Nat.blt b n&&Nat.blt it n&&Nat.blt d1 n&&Nat.blt c2 n&&Nat.blt d3 n&&!(Nat.beq it b)&&!(Nat.beq it d1)&&!(Nat.beq it c2)&&!(Nat.beq it d3)&&!(Nat.beq c2 d1)then some ⟨a,b,it,d1,d3,ty,rest⟩else none
 | _,_,_=>none
structure RgC where
 M6:Array Oper
 Mj:Array Oper
 Nu:Array Oper
 i:Nat
 i':Nat
 j:Nat
 c2:Nat
 body:Code
def yF:Code→Option RgC
 | .seq (.region _ M6 false) (.block i (.loop (.seq (.region _ Mj false) (.seq (.cond (.tmp c2) .skip (.exit i')) (.block j (.seq (.region _ Nu false) body))))))=>some ⟨M6,Mj,Nu,i,i',j,c2,body⟩
 | _=>none
section
variable{F:Fam}(T:TypeId→Option (TI F))(Γ : Ctx F)(nv n:Nat)
def NU(s:TS F)(it:Nat)(ob:Obj):TS F:=⟨(it,.c (.ptr s.c 0))::s.E,(s.c,.it ob)::s.M,s.c+1,[],[]⟩
def itC(s:TS F)(it:Nat):TS F:=⟨(it,.c .any)::s.E,s.M,s.c+1,it::s.dE,s.dM⟩
def yI(s:TS F)(dr:List Nat)(kill:List Nat)(ks:Ks)(h:RgS)(c2:Nat)(ob:Obj)(t:TLS F ks)(kd:ND F)(d:Dat F):TS F:=
 let m:=merge nv dr kill (NU s h.it ob) ks t
 ⟨(h.d3,.MI [.c (.im kd),d])::(c2,.c (.im (.b true)))::(h.d1,.MI [.c (.im (.b true)),.c (.im kd),d])::m.E,m.M,m.c,[],[]⟩
noncomputable def yD(f:TS F→{R:Type}→(Nat→TS F→Option R)→Option R)(M6 Mj Nu:List Oper)(j c2:Nat)(ks:Ks)(dr:List Nat)(s:TS F){R:Type}(K:Nat→TS F→Option R):Option R:=
 match wu n M6 Mj Nu c2 with
 | none=>none
 | some h=>match look s.E h.a with
  | some (.c (.Og mid))=>match look s.M mid with
   | some (.mp tt l)=>match Rh T h.ty with
    | none=>none
    | some _=>
     if Nat.blt mid s.c&&!(Jw mid (aM s dr))&&!(Jw s.c (aM s dr))&&Nat.blt h.it nv&&!(Jw h.it dr) && [h.b,h.d1,c2,h.d3].all (λx=>Nat.ble nv x||Jw x dr) && [h.b,h.d1,c2].all (λx=>!(Jw x (keysOf ks)))&&tt.KX then
      (rng (λob=>LA Γ (NU s h.it ob) dr (s.c+1) (aM s dr) ks (NU s h.it ob))
       (λob t x=>match Jj F tt x,pO tt x with
        | kd::_,some d=>Td T Γ nv n Nu h.rest (yI nv s dr (aM s dr) ks h c2 ob t kd d) [] λs2 _=>pT nv (wz Nu) s2.E [] λE'=>f ⟨E',s2.M,s2.c,s2.dE,s2.dM⟩ λe s'=>
         if Nat.beq e 0||Nat.beq e (j+2)then LA Γ (NU s h.it ob) dr (s.c+1) (aM s dr) ks s' else none
        | _,_=>none) l).bind λv=>K 0 (merge nv dr (aM s dr) (itC s h.it) ks v)
     else none
   | _=>none
  | _=>none
def KE:Code→TS F→{R:Type}→(Nat→TS F→Option R)→Option R
 | .skip,s,_,K=>K 0 s
 | .exit i,s,_,K=>K (i+2) s
 | .ret,s,_,K=>K 1 s
 | .region _ ops draw,s,_,K=>OU T Γ nv n [] ops.toList draw s (K 0)
 | .seq a b,s,_,K=>KE a s λe s'=>match e with | 0=>KE b s' K | e=>K e s'
 | .cond (.tmp t) a b,s,_,K=>match look s.E t with
  | some (.c (.im (.b x)))=>cond x (KE a s K) (KE b s K)
  | _=>none
 | .cond (.const (.bool x)) a b,s,_,K=>cond x (KE a s K) (KE b s K)
 | .block i a,s,_,K=>KE a s λe s'=>if Nat.beq e (i+2)then K 0 s' else K e s'
 | .scope a,s,_,K=>KE a s K
 | .label _,s,_,K=>K 0 s
 | _,_,_,_=>none
def unr(f:TS F→{R:Type}→(Nat→TS F→Option R)→Option R):Nat→TS F→{R:Type}→(Nat→TS F→Option R)→Option R
 | 0,_,_,_=>none
 | n+1,s,_,K=>f s λe s'=>match e with | 0=>unr f n s' K | e=>K e s'
def uP(id:Nat)(s:TS F):TS F:=match look s.M id with
 | some (.KR t l)=>⟨s.E,NQ s.M [(id,none),(s.c,some (.KR t l)),(id,some (.MJ s.c l.length))],s.c+1,s.dE,id::s.c::s.dM⟩
 | _=>s
def Ug(x gs:Nat)(s:TS F):TS F:=match look s.E x with
 | some (.NM _ [] [_,.c (.ptr id 0)])=>⟨(gs,.gh id)::s.E,s.M,s.c,gs::s.dE,s.dM⟩
 | _=>s
def jB:List Nat→TS F→TS F
 | [],s=>s
 | x::r,s=>jB r (cond (Nat.ble 10000 x) (cond (Nat.ble 1000000 x) (Ug (x / 1000 - 1000) (x % 1000) s) (uP (x - 10000) s)) s)
def LY(nv:Nat)(s:TS F)(id ix:Nat)(dr:List Nat)(B:J8 F)(len:Nat)(n:Int):TS F:=
 ⟨(ix,.c (.im (.i .i64 n)))::s.E.filter (λp=>Nat.blt p.1 nv&&!(Jw p.1 (ix::dr))),(id,.MJ s.c len)::(s.c,B)::s.M.filter (λp=>!(Nat.beq id p.1)),s.c+1,ix::(dr++s.dE),id::s.dM⟩
def R9(c0 id ix:Nat)(dr:List Nat)(t:Ty)(s:TS F):Option (List (ET F t)×Nat×Int):=
 if s.dE.all (λx=>Jw x (ix::dr))&&s.dM.all (λy=>Nat.ble c0 y||Nat.beq y id)then
  match look s.E ix with
  | some (.c (.im (.i .i64 n)))=>match look s.M id with
   | some (.MJ k _)=>match look s.M (OV (look s.M) 8 k)with
    | some (.La t' l j)=>if h:t'=t then(if Nat.ble c0 (OV (look s.M) 8 k)then some (h▸l,j,n)else none)else none
    | _=>none
   | _=>none
  | _=>none
 else none
noncomputable def KP:Hint→Code→TS F→{R:Type}→(Nat→TS F→Option R)→Option R
 | .z,c,s,_,K=>KE T Γ nv n c s K
 | .r kp,.region _ ops draw,s,_,K=>OU T (cond (Jw 9998 kp) (mark Γ) Γ) nv n kp ops.toList draw (jB kp s) (K 0)
 | .s h k,.seq a b,s,_,K=>KP h a s λe s'=>match e with | 0=>KP k b s' K | e=>K e s'
 | .c h k,.cond (.tmp t) a b,s,_,K=>match look s.E t with
  | some (.c (.im (.b x)))=>cond x (KP h a s K) (KP k b s K)
  | _=>none
 | .c h k,.cond (.const (.bool x)) a b,s,_,K=>cond x (KP h a s K) (KP k b s K)
 | .b h,.block i a,s,_,K=>KP h a s λe s'=>if Nat.beq e (i+2)then K 0 s' else K e s'
 | .b h,.scope a,s,_,K=>KP h a s K
 | .u k h,.loop a,s,_,K=>unr (λs _ K=>KP h a s K) k s K
 | .p h k,.loop a,s,_,K=>cond k.isL (KP h a s λe s'=>match e with | 0=>KP k (.loop a) s' K | e=>K e s') none
 | .j dr xs h,c,s,_,K=>
  let Mh:=dr++MZ xs
  let kill:=aM s Mh
  (KP h c (clean s) λe s'=>Pg Γ s Mh s.c kill xs e s').bind λv=>OM (λe ks x=>K e (merge nv Mh kill s ks x)) xs v
 | .l ks dr xs h,.loop a,s,_,K=>
  let Mh:=dr++keysOf ks++MZ xs
  let kill:=aM s Mh
  match LA Γ s Mh s.c kill ks (clean s)with
  | none=>none
  | some t0=>(loop (λt:TLS F ks=>KP h a (clean (merge nv Mh kill s ks t)) λe s'=>match e with
    | 0=>(match LA Γ s Mh s.c kill ks s' with | some t'=>some (Sum.inl t') | none=>none)
    | e=>(match Pg Γ s Mh s.c kill xs e s' with | some v=>some (Sum.inr v) | none=>none)) t0).bind λv=>OM (λe ks x=>K e (merge nv Mh kill s ks x)) xs v
 | .m x ix ex dr h,.loop a,s,_,K=>match look s.E x with
  | some (.c (.KU id))=>match look s.M id with
   | some (.row t l0)=>match look s.E ix with
    | some (.c (.im (.i .i64 n0)))=>if Nat.blt id s.c&&Nat.blt 0 ex then
      (loop (λq:List (ET F t)×Nat×Int=>KP h a (clean (LY nv s id ix dr (.La t q.1 q.2.1) q.1.length q.2.2)) λe s'=>match e with
       | 0=>(match R9 s.c id ix dr t s' with | some q'=>some (Sum.inl q') | none=>none)
       | e=>if Nat.beq e ex then(match R9 s.c id ix dr t s' with | some q'=>some (Sum.inr q') | none=>none)else none) (l0,0,n0)).bind λv=>
        cond (Nat.ble v.1.length v.2.1) (K ex (LY nv s id ix dr (.KR t v.1) v.1.length v.2.2)) none
     else none
    | _=>none
   | _=>none
  | _=>none
 | .g ks dr h,c,s,_,K=>match yF c with
  | none=>none
  | some q=>if Nat.beq q.i' q.i then yD T Γ nv n (λs _ K=>KP h q.body s K) q.M6.toList q.Mj.toList q.Nu.toList q.j q.c2 ks (dr++keysOf ks) s K else none
 | _,_,_,_,_=>none
def params:Nat→List (Dat F)→List (Nat×Dat F)
 | _,[]=>[]
 | k,d::l=>(k,d)::params (k+1) l
def ZP(s:TS F):ResultVar→Option (Dat F)
 | .tmp t=>look s.E t
 | .cell a ty=>match T ty with
  | none=>none
  | some ti=>match look s.E a with
   | some (.c (.ptr id off))=>match look s.M id with
    | some (.box cs)=>dh ti cs off
    | _=>none
   | _=>none
def Sg(s:TS F):List ResultVar→Option (List (Dat F))
 | []=>some []
 | r::l=>match ZP T s r with
  | none=>none
  | some d=>match Sg s l with
   | none=>none
   | some ds=>some (d::ds)
def bZ(mm:Nat→Option (J8 F)):(ks:List Kd)→List (Dat F)→List Nat→Option (Pk (TL F ks))
 | [],[],[]=>some ⟨(),[],[],[]⟩
 | [.box t ow],[],[b]=>jR mm t (oo ow) (.c (.ptr b 0))
 | .box t ow::l::ks,ds,b::bx=>match jR mm t (oo ow) (.c (.ptr b 0))with
  | none=>none
  | some p=>match bZ mm (l::ks) ds bx with
   | none=>none
   | some q=>some ⟨(p.x,q.x),p.os++q.os,p.fz++q.fz,p.bx++q.bx⟩
 | [.row t _],[],[b]=>pP mm t b
 | .row t _::l::ks,ds,b::bx=>match pP mm t b with
  | none=>none
  | some p=>match bZ mm (l::ks) ds bx with
   | none=>none
   | some q=>some ⟨(p.x,q.x),p.os++q.os,p.fz++q.fz,p.bx++q.bx⟩
 | [k],[d],[]=>Nt Γ mm k d
 | k::l::ks,d::ds,bx=>match Nt Γ mm k d with
  | none=>none
  | some p=>match bZ mm (l::ks) ds bx with
   | none=>none
   | some q=>some ⟨(p.x,q.x),p.os++q.os,p.fz++q.fz,p.bx++q.bx⟩
 | _,_,_=>none
def OI(fn:Func)(ks rs:List Kd)(a:HL F ks)(s:TS F):Option (TL F (rs++ks.filter Kd.KT)):=
 match Sg T s fn.results.toList with
 | none=>none
 | some rd=>match bZ Γ (look s.M) (rs++ks.filter Kd.KT) rd (aN ks a 0)with
  | none=>none
  | some p=>if cv (Km p.os)&&NI (Km p.os) p.fz then some p.x else none
noncomputable def TJ(fn:Func)(h:Hint)(ks rs:List Kd)(a:HL F ks):Option (TL F (rs++ks.filter Kd.KT)):=
 match fn.body with
 | none=>none
 | some body=>match Lb ks a 0 with
  | (ds,bs,c)=>if yx ks then KP T Γ nv fn.ntmps h body ⟨params 0 (Ph ks a ds),bs,c,[],[]⟩ λe s=>
   match e with
   | 0 | 1=>OI T Γ fn ks rs a s
   | _=>none
   else none
end
set_option linter.unusedVariables false
set_option linter.unusedSimpArgs false
structure Xv(P:Program)(t:TypeId):Prop where
 a:P.stoodInHeld t=false
 b:P.eqGuardType P.depth t=false
section
variable{F:Fam}
def aay:Value→Bool
 | .agg _=>true
 | _=>false
structure J5(P:Program)(T:TypeId→Option (TI F)):Prop where
 und:∀t i,T t=some i→P.underlying t=some i.desc
 info:∀t i,T t=some i→∃j,P.info? t=some j∧j.size=i.size∧j.bytes=i.bytes∧∃z,j.zero=some z∧z.cells.size=i.size∧i.zero.length=i.size∧
  ∀(w:World)(I7:Nat→Prop)(k:Nat)(d:ND F) (x:Value),i.zero[k]? = some d→z.cells[k]? = some x→Ju w I7 d x
 eq:∀t i,T t=some i→i.eq=true→Xv P t
 ty:∀t i tt,T t=some i→i.ty=some tt→Jm F tt=i.size
 zag:∀t i j z,T t=some i→P.info? t=some j→j.zero=some z→aay z=da i.desc
section inv
variable{P:Program}{g:G}{w:World}{v:Value}
theorem bG{k:IntKind}{n:Int}(h:J4 (F:=F) P g w (.c (.im (.i k n))) v):v = .int k n:=by cases h with | c h=>cases h with | im h=>cases h;rfl
theorem nc{x:Bool}(h:J4 (F:=F) P g w (.c (.im (.b x))) v):v = .bool x:=by cases h with | c h=>cases h with | im h=>cases h;rfl
theorem sL{l:List UInt8}(h:J4 (F:=F) P g w (.c (.im (.s l))) v):v = .string ⟨⟨l⟩⟩:=by cases h with | c h=>cases h with | im h=>cases h;rfl
theorem mu(h:J4 (F:=F) P g w (.c (.im .nl)) v):∃p,v = .slice p 0 0:=by cases h with | c h=>cases h with | im h=>cases h;exact⟨_,rfl⟩
theorem FU{x:Value}(h:J4 (F:=F) P g w (.c (.im (.v x))) v):v=x:=by cases h with | c h=>cases h with | im h=>cases h;rfl
theorem Gd{cs:List (ND F)}(h:J4 (F:=F) P g w (.c (.P5 cs)) v):∃(b o b2 o2:Nat)(f:Nat→Value),g.I7 b∧w.cell? ⟨b,o,none⟩=some (.pointer (some ⟨b2,o2,none⟩))∧g.I7 b2∧v = .pointer (some ⟨b,o,none⟩)∧(∀k d,cs[k]? = some d→w.cell? ⟨b2,o2+k,none⟩=some (f k))∧∀k d,cs[k]? = some d→Ju w g.I7 d (f k):=by
 cases h with | c h=>cases h with | P5 _ b o b2 o2 f hb hv hb2 hc hr=>exact⟨b,o,b2,o2,f,hb,hv,hb2,rfl,hc,hr⟩
theorem wq{id n:Nat}(h:J4 (F:=F) P g w (.c (.O6 id n)) v):∃b c,g.ids id=some (some (b,c))∧n≤maxLen∧v = .slice (some ⟨b,0,none⟩) n n:=by
 cases h with | c h=>cases h with | O6 h hm=>exact⟨_,_,h,hm,rfl⟩
theorem bo{id off:Nat}(h:J4 (F:=F) P g w (.c (.ptr id off)) v):∃b c,g.ids id=some (some (b,c))∧v = .pointer (some ⟨b,off,none⟩):=by
 cases h with | c h=>cases h with | ptr h=>exact⟨_,_,h,rfl⟩
theorem eu{id sz i off:Nat}(h:J4 (F:=F) P g w (.c (.Mg id sz i off)) v):∃b c,g.ids id=some (some (b,c))∧v = .pointer (some ⟨b,i*sz+off,none⟩):=by
 cases h with | c h=>cases h with | Mg h=>exact⟨_,_,h,rfl⟩
theorem Gj{id sz i off:Nat}(h:J4 (F:=F) P g w (.c (.O4 id sz i off)) v):∃(b c:Nat)(n:Nat×NS)(pl:Option (Nat×Nat×Nat)),g.ids id=some (some (b,c,n))∧n.2[i*sz+off]? = some pl∧Ll (KW pl) v:=by
 cases h with | c h=>cases h with | O4 h h1 h2=>exact⟨_,_,_,_,h,h1,h2⟩
theorem AF{id sz i off sz' j off':Nat}(h:J4 (F:=F) P g w (.c (.Px id sz i off sz' j off')) v):∃(b c:Nat)(n:Nat×NS)(b':Nat)(c':Nat×Nat),g.ids id=some (some (b,c,n))∧n.2[i*sz+off]? = some (some (b',c'))∧v = .pointer (some ⟨b',j*sz'+off',none⟩):=by
 cases h with | c h=>cases h with | Px h h1=>exact⟨_,_,_,_,_,h,h1,rfl⟩
theorem qa{cs:List (ND F)}{off:Nat}(h:J4 P g w (.c (.pt cs off)) v):∃(b o:Nat)(f:Nat→Value),g.I7 b∧v = .pointer (some ⟨b,o+off,none⟩)∧
  (∀k d,cs[k]? = some d→w.cell? ⟨b,o+k,none⟩=some (f k))∧(∀k d,cs[k]? = some d→Ju w g.I7 d (f k)):=by
 cases h with | c h=>cases h with | pt _ _ b o f hb hc hr=>exact⟨b,o,f,hb,rfl,hc,hr⟩
theorem kZ{cs:List (Kv F)}(h:J4 P g w (.agg cs) v):∃vs:List Value,v = .agg ⟨vs⟩∧vs.length=cs.length∧∀(k:Nat)(c:Kv F)(x:Value),cs[k]? = some c→vs[k]? = some x→Ka g w c x:=by
 cases h with | agg hl h=>exact⟨_,rfl,hl,h⟩
theorem AS{ds:List (Dat F)}(h:J4 P g w (.MI ds) v):∃vs:List Value,v = .tuple ⟨vs⟩∧vs.length=ds.length∧∀(k:Nat)(d:Dat F)(x:Value),ds[k]? = some d→vs[k]? = some x→J4 P g w d x:=by
 cases h with | MI hl h=>exact⟨_,rfl,hl,h⟩
theorem aV{x:Kv F}(h:J4 P g w (.c x) v):Ka g w x v:=by cases h with | c h=>exact h
theorem sv{d:ND F}(h:J4 P g w (.c (.im d)) v):Ju w g.I7 d v:=by cases h with | c h=>cases h with | im h=>exact h
theorem rJ{t:Ty}{l:List (ET F t)}(h:Ju w g.I7 (.sl t l) v):(l = []∧∃p,v = .slice p 0 0)∨
  ∃(b o cap:Nat)(f:Nat→Value),g.I7 b∧l.length≤cap∧cap≤maxLen∧v = .slice (some ⟨b,o,none⟩) l.length cap∧
   (∀k d,(cells F t l)[k]? = some d→w.cell? ⟨b,o+k,none⟩=some (f k))∧(∀k d,(cells F t l)[k]? = some d→Ju w g.I7 d (f k)):=by
 cases h with
 | sl0 t p=>exact .inl ⟨rfl,p,rfl⟩
 | sl t l b o cap f hb hcap hm hc hr=>exact .inr ⟨b,o,cap,f,hb,hcap,hm,rfl,hc,hr⟩
theorem LU(k:IntKind)(n:Int):J4 (F:=F) P g w (.c (.im (.i k n))) (.int k n):=.c (.im (.i k n))
theorem R6(x:Bool):J4 (F:=F) P g w (.c (.im (.b x))) (.bool x):=.c (.im (.b x))
theorem Ti(l:List UInt8):J4 (F:=F) P g w (.c (.im (.s l))) (.string ⟨⟨l⟩⟩):=.c (.im (.s l))
theorem b7{d:ND F}{x:Value}(h:Ka g w (.im d) x):Ju w g.I7 d x:=by cases h;assumption
end inv
theorem wS(g:G)(w:World)(v:Value):Ka (F:=F) g w (Ul v) v:=by
 unfold Ul;split
 ·exact .im (.i _ _)
 ·exact .im (.b _)
 ·exact .im (.s _)
 ·exact .im (.nl _)
 ·exact .any
 ·exact .any
 ·refine .im (.v _ ?_)
  cases v<;>simp_all [Value.oneCell']
theorem C6(P:Program)(g:G)(w:World)(v:Value):J4 (F:=F) P g w (VX v) v:=by
 unfold VX;split
 ·rename_i cs
  refine .agg (by simp) ?_
  intro k c x h1 h2;rw[MU]at h1;rw[h2]at h1;simp only[S_,K3]at h1;subst h1;exact wS g w x
 ·exact .c (wS g w v)
theorem Hc{P:Program}{g:G}{w:World}{e:Nat→Option (Dat F)}{a:Act}(h:∀x d,e x=some d→J4 P g w d (a.tmps.getD x undef))(x:Operand) :
  J4 P g w (Zq e x) (a.eval x):=by
 cases x with
 | tmp t=>
  simp only[Zq]
  cases ht:e t with
  | none=>exact .c .any
  | some d=>exact h t d ht
 | const v=>exact C6 P g w v
 | global gl=>exact .c (.im (.v _ rfl))
 | func f=>exact .c (.im (.v _ rfl))
theorem D9{P:Program}{g:G}{w:World}{e:Nat→Option (Dat F)}{a:Act}(aoa:∀x d,e x=some d→J4 P g w d (a.tmps.getD x undef))(l:List Operand):Kq P g w (l.map (Zq e)) (l.map a.eval):=by
 refine⟨by simp,?_⟩
 intro k d x h1 h2;rw[MU,RN]at h1 h2;obtain⟨p,hp,rfl⟩:=h1;obtain⟨q,hq,rfl⟩:=h2;rw[hp]at hq;cases hq;exact Hc aoa p
def M8(P:Program)(own:Ow)(m:Nat→Option (J8 F))(u:Nat→Bool)(g:G)(w:World)(o:Oper)(a:Act)(c:Nat)(r:Oy F):Prop:=
 ∀(next:Act→World→Prop)(Q:Exit→Act→World→Prop),
  (∀v w' g',J4 P g' w' r.val v→Jl own g' w' (Ki m r.mw)→Stp m g w g' w'→(∀id,u id=false→(id<c∨c+r.nu≤id)→g'.ids id=none)→next (a.put o.dst v) w')→
  o.wp P a w next Q
def Na(mm m:Nat→Option (J8 F)):Prop:=∀id B,mm id=some B→m id=some B
theorem Lh.trans{x y:Nat}{p q r:Option Pl}(h:Lh x p q)(k:Lh y q r):Lh x p r:=by
 rcases h with⟨b,c,n,n',rfl,rfl,h3,h3'⟩ | ⟨rfl,rfl,h3⟩
 ·rcases k with⟨b',c',m,m',h4,rfl,h6,_⟩ | ⟨h4,_⟩
  ·cases h4;exact .inl ⟨_,_,_,_,rfl,rfl,h6.trans h3,h3'⟩
  ·cases h4
 ·rcases k with⟨b',c',m,m',h4,_⟩ | ⟨_,rfl,_⟩
  ·cases h4
  ·exact .inr ⟨rfl,rfl,h3⟩
section
variable{F:Fam}{own:Ow}{g:G}{w:World}{m mm:Nat→Option (J8 F)}
theorem sr(hm:Jl own g w m)(hle:Na mm m):∀(n id:Nat),OV mm n id=id∨∃k,Lh k (g.ids id) (g.ids (OV mm n id))
 | 0,id=>.inl rfl
 | n+1,id=>by
  simp only[OV];split
  ·rename_i k x hk;have h1:Lh x (g.ids id) (g.ids k):=hm.ok id _ (hle _ _ hk);rcases sr hm hle n k with h | ⟨_,h⟩
   ·rw[h];exact .inr ⟨_,h1⟩
   ·exact .inr ⟨_,h1.trans h⟩
  ·exact .inl rfl
theorem rM(hm:Jl own g w m)(hle:Na mm m)(id:Nat):Rt mm id=id∨∃k,Lh k (g.ids id) (g.ids (Rt mm id)):=by
 unfold Rt;split
 ·rename_i k x hk;have h1:Lh x (g.ids id) (g.ids k):=hm.ok id _ (hle _ _ hk);rcases sr hm hle 8 k with h | ⟨_,h⟩
  ·rw[h];exact .inr ⟨_,h1⟩
  ·exact .inr ⟨_,h1.trans h⟩
 ·exact .inl rfl
theorem uc(hm:Jl own g w m)(hle:Na mm m){x:Kv F}{v:Value}(h:Ka g w x v):Ka g w (Te mm x) v:=by
 cases x with
 | KU id=>
  simp only[Te];rcases rM hm hle id with e | ⟨_,hs⟩
  ·rw[e];exact h
  ·rcases hs with⟨b,c,n,n',h1,h2,h3,_⟩ | ⟨h1,h2,_⟩
   ·cases h with
    | MR p hi=>rw[h1]at hi;cases hi
    | KU hi hl hm=>rw[h1]at hi;cases hi;rw[← h3]at hl ⊢;exact .KU h2 hl hm
   ·cases h with
    | MR p hi=>exact .MR p h2
    | KU hi hl hm=>rw[h1]at hi;cases hi
 | Mg id sz i off=>
  simp only[Te];rcases rM hm hle id with e | ⟨_,hs⟩
  ·rw[e];exact h
  ·rcases hs with⟨b,c,n,n',h1,h2,h3,_⟩ | ⟨h1,h2,_⟩
   ·cases h with | Mg hi=>rw[h1]at hi;cases hi;exact .Mg h2
   ·cases h with | Mg hi=>rw[h1]at hi;cases hi
 | Ny id sz off len=>
  simp only[Te];rcases rM hm hle id with e | ⟨_,hs⟩
  ·rw[e];exact h
  ·rcases hs with⟨b,c,n,n',h1,h2,h3,_⟩ | ⟨h1,h2,_⟩
   ·cases h with
    | OW p hi=>rw[h1]at hi;cases hi
    | Ny hi hl hn ho hm=>rw[h1]at hi;cases hi;exact .Ny h2 (by rw[h3];exact hl) (by rw[h3];exact hn) ho hm
   ·cases h with
    | OW p hi=>exact .OW p h2
    | Ny hi hl hn ho hm=>rw[h1]at hi;cases hi
 | _=>exact h
theorem FJ{P:Program}(hm:Jl own g w m)(hle:Na mm m){d:Dat F}{v:Value}(h:J4 P g w d v):J4 P g w (Xf mm d) v:=by
 cases h with
 | c h=>exact .c (uc hm hle h)
 | agg h1 h2=>exact .agg h1 h2
 | MI h1 h2=>exact .MI h1 h2
 | NM h1 h2 h3 h4=>exact .NM h1 h2 h3 h4
 | fv h=>exact .fv h
 | gh h=>exact .gh h
theorem CC{P:Program}(hm:Jl own g w m)(hle:Na mm m){ds:List (Dat F)}{vs:List Value}(h:Kq P g w ds vs):Kq P g w (ds.map (Xf mm)) vs:=by
 refine⟨by rw[OD];exact h.1,λk d x a b=>?_⟩
 rw[MU]at a;obtain⟨c0,h0,rfl⟩:=RN.1 a;exact FJ hm hle (h.2 k c0 x h0 b)
end
def Does(P:Program)(o:Oper)(vals:List (Dat F))(mm:Nat→Option (J8 F))(c:Nat)(res:Oy F):Prop:=
 ∀(own:Ow)(g:G)(w:World)(a:Act) (m:Nat→Option (J8 F)) (u:Nat→Bool),Na mm m→Jl own g w m→(∀id,u id=false→g.ids id=none)→
  (∀b,w.heap.size≤b→own.o b)→(∀k,k<res.nu→u (c+k)=false)→Kq P g w vals (o.op.operands.toList.map a.eval)→M8 P own m u g w o a c res
def Rl(P:Program)(o:Oper)(vals:List (Dat F))(mm:Nat→Option (J8 F))(d:Dat F):Prop:=
 ∀(own:Ow)(g:G)(w:World)(a:Act) (m:Nat→Option (J8 F)),Na mm m→Jl own g w m→Kq P g w vals (o.op.operands.toList.map a.eval)→
  ∃v,(execOp a.eval o).run P w = .ok (.value v) w∧J4 P g w d v
theorem Rl.does{P:Program}{o:Oper}{vals:List (Dat F)}{mm:Nat→Option (J8 F)}{d:Dat F}(h:Rl P o vals mm d)(c:Nat):Does P o vals mm c { val:=d }:=by intro own g w a m u hle hm hd _ _ hr;obtain⟨v,hrun,hv⟩:=h own g w a m hle hm hr;intro next Q hn;unfold Oper.wp;rw[hrun];exact hn v w g hv hm (.refl _ _ _) (λid hu _=>hd id hu)
def Rule(P:Program)(o:Oper)(vals:List (Dat F))(mm:Nat→Option (J8 F))(c:Nat){R:Type}(K:Oy F→Option R)(x:Option R):Prop:=
 ∀r,x=some r→∃res,K res=some r∧Does P o vals mm c res
section ops
variable{P:Program}{T:TypeId→Option (TI F)}{o:Oper}{vals:List (Dat F)}{mm:Nat→Option (J8 F)}{c:Nat}{R:Type}{K:Oy F→Option R}
theorem ah:Rule P o vals mm c K none:=λ_ h=>by cases h
theorem ao{d:Dat F}(h:Rl P o vals mm d):Rule P o vals mm c K (K { val:=d }):=λ_ hr=>⟨_,hr,h.does c⟩
theorem aC{α : Type}{x:Option α}{f:α→Option R}(h:∀a,x=some a→Rule P o vals mm c K (f a)):Rule P o vals mm c K (x.bind f):=by intro r hr;rw[UW]at hr;obtain⟨a,ha,hr⟩:=hr;exact h a ha r hr
theorem au{p:Prop}[Decidable p]{x y:Option R}(h1:p→Rule P o vals mm c K x)(h2:¬ p→Rule P o vals mm c K y):Rule P o vals mm c K (if p then x else y):=by
 split
 ·exact h1 (by assumption)
 ·exact h2 (by assumption)
theorem KY{g:G}{w:World}{d:Dat F}{v:Value}(h:Kq P g w [d] [v]):J4 P g w d v:=h.2 0 d v rfl rfl
theorem KM{g:G}{w:World}{d e:Dat F}{v x:Value}(h:Kq P g w [d,e] [v,x]):J4 P g w d v∧J4 P g w e x:=⟨h.2 0 d v rfl rfl,h.2 1 e x rfl rfl⟩
theorem aP{g:G}{w:World}{d:Dat F}{ds:List (Dat F)}{v:Value}{vs:List Value}:Kq P g w (d::ds) (v::vs)↔J4 P g w d v∧Kq P g w ds vs:=by
 constructor
 ·intro h
  refine⟨h.2 0 d v rfl rfl,by simpa using h.1,λk e x h1 h2=>h.2 (k+1) e x (by simpa using h1) (by simpa using h2)⟩
 ·rintro⟨h1,h2,h3⟩
  refine⟨by simp[h2],λk e x a b=>?_⟩
  cases k with
  | zero=>simp at a b;subst a;subst b;exact h1
  | succ k=>exact h3 k e x (by simpa using a) (by simpa using b)
theorem wK{x:Operand}{d:Dat F}(ho:o.op = .move x∨o.op = .assign x)(hv:vals = [d]):Rule P o vals mm c K (K { val:=d }):=by
 subst hv;refine ao ?_;intro own g w a m _ _ hr
 refine⟨a.eval x,by rcases ho with ho | ho<;>simp[execOp,ho],?_⟩
 rcases ho with ho | ho<;>(rw[ho]at hr;exact KY hr)
theorem Cd{x y z:Operand}(ho:o.op = .pick x y z):Rule P o vals mm c K (Vw vals K):=by
 unfold Vw;split
 ·rename_i b d e
  have key:∀b':Bool,b=b'→Rl P o [.c (.im (.b b)),d,e] mm (if b' then d else e):=by
   rintro b' rfl own g w a m _ _ hr;rw[ho]at hr;simp only[Op.operands,K7,LG,aP]at hr
   refine⟨if b then a.eval y else a.eval z,by simp[execOp,ho,nc hr.1,asBool],?_⟩
   cases b
   ·exact hr.2.2.1
   ·exact hr.2.1
  cases b
  ·exact ao (key false rfl)
  ·exact ao (key true rfl)
 ·exact ah
theorem F_{op:UnOp}{t:TypeId}{x:Operand}(ho:o.op = .unOp op t x):Rule P o vals mm c K (tUn vals K op):=by
 unfold tUn;split
 ·refine ao ?_;intro own g w a m _ _ hr;rw[ho]at hr;have hx:=bG (KY hr)
  exact⟨_,by simp[execOp,ho,hx,Op.unary,Op.intArith],LU _ _⟩
 ·refine ao ?_;intro own g w a m _ _ hr;rw[ho]at hr;have hx:=nc (KY hr)
  exact⟨_,by simp[execOp,ho,hx,Op.unary],R6 _⟩
 ·exact ah
theorem FT{x:Int}{u:Unit}(h:nz x=some u):x≠0:=by
 unfold nz at h;split at h
 ·assumption
 ·cases h
theorem FS{x:Int}{u:Unit}(h:nn x=some u):0≤x:=by
 unfold nn at h;split at h
 ·assumption
 ·cases h
theorem zZ{op:BinOp}{xT yT:TypeId}{x y:Operand}{k:IntKind}{n m:Int}(ho:o.op = .binOp op xT x y yT)(hv:vals = [.c (.im (.i k n)),.c (.im (.i k m))]):Rule P o vals mm c K (ww K op k n m y):=by
 subst hv
 have key:∀(d:ND F)(v:Value),(∀w:World,(binOp op xT (.int k n) (.int k m)).run P w = .ok v w)→(∀(w:World)(g:G),J4 (F:=F) P g w (.c (.im d)) v)→Rule P o [.c (.im (.i k n)),.c (.im (.i k m))] mm c K (K { val:=.c (.im d) }):=by
  intro d v hrun hrep;refine ao ?_;intro own g w a m' _ _ hr;rw[ho]at hr;simp only[Op.operands,K7,LG]at hr;obtain⟨h1,h2⟩:=KM hr
  exact⟨v,by simp only[execOp,ho,bG h1,bG h2,LM,eqGuard_at_int,MO,L8,hrun w],hrep w g⟩
 have lit:Sv y=true→∀(a:Act)(w:World)(g:G),Kq (F:=F) P g w [.c (.im (.i k n)),.c (.im (.i k m))] (o.op.operands.toList.map a.eval)→m≠0:=by
  intro hl a w g hr;rw[ho]at hr;simp only[Op.operands,K7,LG]at hr;have h2:=bG (KM hr).2;unfold Sv at hl;split at hl
  ·simp only[Act.eval,Value.int.injEq]at h2;simp at hl;rw[← h2.2];exact hl
  ·cases hl
 have ab3:∀(d:ND F)(v:Value),Sv y=true→(m≠0→∀w:World,(binOp op xT (.int k n) (.int k m)).run P w = .ok v w)→(∀(w:World)(g:G),J4 (F:=F) P g w (.c (.im d)) v)→Rule P o [.c (.im (.i k n)),.c (.im (.i k m))] mm c K (K { val:=.c (.im d) }):=by
  intro d v hl hrun hrep;refine ao ?_;intro own g w a m' _ _ hr;have hm:=lit hl a w g hr;rw[ho]at hr;simp only[Op.operands,K7,LG]at hr;obtain⟨h1,h2⟩:=KM hr
  exact⟨v,by simp only[execOp,ho,bG h1,bG h2,LM,eqGuard_at_int,MO,L8,hrun hm w],hrep w g⟩
 cases op<;>simp only[ww]
 case quo=>
  refine au (λhl=>?_) (λ_=>aC λu hu=>?_)
  ·exact ab3 _ _ hl (λhm w=>by simp[binOp,Op.intDiv,hm]) (λ_ _=>LU _ _)
  ·exact key _ _ (λw=>by simp[binOp,Op.intDiv,FT hu]) (λ_ _=>LU _ _)
 case rem=>
  refine au (λhl=>?_) (λ_=>aC λu hu=>?_)
  ·exact ab3 _ _ hl (λhm w=>by simp[binOp,Op.intDiv,hm]) (λ_ _=>LU _ _)
  ·exact key _ _ (λw=>by simp[binOp,Op.intDiv,FT hu]) (λ_ _=>LU _ _)
 case add | sub | mul=>exact key _ _ (λw=>by simp[binOp,Op.intArith]) (λ_ _=>LU _ _)
 case and | or | xor=>exact key _ _ (λw=>by simp only[binOp,ne_eq,not_true_eq_false,if_false];rfl) (λ_ _=>LU _ _)
 all_goals first | exact ah | exact key _ _ (λw=>by simp[binOp,Op.intCmp]) (λ_ _=>R6 _)
end ops
end
set_option linter.unusedVariables false
set_option linter.unusedSimpArgs false
section
variable{F:Fam}{P:Program}{T:TypeId→Option (TI F)}{o:Oper}{vals:List (Dat F)}{mm:Nat→Option (J8 F)}{c:Nat}{R:Type}{K:Oy F→Option R}{own:Ow}{g:G}{w:World}{m:Nat→Option (J8 F)}
theorem Il{l m r:List UInt8}(h:cat l m=some r):(l.length:Int)+m.length≤9223372036854775807∧l++m=r:=by
 unfold cat at h;split at h
 ·rename_i hc;cases h;exact⟨by have:=P9 hc;omega,rfl⟩
 ·cases h
theorem zR{op:BinOp}{xT yT:TypeId}{x y:Operand}{l m:List UInt8}(ho:o.op = .binOp op xT x y yT)(hv:vals = [.c (.im (.s l)),.c (.im (.s m))]):Rule P o vals mm c K (vY K op l m):=by
 subst hv
 have key:∀(d:ND F)(v:Value),(∀w:World,(binOp op xT (.string ⟨⟨l⟩⟩) (.string ⟨⟨m⟩⟩)).run P w = .ok v w)→(∀(w:World)(g:G),J4 (F:=F) P g w (.c (.im d)) v)→Rule P o [.c (.im (.s l)),.c (.im (.s m))] mm c K (K { val:=.c (.im d) }):=by
  intro d v hrun hrep;refine ao ?_;intro own g w a m' _ _ hr;rw[ho]at hr;simp only[Op.operands,K7,LG]at hr;obtain⟨h1,h2⟩:=KM hr
  exact⟨v,by simp only[execOp,ho,sL h1,sL h2,LM,eqGuard_at_string,MO,L8,hrun w],hrep w g⟩
 cases op<;>simp only[vY]
 case add=>
  refine aC λr hr=>?_;obtain⟨hm,rfl⟩:=Il hr
  have e:(⟨⟨l⟩⟩:ByteArray)++⟨⟨m⟩⟩=⟨⟨l++m⟩⟩:=by apply ByteArray.ext;simp
  refine key _ _ (λw=>?_) (λ_ _=>Ti _);have hs:∀l:List UInt8,(⟨⟨l⟩⟩:ByteArray).size=l.length:=λ_=>rfl;simp only[binOp,Op.stringOp,hs,e]
  rw[if_neg (by rw[IntKind.max_i64];omega)]
  rfl
 all_goals first | exact ah | exact key _ _ (λw=>by simp[binOp,Op.stringOp,OH]) (λ_ _=>R6 _)
theorem tO{d:Option TypeDesc}{a b:Kv F}{p:Bool}(h:Po d a b=some p) :
  (∃k0 k n m,d=some (.int k0)∧a = .im (.i k n)∧b = .im (.i k m)∧p=(n == m))∨(∃x y,d=some .bool∧a = .im (.b x)∧b = .im (.b y)∧p=(x == y))∨
  (∃l m,d=some .string∧a = .im (.s l)∧b = .im (.s m)∧p=(l == m)):=by
 unfold Po at h;split at h
 ·split at h
  ·rename_i hk;subst hk;cases h;exact .inl ⟨_,_,_,_,rfl,rfl,rfl,rfl⟩
  ·cases h
 ·cases h;exact .inr (.inl ⟨_,_,rfl,rfl,rfl,rfl⟩)
 ·cases h;exact .inr (.inr ⟨_,_,rfl,rfl,rfl,rfl⟩)
 ·cases h
theorem iz(hT:J5 P T){t:TypeId}{d:TypeDesc}(h:eD T t=some d):P.underlying t=some d:=by
 unfold eD at h;split at h
 ·rename_i ti ht;cases h;exact hT.und _ _ ht
 ·cases h
theorem z6{f:Field}{fs:List Field}{off:Nat}{cs ds:List (Kv F)}{x:Bool}(h:jk T (f::fs) off cs ds=some x) :
  ∃ a b l r p q,cs = a :: l ∧ ds = b :: r ∧ f.name ≠ "_" ∧ f.offset = off ∧ Po (eD T f.type) a b = some p ∧ jk T fs (off + 1) l r = some q ∧ x = (p && q):=by
 unfold jk at h;split at h
 ·exact absurd (by assumption:f::fs = []) (by simp)
 ·rename_i heq;cases heq;split at h
  ·rename_i hc;simp only[KV,bne_iff_ne,beq_iff_eq]at hc
   exact⟨_,_,[],[],x,true,rfl,rfl,hc.1,hc.2,h,by simp[jk],by simp⟩
  ·cases h
 ·rename_i heq;cases heq;split at h
  ·rename_i hc;simp only[KV,bne_iff_ne,beq_iff_eq]at hc;split at h
   ·cases h
   ·rename_i p hp;split at h
    ·cases h
    ·rename_i q hq;cases h;exact⟨_,_,_,_,p,q,rfl,rfl,hc.1,hc.2,hp,hq,rfl⟩
  ·cases h
 ·cases h
theorem sk(hT:J5 P T){cs ds:List (Kv F)}{xs ys:List Value}(hx:∀(k:Nat)(c:Kv F)(x:Value),cs[k]? = some c→xs[k]? = some x→Ka g w c x)
  (hy:∀(k:Nat)(c:Kv F)(x:Value),ds[k]? = some c→ys[k]? = some x→Ka g w c x) (hlx:xs.length=cs.length) (hly:ys.length=ds.length) (dp:Nat) :
  ∀(fs:List Field)(off:Nat)(cs' ds':List (Kv F)) (b:Bool),(∀k,cs'[k]? = cs[off+k]?)→(∀k,ds'[k]? = ds[off+k]?)→
   jk T fs off cs' ds'=some b→(Op.eqFields (dp+1) ⟨xs⟩ ⟨ys⟩ fs).run P w = .ok b w:=by
 intro fs
 induction fs with
 | nil=>
  intro off cs' ds' b h1 h2 he;unfold jk at he;split at he
  ·cases he;simp[Op.eqFields]
  ·rename_i heq;cases heq
  ·rename_i heq;cases heq
  ·cases he
 | cons f fs ih=>
  intro off cs' ds' b h1 h2 he;obtain⟨c0,d0,cr,dr,p,q,rfl,rfl,hn,rfl,hp,hq,rfl⟩:=z6 he;have ec:=h1 0;have ed:=h2 0;simp only[M9,R4]at ec ed
  have lx:f.offset<xs.length:=by rw[hlx];exact(I0.1 ec.symm).1
  have ly:f.offset<ys.length:=by rw[hly];exact(I0.1 ed.symm).1
  have vx:=hx _ _ _ ec.symm (IZ lx);have vy:=hy _ _ _ ed.symm (IZ ly)
  have hq':=ih (f.offset+1) cr dr q (λj=>by have:=h1 (j+1);simpa[PD,XG 1 j]using this) (λj=>by have:=h2 (j+1);simpa[PD,XG 1 j]using this) hq
  have key:∀(u v:Value),xs[f.offset]=u→ys[f.offset]=v→(isAgg f.type).run P w = .ok false w→(Op.equalIn (dp+1) f.type u v).run P w = .ok p w→(Op.eqFields (dp+1) ⟨xs⟩ ⟨ys⟩ (f::fs)).run P w = .ok (p&&q) w:=by
   intro u v hu hv hag heq
   have px:(part f.type ⟨xs⟩ f.offset).run P w = .ok u w:=by simp[part,hag,lx,hu]
   have py:(part f.type ⟨ys⟩ f.offset).run P w = .ok v w:=by simp[part,hag,ly,hv]
   simp only[Op.eqFields,ne_eq,hn,not_false_eq_true,if_true,LM,px,py,L8,heq];cases p
   ·simp
   ·simpa using hq'
  rcases tO hp with⟨k0,k,n,m',hd,rfl,rfl,rfl⟩ | ⟨x,y,hd,rfl,rfl,rfl⟩ | ⟨l,m',hd,rfl,rfl,rfl⟩
  ·have hk:=iz hT hd
   exact key (.int k n) (.int k m') (by have:=b7 vx;generalize xs[f.offset]=z at this ⊢;cases this;rfl) (by have:=b7 vy;generalize ys[f.offset]=z at this ⊢;cases this;rfl) (by simp[isAgg,run_underlying hk]) (run_equalIn_int w dp f.type k k0 n m' hk)
  ·have hk:=iz hT hd
   exact key (.bool x) (.bool y) (by have:=b7 vx;generalize xs[f.offset]=z at this ⊢;cases this;rfl) (by have:=b7 vy;generalize ys[f.offset]=z at this ⊢;cases this;rfl) (by simp[isAgg,run_underlying hk]) (run_equalIn_bool' w dp f.type x y hk)
  ·have hk:=iz hT hd
   exact key (.string ⟨⟨l⟩⟩) (.string ⟨⟨m'⟩⟩) (by have:=b7 vx;generalize xs[f.offset]=z at this ⊢;cases this;rfl) (by have:=b7 vy;generalize ys[f.offset]=z at this ⊢;cases this;rfl) (by simp[isAgg,run_underlying hk]) (by rw[run_equalIn_string w dp f.type _ _ hk];simp)
theorem zU{f:Field}{cs ds:List (Kv F)}{x:Bool}{n:Nat}(h:SA T f cs ds=some (x,n)) :
  (∃ti gs,T f.type=some ti∧ti.desc = .struct gs∧ti.size=n∧ti.eq=true∧n≤cs.length∧n≤ds.length∧jk T gs.toList 0 (cs.take n) (ds.take n)=some x)∨
  (∃a l b r,cs=a::l∧ds=b::r∧n=1∧Po (eD T f.type) a b=some x):=by
 unfold SA at h;split at h
 ·rename_i gs n' _ _ _ ht;split at h
  ·rename_i hc;simp only[KV,WG]at hc;split at h
   ·rename_i y hy;cases h;exact .inl ⟨_,gs,ht,rfl,rfl,rfl,hc.1,hc.2,hy⟩
   ·cases h
  ·cases h
 ·rename_i ti _ ht;split at h
  ·split at h
   ·rename_i y hy;cases h;refine .inr ⟨_,_,_,_,rfl,rfl,rfl,?_⟩;unfold eD;rw[ht];exact hy
   ·cases h
  ·cases h
 ·cases h
theorem xI{f:Field}{fs:List Field}{off:Nat}{cs ds:List (Kv F)}{x:Bool}(h:lk T (f::fs) off cs ds=some x) :
  ∃ p n q,f.name ≠ "_" ∧ f.offset = off ∧ SA T f cs ds = some (p,n) ∧ lk T fs (off + n) (cs.drop n) (ds.drop n) = some q ∧ x = (p && q):=by
 unfold lk at h;split at h
 ·exact absurd (by assumption:f::fs = []) (by simp)
 ·rename_i heq;cases heq;split at h
  ·rename_i hc;simp only[KV,bne_iff_ne,beq_iff_eq]at hc;split at h
   ·rename_i p n hp;split at h
    ·rename_i hl;cases h
     refine⟨x,n,true,hc.1,hc.2,hp,?_,by simp⟩
     rw[← hl.1,QeE,hl.1,← hl.2,QeE];rfl
    ·cases h
   ·cases h
  ·cases h
 ·rename_i heq;cases heq;split at h
  ·rename_i hc;simp only[KV,bne_iff_ne,beq_iff_eq]at hc;split at h
   ·rename_i p n hp;split at h
    ·rename_i q hq;cases h;exact⟨p,n,q,hc.1,hc.2,hp,hq,rfl⟩
    ·cases h
   ·cases h
  ·cases h
 ·cases h
theorem xD(hT:J5 P T){cs ds:List (Kv F)}{xs ys:List Value}(hx:∀(k:Nat)(c:Kv F)(x:Value),cs[k]? = some c→xs[k]? = some x→Ka g w c x)
  (hy:∀(k:Nat)(c:Kv F)(x:Value),ds[k]? = some c→ys[k]? = some x→Ka g w c x) (hlx:xs.length=cs.length) (hly:ys.length=ds.length) (dp:Nat) :
  ∀(fs:List Field)(off:Nat)(cs' ds':List (Kv F)) (b:Bool),(∀k,cs'[k]? = cs[off+k]?)→(∀k,ds'[k]? = ds[off+k]?)→
   lk T fs off cs' ds'=some b→(Op.eqFields (dp+2) ⟨xs⟩ ⟨ys⟩ fs).run P w = .ok b w:=by
 intro fs
 induction fs with
 | nil=>
  intro off cs' ds' b h1 h2 he;unfold lk at he;split at he
  ·cases he;simp[Op.eqFields]
  ·rename_i heq;cases heq
  ·rename_i heq;cases heq
  ·cases he
 | cons f fs ih=>
  intro off cs' ds' b h1 h2 he;obtain⟨p,n,q,hn,rfl,hp,hq,rfl⟩:=xI he
  have hq':=ih (f.offset+n) _ _ q (λj=>by rw[OC,h1,PD]) (λj=>by rw[OC,h2,PD]) hq
  have key:∀(u v:Value),(part f.type ⟨xs⟩ f.offset).run P w = .ok u w→(part f.type ⟨ys⟩ f.offset).run P w = .ok v w→(Op.equalIn (dp+2) f.type u v).run P w = .ok p w→(Op.eqFields (dp+2) ⟨xs⟩ ⟨ys⟩ (f::fs)).run P w = .ok (p&&q) w:=by
   intro u v px py heq;simp only[Op.eqFields,ne_eq,hn,not_false_eq_true,if_true,LM,px,py,L8,heq];cases p
   ·simp
   ·simpa using hq'
  rcases zU hp with⟨ti,gs,ht,hd,rfl,he,lc,ld,hc⟩ | ⟨c0,cr,d0,dr,rfl,rfl,rfl,hp'⟩
  ·have hu:=hT.und _ _ ht;rw[hd]at hu;obtain⟨j,hj,hsz,_⟩:=hT.info _ _ ht
   have hag:(isAgg f.type).run P w = .ok true w:=by simp[isAgg,run_underlying hu]
   have hso:(Go.sizeOf f.type).run P w = .ok ti.size w:=by rw[← hsz];simp[Go.sizeOf,typeInfo,hj]
   have sub:∀{zs:List Value}{es es':List (Kv F)},(∀k,es'[k]? = es[f.offset+k]?)→zs.length=es.length→ti.size≤es'.length→(∀(k:Nat)(c:Kv F)(x:Value),es[k]? = some c→zs[k]? = some x→Ka g w c x)→
     ((zs.take (f.offset+ti.size)).drop f.offset).length=(es'.take ti.size).length∧(∀(k:Nat)(c:Kv F)(x:Value),(es'.take ti.size)[k]? = some c→((zs.take (f.offset+ti.size)).drop f.offset)[k]? = some x→Ka g w c x):=by
    intro zs es es' h hl hle hr
    have hlt:f.offset+ti.size≤es.length∨ti.size=0:=by
     rcases Nat.eq_zero_or_pos ti.size with h0 | h0
     ·exact .inr h0
     ·have:=h (ti.size - 1)
      rw[IZ (by omega)]at this
      have:=(I0.1 this.symm).1
      exact .inl (by omega)
    refine⟨by rw[Nh,Lj,Lj,hl];omega,?_⟩
    intro k c x hc hx;rw[MV]at hc;split at hc
    ·rw[OC,MV]at hx;split at hx
     ·exact hr _ _ _ (by rw[← h];exact hc) hx
     ·cases hx
    ·cases hc
   obtain⟨lx,rx⟩:=sub h1 hlx lc hx;obtain⟨ly,ry⟩:=sub h2 hly ld hy
   refine key (.agg ⟨(xs.take (f.offset+ti.size)).drop f.offset⟩) (.agg ⟨(ys.take (f.offset+ti.size)).drop f.offset⟩) (by simp[part,hag,hso,List.take_drop]) (by simp[part,hag,hso,List.take_drop]) ?_
   have hfs:P.fieldsOf f.type=gs:=by simp only[Program.fieldsOf];rw[hu]
   rw[run_equalIn_struct w (dp+1) f.type _ _ (by rw[hfs];exact hu) (hT.eq _ _ ht he).a,hfs]
   exact sk hT rx ry lx ly dp gs.toList 0 _ _ p (by simp) (by simp) hc
  ·have ec:=h1 0;have ed:=h2 0;simp only[M9,R4]at ec ed
   have lx:f.offset<xs.length:=by rw[hlx];exact(I0.1 ec.symm).1
   have ly:f.offset<ys.length:=by rw[hly];exact(I0.1 ed.symm).1
   have vx:=hx _ _ _ ec.symm (IZ lx);have vy:=hy _ _ _ ed.symm (IZ ly)
   have key':∀(u v:Value),xs[f.offset]=u→ys[f.offset]=v→(isAgg f.type).run P w = .ok false w→(Op.equalIn (dp+2) f.type u v).run P w = .ok p w→(Op.eqFields (dp+2) ⟨xs⟩ ⟨ys⟩ (f::fs)).run P w = .ok (p&&q) w:=by
    intro u v hu hv hag heq
    exact key u v (by simp[part,hag,lx,hu]) (by simp[part,hag,ly,hv]) heq
   clear hp;rcases tO hp' with⟨k0,k,n,m',hd,rfl,rfl,rfl⟩ | ⟨x,y,hd,rfl,rfl,rfl⟩ | ⟨l,m',hd,rfl,rfl,rfl⟩
   ·have hk:=iz hT hd
    exact key' (.int k n) (.int k m') (by have:=b7 vx;generalize xs[f.offset]=z at this ⊢;cases this;rfl) (by have:=b7 vy;generalize ys[f.offset]=z at this ⊢;cases this;rfl) (by simp[isAgg,run_underlying hk]) (run_equalIn_int w (dp+1) f.type k k0 n m' hk)
   ·have hk:=iz hT hd
    exact key' (.bool x) (.bool y) (by have:=b7 vx;generalize xs[f.offset]=z at this ⊢;cases this;rfl) (by have:=b7 vy;generalize ys[f.offset]=z at this ⊢;cases this;rfl) (by simp[isAgg,run_underlying hk]) (run_equalIn_bool' w (dp+1) f.type x y hk)
   ·have hk:=iz hT hd
    exact key' (.string ⟨⟨l⟩⟩) (.string ⟨⟨m'⟩⟩) (by have:=b7 vx;generalize xs[f.offset]=z at this ⊢;cases this;rfl) (by have:=b7 vy;generalize ys[f.offset]=z at this ⊢;cases this;rfl) (by simp[isAgg,run_underlying hk]) (by rw[run_equalIn_string w (dp+1) f.type _ _ hk];simp)
theorem sn(hT:J5 P T){cs ds:List (Kv F)}{xs ys:List Value}{t:TypeId}{fs:Array Field}{i:TI F}(ht:T t=some i)(hi:i.desc = .struct fs)(he:Xv P t){b:Bool}(hb:Uk T fs.toList cs ds=some b)
  (hx:xs.length=cs.length∧∀(k:Nat)(c:Kv F)(x:Value),cs[k]? = some c→xs[k]? = some x→Ka g w c x)
  (hy:ys.length=ds.length∧∀(k:Nat)(c:Kv F)(x:Value),ds[k]? = some c→ys[k]? = some x→Ka g w c x) :
  (Op.equalIn 10000 t (.agg ⟨xs⟩) (.agg ⟨ys⟩)).run P w = .ok b w:=by
 have hu:=hT.und _ _ ht;rw[hi]at hu
 have hfs:P.fieldsOf t=fs:=by simp only[Program.fieldsOf];rw[hu]
 rw[run_equalIn_struct w 9999 t ⟨xs⟩ ⟨ys⟩ (by rw[hfs];exact hu) he.a,hfs]
 unfold Uk at hb;split at hb
 ·rename_i b' hb';cases hb
  exact sk hT hx.2 hy.2 hx.1 hy.1 9998 fs.toList 0 cs ds b (by simp) (by simp) hb'
 ·exact xD hT hx.2 hy.2 hx.1 hy.1 9997 fs.toList 0 cs ds b (by simp) (by simp) hb
theorem yb(d:Nat){t e:TypeId}(a:Addr)(l c:Nat)(w:World)(h:P.underlying t=some (.slice e)):(Op.equalIn (d+1) t (.slice (some a) l c) (.slice none 0 0)).run P w = .ok false w:=by simp[Op.equalIn,run_underlying h]
theorem Eh(hT:J5 P T){op:BinOp}{xT yT:TypeId}{x y:Operand}(ho:o.op = .binOp op xT x y yT):Rule P o vals mm c K (ZM T vals K op xT y):=by
 unfold ZM;split
 ·rename_i k n k' m'
  have sh:∀(d:ND F)(v:Value),(0≤m'→∀w:World,(do eqGuard op xT x y (.int k n) (.int k' m');binOp op xT (.int k n) (.int k' m'):Sem Value).run P w = .ok v w)→(∀(w:World)(g:G),J4 (F:=F) P g w (.c (.im d)) v)→
    (0≤m'∨Ub y=true)→Rule P o [.c (.im (.i k n)),.c (.im (.i k' m'))] mm c K (K { val:=.c (.im d) }):=by
   intro d v hrun hrep hm;refine ao ?_;intro own g w a m _ _ hr;rw[ho]at hr;simp only[Op.operands,K7,LG]at hr;obtain⟨h1,h2⟩:=KM hr;have e2:=bG h2
   have hm':0≤m':=by
    rcases hm with hm | hm
    ·exact hm
    ·unfold Ub at hm;split at hm
     ·simp only[Act.eval,Value.int.injEq]at e2;rw[← e2.2];simpa using hm
     ·cases hm
   refine⟨v,?_,hrep w g⟩;have:=hrun hm' w;simp only[execOp,ho,bG h1,e2];rw[LM,this];rfl
  split
  ·refine au (λhl=>sh _ _ (λhm w=>?_) (λ_ _=>LU _ _) (.inr hl)) (λ_=>aC λu hu=>sh _ _ (λhm w=>?_) (λ_ _=>LU _ _) (.inl (FS hu)))
   all_goals (have hm:¬ m'<0:=by omega);simp[binOp,Op.shift,hm,eqGuard_shl]
  ·refine au (λhl=>sh _ _ (λhm w=>?_) (λ_ _=>LU _ _) (.inr hl)) (λ_=>aC λu hu=>sh _ _ (λhm w=>?_) (λ_ _=>LU _ _) (.inl (FS hu)))
   all_goals (have hm:¬ m'<0:=by omega);simp[binOp,Op.shift,hm,eqGuard_shr]
  ·refine au (λhk=>?_) (λ_=>ah);subst hk;exact zZ ho rfl
 ·exact zR ho rfl
 ·rename_i p q;split
  ·rename_i ht;have hu:=hT.und _ _ ht;refine ao ?_;intro own g w a m _ _ hr;rw[ho]at hr;simp only[Op.operands,K7,LG]at hr;obtain⟨h1,h2⟩:=KM hr
   exact⟨_,by simp[execOp,ho,nc h1,nc h2,eqGuard_at_bool,binOp,Op.equal,Op.maxDepth,run_equalIn_bool' w 9999 xT p q hu],R6 _⟩
  ·rename_i ht;have hu:=hT.und _ _ ht;refine ao ?_;intro own g w a m _ _ hr;rw[ho]at hr;simp only[Op.operands,K7,LG]at hr;obtain⟨h1,h2⟩:=KM hr
   exact⟨_,by simp[execOp,ho,nc h1,nc h2,eqGuard_at_bool,binOp,Op.equal,Op.maxDepth,run_equalIn_bool' w 9999 xT p q hu],R6 _⟩
  ·exact ah
 ·rename_i cs ds;split
  ·rename_i ht;split
   ·rename_i b hb;refine ao ?_;intro own g w a m _ _ hr;rw[ho]at hr;simp only[Op.operands,K7,LG]at hr;obtain⟨h1,h2⟩:=KM hr;obtain⟨xs,ex,hxs⟩:=kZ h1;obtain⟨ys,ey,hys⟩:=kZ h2;have he:Xv P xT:=hT.eq _ _ ht rfl;have hr:=sn hT ht rfl he hb hxs hys
    exact⟨_,by simp only[execOp,ho,ex,ey,LM,run_eqGuard_agg w .eql xT x y ⟨xs⟩ ⟨ys⟩ he.b,L8,run_eql_struct,hr,MO],R6 _⟩
   ·exact ah
  ·rename_i ht;split
   ·rename_i b hb;refine ao ?_;intro own g w a m _ _ hr;rw[ho]at hr;simp only[Op.operands,K7,LG]at hr;obtain⟨h1,h2⟩:=KM hr;obtain⟨xs,ex,hxs⟩:=kZ h1;obtain⟨ys,ey,hys⟩:=kZ h2;have he:Xv P xT:=hT.eq _ _ ht rfl;have hr:=sn hT ht rfl he hb hxs hys
    exact⟨_,by simp only[execOp,ho,ex,ey,LM,run_eqGuard_agg w .neq xT x y ⟨xs⟩ ⟨ys⟩ he.b,L8,run_neq_struct,hr,MO],R6 _⟩
   ·exact ah
  ·exact ah
 ·rename_i t l
  have nil:∀{op:BinOp}{e:TypeId}{s n bs z eq}(b:Bool),T xT=some ⟨.slice e,s,n,bs,z,eq⟩→(∀w:World,∀(a:Addr)(m c:Nat),l≠[]→(do eqGuard op xT x (.const (.slice none 0 0)) (.slice (some a) m c) (.slice none 0 0);binOp op xT (.slice (some a) m c) (.slice none 0 0):Sem Value).run P w = .ok (.bool b) w)→
    o.op = .binOp op xT x (.const (.slice none 0 0)) yT→Rule P o [.c (.im (.sl t l)),.c (.im .nl)] mm c K (cond l.isEmpty none (kB K b)):=by
   intro op e s n bs z eq b ht hrun ho
   cases hl:l.isEmpty with
   | true=>exact ah
   | false=>
    have hne:l≠[]:=by rintro rfl;cases hl
    refine ao ?_;intro own g w a m _ _ hr;rw[ho]at hr;simp only[Op.operands,K7,LG]at hr;obtain⟨h1,h2⟩:=KM hr;have h1':=aV h1;generalize hv:a.eval x=v at h1'
    cases h1' with
    | im h1'=>
     cases h1' with
     | sl0=>exact absurd rfl hne
     | sl _ _ b' o' cap f hb hcap hm hc hr'=>
      refine⟨.bool b,?_,R6 _⟩;have:=hrun w ⟨b',o',none⟩ l.length cap hne;simp only[execOp,ho,hv];rw[LM]
      show(Result.andThen ((do eqGuard op xT x (.const (.slice none 0 0)) (.slice (some ⟨b',o',none⟩) l.length cap) (.slice none 0 0);binOp op xT (.slice (some ⟨b',o',none⟩) l.length cap) (.slice none 0 0):Sem Value).run P w) _)=_
      rw[this];rfl
  split
  ·rename_i e s n bs z eq ht;have hu:=hT.und _ _ ht
   exact nil _ ht (λw a m c _=>by simp[eqGuard_at_slice,binOp,show(Op.equal xT (.slice (some a) m c) (.slice none 0 0)).run P w = .ok false w from yb 9999 a m c w hu]) ho
  ·rename_i e s n bs z eq ht;have hu:=hT.und _ _ ht
   exact nil _ ht (λw a m c _=>by simp[eqGuard_at_slice,binOp,show(Op.equal xT (.slice (some a) m c) (.slice none 0 0)).run P w = .ok false w from yb 9999 a m c w hu]) ho
  ·exact ah
 ·exact ah
end
set_option linter.unusedVariables false
set_option linter.unusedSimpArgs false
section
variable{F:Fam}{P:Program}{T:TypeId→Option (TI F)}{o:Oper}{vals:List (Dat F)}{mm:Nat→Option (J8 F)}{c:Nat}{R:Type}{K:Oy F→Option R}{own:Ow}{g:G}{w:World}{m:Nat→Option (J8 F)}
theorem bA(hT:J5 P T){t:TypeId}{ti:TI F}(h:T t=some ti)(w:World):(sizeOf t).run P w = .ok ti.size w:=by obtain⟨j,hj,hs,_⟩:=hT.info t ti h;simp[sizeOf,typeInfo,hj,hs]
theorem nj(hT:J5 P T){t:TypeId}{ti:TI F}(h:T t=some ti)(w:World):(isAgg t).run P w = .ok (da ti.desc) w:=by
 simp only[isAgg,LM,run_underlying (hT.und t ti h),L8]
 cases ti.desc<;>rfl
theorem Cc(hT:J5 P T){s:TypeId}{x:Operand}{fi:Nat}(ho:o.op = .fieldAddr s x fi):Rule P o vals mm c K (yM T vals K s fi):=by
 unfold yM;split
 ·rename_i hs;split
  ·exact ah
  ·rename_i U3 aao;split
   ·exact ah
   ·rename_i ti hti;refine au (λ_=>ah) (λhz=>?_)
    have key:∀(w:World)(a:Act)(b q:Nat),a.eval x = .pointer (some ⟨b,q,none⟩)→(execOp a.eval o).run P w = .ok (.value (.pointer (some ⟨b,q+U3.offset,none⟩))) w:=by intro w a b q e;have hu:=run_underlying (hT.und _ _ hs) w;have hsz:=bA hT hti w;simp[execOp,ho,e,Instr.fieldAt,hu,aao,Instr.sureAddr,fieldPlace,hsz,hz,Addr.add_lit]
    split
    ·refine ao ?_;intro own g w a m _ _ hr;rw[ho]at hr;obtain⟨b,c,hi,e⟩:=bo (KY hr);exact⟨_,key w a _ _ e,.c (.ptr hi)⟩
    ·refine ao ?_;intro own g w a m _ _ hr;rw[ho]at hr;obtain⟨b,c,hi,e⟩:=eu (KY hr);refine⟨_,key w a _ _ e,?_⟩;rw[PD];exact .c (.Mg hi)
    ·refine ao ?_;intro own g w a m _ _ hr;rw[ho]at hr;obtain⟨b,q,fn,hb,e,hc,hr⟩:=qa (KY hr);refine⟨_,key w a _ _ e,?_⟩;rw[PD];exact .c (.pt _ _ b q fn hb hc hr)
    ·refine ao ?_;intro own g w a m _ _ hr;rw[ho]at hr;obtain⟨b,c,n,b',c',hi,hk,e⟩:=AF (KY hr);refine⟨_,key w a _ _ e,?_⟩;rw[PD];exact .c (.Px hi hk)
    ·exact ah
 ·exact ah
theorem Af(hT:J5 P T){t:TypeId}{ti:TI F}(ht:T t=some ti){cs:List (Kv F)}{vs:List Value}{off:Nat}{d:Dat F}(h:dh ti cs off=some d)
  (hl:vs.length=cs.length) (hr:∀(k:Nat)(c:Kv F)(x:Value),cs[k]? = some c→vs[k]? = some x→Ka g w c x) :
  ∃v,(part t ⟨vs⟩ off).run P w = .ok v w∧J4 P g w d v:=by
 unfold dh at h;have ha:=nj hT ht w;have hs:=bA hT ht w;split at h
 ·rename_i hag;split at h
  ·cases h;refine⟨.agg ⟨(vs.drop off).take ti.size⟩,?_,?_⟩
   ·simp only[part,LM,ha,L8,hag,if_true,hs,MO]
    congr 2
    apply Array.ext';simp[List.extract_eq_take_drop]
   ·refine .agg (by simp[hl]) ?_
    intro k c x h1 h2;rw[MV]at h1 h2;split at h1
    ·rename_i hk;rw[if_pos hk]at h2;rw[OC]at h1 h2;exact hr _ _ _ h1 h2
    ·cases h1
  ·cases h
 ·rename_i hag;split at h
  ·rename_i c hc;cases h
   have hlt:off<vs.length:=by rw[hl];exact(I0.1 hc).1
   refine⟨vs[off],?_,.c (hr off c _ hc (IZ hlt))⟩
   have hag':da ti.desc=false:=by simpa using hag
   simp only[part,LM,ha,L8,hag',Ni,if_false]
   have:(⟨vs⟩:Array Value)[off]? = some vs[off]:=by simp[hlt]
   rw[this];rfl
  ·cases h
theorem jH{od:Option (Dat F)}(h:∀d,od=some d→Rl P o vals mm d):Rule P o vals mm c K (pK od K):=by
 cases od with
 | some d=>exact ao (h d rfl)
 | none=>exact ah
theorem Cv(hT:J5 P T){s:TypeId}{x:Operand}{fi:Nat}(ho:o.op = .field s x fi):Rule P o vals mm c K (Vx T vals K s fi):=by
 unfold Vx;split
 ·rename_i hs;split
  ·exact ah
  ·rename_i U3 aao;split
   ·exact ah
   ·rename_i ti hti;refine au (λ_=>jH λd hd=>?_) (λ_=>ah);intro own g w a m _ _ hr;rw[ho]at hr;obtain⟨vs,e,hl,hr⟩:=kZ (KY hr);obtain⟨v,hrun,hv⟩:=Af (P:=P) hT hti hd hl hr
    exact⟨v,by simp only[execOp,ho,LM,Instr.field,run_underlying (hT.und _ _ hs),L8,aao,e,asAgg,MO,hrun],hv⟩
 ·exact ah
theorem cE(hT:J5 P T){t:TypeId}{ti:TI F}(ht:T t=some ti){cs:List (Kv F)}{off b q:Nat}{d:Dat F}(h:dh ti cs off=some d)
  (hc:∀k c,cs[k]? = some c→∃x,w.cell? ⟨b,q+k,none⟩=some x∧Ka g w c x) :
  ∃v,(loadVar t ⟨b,q+off,none⟩).run P w = .ok v w∧J4 P g w d v:=by
 unfold dh at h;have ha:=nj hT ht w;have hs:=bA hT ht w;split at h
 ·rename_i hag;split at h
  ·rename_i hle;have hle:=P9 hle;cases h
   have hrun:=run_loadCells (P:=P) w ⟨b,q+off,none⟩ ti.size (λj=>(w.cell? ⟨b,q+off+j,none⟩).getD undef) (by
    intro j hj;rw[Addr.add_lit]
    have hlt:off+j<cs.length:=by omega
    obtain⟨x,hx,_⟩:=hc (off+j) _ (IZ hlt);rw[← PD]at hx;rw[hx];rfl)
   refine⟨.agg ⟨(List.range ti.size).map (λj=>(w.cell? ⟨b,q+off+j,none⟩).getD undef)⟩,by simp only[loadVar,LM,ha,L8,hag,if_true,hs,hrun,MO],?_⟩
   refine .agg (by simp;omega) ?_
   intro k c x h1 h2;rw[MV]at h1;split at h1
   ·rename_i hk;rw[OC]at h1;obtain⟨y,hy,hr⟩:=hc (off+k) c h1;rw[← PD]at hy;simp only[MU,QeT hk,S_,K3]at h2;rw[hy]at h2;simp only[Ta]at h2;subst h2;exact hr
   ·cases h1
  ·cases h
 ·rename_i hag;split at h
  ·rename_i c hcc;cases h;obtain⟨x,hx,hr⟩:=hc off c hcc
   have hag':da ti.desc=false:=by simpa using hag
   refine⟨x,?_,.c hr⟩;simp only[loadVar,LM,ha,L8,hag',Ni,if_false,run_load,hx]
  ·cases h
theorem yn{α : Type}{sz:Nat}:∀{es:List (List α)} (_:∀e∈es,e.length=sz) {i k:Nat} {e:List α} {d:α} (_:es[i]? = some e) (_:e[k]? = some d),es.flatten[i*sz+k]? = some d
 | [],_,i,k,e,d,h1,_=>by simp at h1
 | x::es,hsz,0,k,e,d,h1,h2=>by simp only[M9,K3]at h1;subst h1;simp only[U9,Nat.zero_mul,L_];rw[ME (I0.1 h2).1];exact h2
 | x::es,hsz,i+1,k,e,d,h1,h2=>by
  simp only[W_]at h1
  have hx:x.length=sz:=hsz x (by simp)
  have ih:=yn (es:=es) (λe he=>hsz e (by simp[he])) h1 h2
  simp only[U9]
  rw[Nj (by rw[hx,Ro];omega),hx]
  rw[show(i+1)*sz+k - sz=i*sz+k by rw[Ro];omega]
  exact ih
theorem qB{α : Type}{sz:Nat}:∀{es:List (List α)} (_:∀e∈es,e.length=sz),es.flatten.length=es.length*sz
 | [],_=>by simp
 | x::es,h=>by
  have hx:x.length=sz:=h x (by simp)
  have ih:=qB (es:=es) (λe he=>h e (by simp[he]))
  simp only[U9,I3,P8,ih,hx,Ro];omega
theorem oA{t:Ty}{l:List (ET F t)}:∀e∈l.map (Jj F t),e.length=Jm F t:=by intro e he;rw[Oz]at he;obtain⟨x,_,rfl⟩:=he;exact aT F t x
theorem aD{t:Ty}{l:List (ET F t)}:(cells F t l).length=l.length*Jm F t:=by unfold cells;rw[qB oA,OD]
theorem aS{t:Ty}{l:List (ET F t)}{i k:Nat}{x:ET F t}{d:ND F}(h:l[i]? = some x)(hk:(Jj F t x)[k]? = some d):(cells F t l)[i*Jm F t+k]? = some d:=
 yn oA (by rw[MU,h];rfl) hk
theorem xc(hm:Jl own g w m){id:Nat}{cs:List (Kv F)}(h:m id=some (.box cs)){b:Nat}{c:Nat×Nat×NS}(hi:g.ids id=some (some (b,c))) :
  ∀k c,cs[k]? = some c→∃x,w.cell? ⟨b,0+k,none⟩=some x∧Ka g w c x:=by
 obtain⟨b',c',arr,t,h1,h2,h3,h4⟩:=hm.ok id _ h;rw[h1]at hi;cases hi;intro k c hk
 have hlt:k<arr.length:=by rw[h3];exact(I0.1 hk).1
 refine⟨arr[k],?_,h4 k c _ hk (IZ hlt)⟩;simp[World.cell?,h2,hlt]
theorem bX(hm:Jl own g w m){id:Nat}{t:Ty}{l:List (ET F t)}(h:m id=some (.row t l)){b c:Nat}{n:Nat×NS}(hi:g.ids id=some (some (b,c,n))) :
  n=(l.length,[])∧l.length≤c∧∀k d,(cells F t l)[k]? = some d→∃x,w.cell? ⟨b,k,none⟩=some x∧Ju w g.I7 d x:=by
 rcases hm.ok id _ h with⟨h1,_⟩ | ⟨b',cap,cur,e,h1,h2,h3,h4,h5,h6⟩
 ·rw[h1]at hi;cases hi
 ·rw[h1]at hi;cases hi;refine⟨rfl,h3,?_⟩;intro k d hk
  have hlt:k<cur.length:=by have h7:k<(cells F t l).length:=(I0.1 hk).1;rw[aD]at h7;have:l.length*Jm F t≤c*Jm F t:=M5 _ h3;omega
  refine⟨cur[k],?_,h6 k d _ hk (IZ hlt)⟩;simp[World.cell?,h2,hlt]
theorem mo(hm:Jl own g w m){id:Nat}{t:Ty}{l:List (ET F t)}(h:m id=some (.OG t l)){b c:Nat}{n:Nat×NS}(hi:g.ids id=some (some (b,c,n))) :
  ∃ns,n=(l.length,ns)∧l.length≤c∧c≤maxLen∧g.I7 b∧∀k d,(cells F t l)[k]? = some d→∃x,w.cell? ⟨b,k,none⟩=some x∧Ju w g.I7 d x:=by
 rcases hm.ok id _ h with⟨h1,_⟩ | ⟨b',cap,ns,h1,hn,h2,h3,h4,h5⟩
 ·rw[h1]at hi;cases hi
 ·rw[h1]at hi;cases hi;exact⟨_,rfl,h3,h4,h2,h5⟩
theorem fp(hm:Jl own g w m){id:Nat}{t:Ty}{l:List (ET F t)}(h:m id=some (.KR t l)){b c:Nat}{n:Nat×NS}(hi:g.ids id=some (some (b,c,n))) :
  n.1=l.length∧l.length≤c∧c≤maxLen∧∀k d,(cells F t l)[k]? = some d→∃x pl,w.cell? ⟨b,k,none⟩=some x∧n.2[k]? = some pl∧LJ w g.I7 d x pl:=by
 obtain⟨pl,h1,h2⟩:=hm.ok id _ h;rw[h1]at hi;cases hi;obtain⟨q1,q2,q3,q4,q5,cur,e,q6,q7,q8⟩:=h2;refine⟨q1,q2,q3,?_⟩;intro k d hk;have h7:k<(cells F t l).length:=(I0.1 hk).1
 have hlt:k<cur.length:=by have h8:=h7;rw[aD]at h8;have:l.length*Jm F t≤c*Jm F t:=M5 _ q2;omega
 refine⟨cur[k],n.2[k],?_,IZ (by omega),q8 k d _ _ hk (IZ hlt) (IZ (by omega))⟩
 simp[World.cell?,q6,hlt]
theorem fD{cs:List (ND F)}{k:Nat}{c:Kv F}(h:(cs.map Kv.im)[k]? = some c):∃d,cs[k]? = some d∧c = .im d:=by rw[MU,RN]at h;obtain⟨d,hd,rfl⟩:=h;exact⟨d,hd,rfl⟩
theorem Cq(hT:J5 P T){t:TypeId}{x:Operand}(ho:o.op = .load t x):Rule P o vals mm c K (Vy T vals mm K t):=by
 unfold Vy
 have key:∀{w:World}{a:Act}{b q:Nat}{v:Value},a.eval x = .pointer (some ⟨b,q,none⟩)→(loadVar t ⟨b,q,none⟩).run P w = .ok v w→(execOp a.eval o).run P w = .ok (.value v) w:=by intro w a b q v e hr;simp[execOp,ho,e,Instr.loadAt,Instr.sureAddr,hr]
 split
 ·exact ah
 ·rename_i ti hti;split
  ·refine jH λd hd=>?_;intro own g w a m _ _ hr;rw[ho]at hr;obtain⟨b,q,fn,hb,e,hc,hr⟩:=qa (KY hr)
   obtain⟨v,hrun,hrep⟩:=cE (P:=P) (g:=g) (w:=w) hT hti hd (b:=b) (q:=q) (by intro k c hk;obtain⟨d',hd',rfl⟩:=fD hk;exact⟨fn k,hc k d' hd',.im (hr k d' hd')⟩)
   exact⟨v,key e hrun,hrep⟩
  ·rename_i cs;refine au (λ_=>ah) (λhag=>ao ?_);intro own g w a m _ _ hr;rw[ho]at hr;obtain⟨b,q,b2,q2,fn,hb,hv,hb2,e,hc,hr⟩:=Gd (KY hr)
   have hd:dh ti [Kv.pt cs 0] 0=some (.c (.pt cs 0)):=by simp[dh,hag]
   obtain⟨v,hrun,hrep⟩:=cE (P:=P) (g:=g) (w:=w) hT hti hd (b:=b) (q:=q) (by
    intro k c hk
    cases k with
    | zero=>simp only[M9,K3]at hk;subst hk;exact⟨_,hv,.pt cs 0 b2 q2 fn hb2 hc hr⟩
    | succ k=>simp at hk)
   exact⟨v,key e hrun,hrep⟩
  ·split
   ·rename_i MF;refine jH λd hd=>?_;intro own g w a m hle hm hr;rw[ho]at hr;obtain⟨b,c,hi,e⟩:=bo (KY hr);obtain⟨v,hrun,hrep⟩:=cE (P:=P) (g:=g) (w:=w) hT hti hd (b:=b) (q:=0) (xc hm (hle _ _ MF) hi);rw[L_]at hrun;exact⟨v,key e hrun,hrep⟩
   ·rename_i MF;refine jH λd hd=>?_;intro own g w a m hle hm hr;rw[ho]at hr;obtain⟨b,c,hi,e⟩:=bo (KY hr);obtain⟨b',c',h1,h2,h3⟩:=hm.ok _ _ (hle _ _ MF);rw[h1]at hi;cases hi
    obtain⟨v,hrun,hrep⟩:=cE (P:=P) (g:=g) (w:=w) hT hti hd (b:=b) (q:=0) (by
     intro k c hk;obtain⟨d',hd',rfl⟩:=fD hk;obtain⟨y,k1,k2⟩:=h3 k d' hd'
     exact⟨y,by rw[L_];exact k1,.im k2⟩)
    rw[L_]at hrun;exact⟨v,key e hrun,hrep⟩
   ·exact ah
  ·rename_i id sz i off;split
   ·rename_i t' l hrow;refine au (λhsz=>aC λx hx=>jH λd hd=>?_) (λ_=>ah);subst hsz;intro own g w a m hle hm hr;rw[ho]at hr;obtain⟨b,c,hi,e⟩:=eu (KY hr);obtain⟨_,_,hcell⟩:=bX hm (hle _ _ hrow) (c:=c.1) (n:=c.2) hi
    obtain⟨v,hrun,hrep⟩:=cE (P:=P) (g:=g) (w:=w) hT hti hd (b:=b) (q:=i*Jm F t') (by intro k c hk;obtain⟨d',hd',rfl⟩:=fD hk;obtain⟨y,hy,hr⟩:=hcell _ _ (aS hx hd');exact⟨y,hy,.im hr⟩)
    exact⟨v,key e hrun,hrep⟩
   ·rename_i t' l hrow;refine au (λhsz=>aC λx hx=>jH λd hd=>?_) (λ_=>ah);subst hsz;intro own g w a m hle hm hr;rw[ho]at hr;obtain⟨b,c,hi,e⟩:=eu (KY hr);obtain⟨_,_,_,_,_,hcell⟩:=mo hm (hle _ _ hrow) (c:=c.1) (n:=c.2) hi
    obtain⟨v,hrun,hrep⟩:=cE (P:=P) (g:=g) (w:=w) hT hti hd (b:=b) (q:=i*Jm F t') (by intro k c hk;obtain⟨d',hd',rfl⟩:=fD hk;obtain⟨y,hy,hr⟩:=hcell _ _ (aS hx hd');exact⟨y,hy,.im hr⟩)
    exact⟨v,key e hrun,hrep⟩
   ·rename_i t' l hrow;refine au (λhsz=>aC λx hx=>?_) (λ_=>ah);simp only[KV,decide_eq_true_eq,Rp]at hsz;obtain⟨rfl,hag⟩:=hsz
    have one:∀{w:World}{b q:Nat}{v:Value},w.cell? ⟨b,q,none⟩=some v→(loadVar t ⟨b,q,none⟩).run P w = .ok v w:=by intro w b q v h;simp only[loadVar,LM,nj hT hti,L8,hag,Ni,if_false,run_load,h]
    split
    ·rename_i t2 l2 hd;refine ao ?_;intro own g w a m hle hm hr;rw[ho]at hr;obtain⟨b,c,hi,e⟩:=eu (KY hr);obtain⟨_,_,_,hcell⟩:=fp hm (hle _ _ hrow) (c:=c.1) (n:=c.2) hi;obtain⟨y,pl,k1,k2,k3⟩:=hcell _ _ (aS hx hd);exact⟨y,key e (one k1),.c (.O4 hi k2 k3.2)⟩
    ·rename_i d hns hd;refine au (λhf=>ao ?_) (λ_=>ah);intro own g w a m hle hm hr;rw[ho]at hr;obtain⟨b,c,hi,e⟩:=eu (KY hr);obtain⟨_,_,_,hcell⟩:=fp hm (hle _ _ hrow) (c:=c.1) (n:=c.2) hi;obtain⟨y,pl,k1,k2,k3⟩:=hcell _ _ (aS hx hd);refine⟨y,key e (one k1),.c (.im ?_)⟩
     cases d with
     | sl t2 l2=>exact absurd rfl (hns t2 l2)
     | _=>exact k3.2.2
    ·exact ah
   ·exact ah
  ·exact ah
end
set_option linter.unusedVariables false
set_option linter.unusedSimpArgs false
section
variable{F:Fam}{P:Program}{T:TypeId→Option (TI F)}{o:Oper}{vals:List (Dat F)}{mm:Nat→Option (J8 F)}{c:Nat}{R:Type}{K:Oy F→Option R}{own:Ow}{g:G}{w:World}{m:Nat→Option (J8 F)}
theorem CR{α : Type}{l:List α}{i:Int}{x:α}(h:idx l i=some x):0≤i∧l[i.toNat]? = some x:=by
 unfold idx at h;split at h
 ·exact⟨by assumption,h⟩
 ·cases h
theorem kn{i:Int}{n k:Nat}(h:Kk i n=some k):0≤i∧i.toNat<n∧k=i.toNat:=by
 unfold Kk at h;split at h
 ·rename_i hc;cases h;exact⟨hc.1,hc.2,rfl⟩
 ·cases h
theorem Dw{a b:Int}{n:Nat}{p:Nat×Nat}(h:Ms a b n=some p):0≤a∧a≤b∧b≤n∧p=(a.toNat,b.toNat - a.toNat):=by
 unfold Ms at h;split at h
 ·rename_i hc;cases h;exact⟨hc.1,hc.2.1,hc.2.2,rfl⟩
 ·cases h
theorem vE{α : Type}{l r:List α}{a b:Int}(h:slc l a b=some r):0≤a∧a≤b∧b≤l.length∧r=(l.take b.toNat).drop a.toNat:=by
 unfold slc at h;split at h
 ·rename_i hc;cases h;exact⟨hc.1,hc.2.1,hc.2.2,rfl⟩
 ·cases h
theorem a_{id:Nat}{v:Value}(h:Ka (F:=F) g w (.KU id) v):(g.ids id=some none∧∃p,v = .slice p 0 0)∨
  ∃(b c:Nat)(n:Nat×NS),g.ids id=some (some (b,c,n))∧n.1≤c∧c≤maxLen∧v = .slice (some ⟨b,0,none⟩) n.1 c:=by
 cases h with
 | MR p h=>exact .inl ⟨h,p,rfl⟩
 | KU h h1 h2=>exact .inr ⟨_,_,_,h,h1,h2,rfl⟩
theorem lg{id sz off n:Nat}{v:Value}(h:Ka (F:=F) g w (.Ny id sz off n) v):(g.ids id=some none∧off=0∧n=0∧∃p,v = .slice p 0 0)∨
  ∃(b c:Nat)(len:Nat×NS)(o:Nat),g.ids id=some (some (b,c,len))∧off+n≤len.1∧len.1≤c∧((off=c∧0<c)∨o=off*sz)∧c≤maxLen∧v = .slice (some ⟨b,o,none⟩) n (c - off):=by
 cases h with
 | OW p h=>exact .inl ⟨h,rfl,rfl,p,rfl⟩
 | Ny h h1 h2 h3 h4=>exact .inr ⟨_,_,_,_,h,h1,h2,h3,h4,rfl⟩
theorem EO{n k:Nat}{y:Operand}(h:Pn n y=some k):k<n∧∃kd,y = .const (.int kd (k:Int)):=by
 unfold Pn at h;split at h
 ·split at h
  ·rename_i kd k' hk;cases h;simp only[M4]at hk;exact⟨hk,kd,rfl⟩
  ·cases h
 ·cases h
theorem vg{t':Ty}{l:List (ET F t')}{n:Int}{x:ET F t'}{v:Value}(hx:idx l n=some x)(hv:Ju w g.I7 (.sl t' l) v) :
  ∃b q len cap,v = .slice (some ⟨b,q,none⟩) len cap∧0≤n∧n<len∧Ka g w (.pt (Jj F t' x) 0) (.pointer (some ⟨b,q+n.toNat*Jm F t'+0,none⟩)):=by
 obtain⟨h0,h1⟩:=CR hx;have hlt:n.toNat<l.length:=(I0.1 h1).1;rcases rJ hv with⟨rfl,_⟩ | ⟨b,q,cap,fn,hb,hcap,hmx,e1,hc,hr⟩
 ·simp at hlt
 ·refine⟨b,q,l.length,cap,e1,h0,by omega,.pt _ 0 b (q+n.toNat*Jm F t') (λk=>fn (n.toNat*Jm F t'+k)) hb ?_ ?_⟩
  ·intro k d hk;rw[PD];exact hc _ d (aS h1 hk)
  ·intro k d hk;exact hr _ d (aS h1 hk)
theorem fy{t:Ty}{l:List (ET F t)}{a n:Nat}:cells F t (sub l a n)=((cells F t l).drop (a*Jm F t)).take (n*Jm F t):=by
 unfold cells sub
 have UJ:∀{es:List (List (ND F))} (_:∀e∈es,e.length=Jm F t) (n:Nat),(es.drop n).flatten=es.flatten.drop (n*Jm F t):=by
  intro es
  induction es with
  | nil=>intro _ n;simp
  | cons x es ih=>
   intro h n
   cases n with
   | zero=>simp
   | succ n=>
    have hx:x.length=Jm F t:=h x (by simp)
    have e1:x.drop (n*Jm F t+Jm F t) = []:=List.drop_of_length_le (by omega)
    rw[List.drop_succ_cons,ih (λe he=>h e (by simp[he])) n,U9,Ro,List.drop_append,hx,e1]
    simp
 have UH:∀{es:List (List (ND F))} (_:∀e∈es,e.length=Jm F t) (n:Nat),(es.take n).flatten=es.flatten.take (n*Jm F t):=by
  intro es
  induction es with
  | nil=>intro _ n;simp
  | cons x es ih=>
   intro h n
   cases n with
   | zero=>simp
   | succ n=>
    have hx:x.length=Jm F t:=h x (by simp)
    have e1:x.take (n*Jm F t+Jm F t)=x:=XK (by omega)
    rw[List.take_succ_cons,U9,ih (λe he=>h e (by simp[he])) n,U9,Ro,List.take_append,hx,e1]
    simp
 rw[List.map_take,List.map_drop,UH (λe he=>oA e (XJ he)),UJ oA]
theorem gJ{t:Ty}{l:List (ET F t)}{a n k:Nat}{d:ND F}(h:(cells F t (sub l a n))[k]? = some d):(cells F t l)[a*Jm F t+k]? = some d:=by
 rw[fy,MV]at h;split at h
 ·rwa [OC]at h
 ·cases h
theorem oX(hm:Jl own g w m){id:Nat}{t:Ty}{l:List (ET F t)}(h:m id=some (.OG t l)){v:Value}(hv:Ka (F:=F) g w (.KU id) v):Ju w g.I7 (.sl t l) v:=by
 rcases a_ hv with⟨hi,p,rfl⟩ | ⟨b,c,n,hi,h1,h2,rfl⟩
 ·rcases hm.ok id _ h with⟨_,rfl⟩ | ⟨b',cap,_,k1,_⟩
  ·exact .sl0 t p
  ·rw[hi]at k1;cases k1
 ·obtain⟨ns,rfl,h4,h5,h6,h7⟩:=mo hm h hi;refine .sl t l b 0 c (λk=>(w.cell? ⟨b,k,none⟩).getD undef) h6 h4 h5 ?_ ?_
  ·intro k d hk;obtain⟨x,k1,k2⟩:=h7 k d hk;rw[L_,k1];rfl
  ·intro k d hk;obtain⟨x,k1,k2⟩:=h7 k d hk;rw[k1];exact k2
theorem xJ(hm:Jl own g w m){id:Nat}{t:Ty}{l:List (ET F t)}(h:m id=some (.OG t l)){sz off n:Nat}(hsz:sz=Jm F t){v:Value}(hv:Ka (F:=F) g w (.Ny id sz off n) v):Ju w g.I7 (.sl t (sub l off n)) v:=by
 subst hsz;rcases lg hv with⟨hi,rfl,rfl,p,rfl⟩ | ⟨b,c,len,q,hi,h1,h2,h3,h4,rfl⟩
 ·have:sub l 0 0 = []:=by simp[sub]
  rw[this];exact .sl0 t p
 ·obtain⟨ns,rfl,h4,h5,h6,h7⟩:=mo hm h hi
  have hlen:(sub l off n).length=n:=by simp only[sub,Lj,Nh];omega
  have key:∀(k:Nat)(d:ND F),(cells F t (sub l off n))[k]? = some d→∃x,w.cell? ⟨b,q+k,none⟩=some x∧Ju w g.I7 d x:=by
   intro k d hk;rcases h3 with⟨h3,_⟩ | h3
   ·have h0:n=0:=by omega
    subst h0;simp[sub,cells]at hk
   ·subst h3;exact h7 _ _ (gJ hk)
  have:=Ju.sl (F:=F) (w:=w) (I7:=g.I7) t (sub l off n) b q (c - off) (λk=>(w.cell? ⟨b,q+k,none⟩).getD undef) h6 (by omega) (by omega)
   (λk d hk=>by obtain⟨x,k1,k2⟩:=key k d hk;rw[k1];rfl) (λk d hk=>by obtain⟨x,k1,k2⟩:=key k d hk;rw[k1];exact k2)
  rwa [hlen]at this
theorem wl(hT:J5 P T){t:TypeId}{x ix:Operand}(ho:o.op = .indexAddr t x ix):Rule P o vals mm c K (qV T vals mm K t ix):=by
 unfold qV;split
 ·rename_i e _ _ _ _ _ ht;split
  ·exact ah
  ·rename_i te hte
   have run:∀{w:World}{a:Act}{b q len cap:Nat}{k:IntKind} {n:Int},a.eval x = .slice (some ⟨b,q,none⟩) len cap→a.eval ix = .int k n→0≤n→n<len→
     (execOp a.eval o).run P w = .ok (.value (.pointer (some ⟨b,q+n.toNat*te.size,none⟩))) w:=by
    intro w a b q len cap k n e1 e2 h0 h1;have hu:=run_underlying (hT.und _ _ ht) w;have hs:=bA hT hte w;have h2:0≤n∧n<len:=⟨h0,h1⟩;simp only[execOp,ho,e1,e2,LM,Instr.indexAt,asIntOf,hu,L8,MO,h2,and_self,if_true,hs,Addr.add_lit]
   split
   ·rename_i t' l k n;refine au (λhsz=>aC λx' hx=>ao ?_) (λ_=>ah);intro own g w a m hle hm hr;rw[ho]at hr;simp only[Op.operands,K7,LG]at hr;obtain⟨h1,h2⟩:=KM hr;obtain⟨b,q,len,cap,e1,h3,h4,h5⟩:=vg hx (sv h1);rw[hsz]at h5;exact⟨_,run e1 (bG h2) h3 h4,.c h5⟩
   ·rename_i id k n;split
    ·rename_i t' l hrow;refine au (λhsz=>aC λi hi=>ao ?_) (λ_=>ah);intro own g w a m hle hm hr;rw[ho]at hr;simp only[Op.operands,K7,LG]at hr;obtain⟨h1,h2⟩:=KM hr;obtain⟨h3,h4,rfl⟩:=kn hi;rcases a_ (aV h1)with⟨hid,p,ev⟩ | ⟨b,c',len,hid,h5,h6,ev⟩
     ·rcases hm.ok id _ (hle _ _ hrow)with⟨_,rfl⟩ | ⟨_,_,_,_,k1,_⟩
      ·simp at h4
      ·rw[hid]at k1;cases k1
     ·obtain⟨rfl,_,_⟩:=bX hm (hle _ _ hrow) hid
      exact⟨_,run ev (bG h2) h3 (by dsimp only;omega),by rw[L_];exact .c (.Mg (off:=0) hid)⟩
    ·rename_i t' l hrow;refine au (λhsz=>aC λi hi=>ao ?_) (λ_=>ah);intro own g w a m hle hm hr;rw[ho]at hr;simp only[Op.operands,K7,LG]at hr;obtain⟨h1,h2⟩:=KM hr;obtain⟨h3,h4,rfl⟩:=kn hi;rcases a_ (aV h1)with⟨hid,p,ev⟩ | ⟨b,c',len,hid,h5,h6,ev⟩
     ·obtain⟨pl,k1,k2⟩:=hm.ok id _ (hle _ _ hrow);rw[hid]at k1;cases k1;have k2:l = []:=k2;subst k2;simp at h4
     ·obtain⟨k1,_⟩:=fp hm (hle _ _ hrow) hid
      exact⟨_,run ev (bG h2) h3 (by omega),by rw[L_];exact .c (.Mg (off:=0) hid)⟩
    ·rename_i t' l _ _ hrow;refine au (λhsz=>aC λi hi=>ao ?_) (λ_=>ah);intro own g w a m hle hm hr;rw[ho]at hr;simp only[Op.operands,K7,LG]at hr;obtain⟨h1,h2⟩:=KM hr;obtain⟨h3,h4,rfl⟩:=kn hi;rcases a_ (aV h1)with⟨hid,p,ev⟩ | ⟨b,c',len,hid,h5,h6,ev⟩
     ·obtain⟨pl,k1,k2⟩:=hm.ok id _ (hle _ _ hrow);rw[hid]at k1;cases k1;have k2:l = []:=k2;subst k2;simp at h4
     ·obtain⟨pl,k1,k2⟩:=hm.ok id _ (hle _ _ hrow);rw[hid]at k1;cases k1;have k1:=k2.1
      exact⟨_,run ev (bG h2) h3 (by omega),by rw[L_];exact .c (.Mg (off:=0) hid)⟩
    ·rename_i t' l _ hrow;refine au (λhsz=>aC λi hi=>ao ?_) (λ_=>ah);intro own g w a m hle hm hr;rw[ho]at hr;simp only[Op.operands,K7,LG]at hr;obtain⟨h1,h2⟩:=KM hr;obtain⟨h3,h4,rfl⟩:=kn hi;rcases a_ (aV h1)with⟨hid,p,ev⟩ | ⟨b,c',len,hid,h5,h6,ev⟩
     ·obtain⟨pl,k1,k2⟩:=hm.ok id _ (hle _ _ hrow);rw[hid]at k1;cases k1;have k2:l = []:=k2;subst k2;simp at h4
     ·obtain⟨pl,k1,k2⟩:=hm.ok id _ (hle _ _ hrow);rw[hid]at k1;cases k1;have k1:=k2.1
      exact⟨_,run ev (bG h2) h3 (by omega),by rw[L_];exact .c (.Mg (off:=0) hid)⟩
    ·rename_i t' l hrow;refine au (λhsz=>aC λx' hx=>ao ?_) (λ_=>ah);intro own g w a m hle hm hr;rw[ho]at hr;simp only[Op.operands,K7,LG]at hr;obtain⟨h1,h2⟩:=KM hr;obtain⟨b,q,len,cap,e1,h3,h4,h5⟩:=vg hx (oX hm (hle _ _ hrow) (aV h1));rw[hsz]at h5;exact⟨_,run e1 (bG h2) h3 h4,.c h5⟩
    ·exact ah
   ·rename_i id sz i0 off k n;split
    ·rename_i t' l hrow;refine au (λhsz=>aC λx' hx=>?_) (λ_=>ah);subst hsz;split
     ·rename_i t2 l2 hd;refine au (λhsz=>aC λj hj=>ao ?_) (λ_=>ah);intro own g w a m hle hm hr;rw[ho]at hr;simp only[Op.operands,K7,LG]at hr;obtain⟨h1,h2⟩:=KM hr;obtain⟨h3,h4,rfl⟩:=kn hj;obtain⟨b,c',nn,pl,hid,hk,hv⟩:=Gj h1;obtain⟨_,_,_,hcell⟩:=fp hm (hle _ _ hrow) hid;obtain⟨y,P6,_,k2,k3⟩:=hcell _ _ (aS hx hd);rw[hk]at k2;cases k2
      cases pl with
      | none=>have k3:l2 = []:=k3.1;subst k3;simp at h4
      | some q=>
       obtain⟨b2,c2,n2⟩:=q;obtain⟨k4,k5,k6,_⟩:=k3.1;simp only[Prod.mk.injEq,and_true]at k4
       refine⟨_,run hv (bG h2) h3 (by dsimp only;omega),?_⟩
       rw[L_];exact .c (.Px (off':=0) hid hk)
     ·exact ah
    ·exact ah
   ·rename_i id sz off len k n;refine au (λhsz=>aC λi hi=>ao ?_) (λ_=>ah);intro own g w a m hle hm hr;rw[ho]at hr;simp only[Op.operands,K7,LG]at hr;obtain⟨h1,h2⟩:=KM hr;obtain⟨h3,h4,rfl⟩:=kn hi;rcases lg (aV h1)with⟨_,_,rfl,_⟩ | ⟨b,c',len',q,hid,h5,h6,h7,h8,ev⟩
    ·omega
    ·have hq:q=off*sz:=by
      rcases h7 with h7 | h7
      ·omega
      ·exact h7
     subst hq
     refine⟨_,run ev (bG h2) h3 (by omega),?_⟩
     rw[← hsz,← OQ];exact .c (.Mg (off:=0) hid)
   ·rename_i id len k n;refine au (λhsz=>aC λi hi=>ao ?_) (λ_=>ah);intro own g w a m hle hm hr;rw[ho]at hr;simp only[Op.operands,K7,LG]at hr;obtain⟨h1,h2⟩:=KM hr;obtain⟨h3,h4,rfl⟩:=kn hi;obtain⟨b,c',hid,_,ev⟩:=wq h1
    refine⟨_,run ev (bG h2) h3 (by omega),?_⟩
    rw[hsz,Nat.mul_one,L_];exact .c (.ptr hid)
   ·exact ah
 ·rename_i len e _ _ _ _ _ ht;split
  ·exact ah
  ·rename_i te hte
   have run:∀{w:World}{a:Act}{b q:Nat}{k:IntKind} {n:Int},a.eval x = .pointer (some ⟨b,q,none⟩)→a.eval ix = .int k n→0≤n→n<len→
     (execOp a.eval o).run P w = .ok (.value (.pointer (some ⟨b,q+n.toNat*te.size,none⟩))) w:=by
    intro w a b q k n e1 e2 h0 h1;have hu:=run_underlying (hT.und _ _ ht) w;have hs:=bA hT hte w;have h2:0≤n∧n<len:=⟨h0,h1⟩;simp only[execOp,ho,e1,e2,LM,Instr.indexAt,asIntOf,hu,L8,MO,Instr.sureAddr,h2,and_self,if_true,hs,Addr.add_lit]
   have lit:∀{i:Nat},Pn len ix=some i→∀(a:Act),∃k,a.eval ix = .int k (i:Int)∧(0:Int)≤i∧(i:Int)<len:=by
    intro i hi a;obtain⟨h1,kd,rfl⟩:=EO hi
    exact⟨kd,rfl,by omega,by omega⟩
   split
   ·rename_i id off k n;split
    ·rename_i t' l hrow;refine au (λhsz=>?_) (λ_=>ah);split
     ·rename_i i hi;refine ao ?_;intro own g w a m hle hm hr;rw[ho]at hr;simp only[Op.operands,K7,LG]at hr;obtain⟨h1,h2⟩:=KM hr;obtain⟨b,c',hid,e1⟩:=bo h1;obtain⟨kd,e2,h3,h4⟩:=lit hi a;refine⟨_,run e1 e2 h3 h4,?_⟩;rw[L_,Ut];exact .c (.Mg (off:=0) hid)
     ·refine aC λi hi=>ao ?_;intro own g w a m hle hm hr;rw[ho]at hr;simp only[Op.operands,K7,LG]at hr;obtain⟨h1,h2⟩:=KM hr;obtain⟨b,c',hid,e1⟩:=bo h1;obtain⟨h3,h4,rfl⟩:=kn hi
      refine⟨_,run e1 (bG h2) h3 (by omega),?_⟩
      rw[L_];exact .c (.Mg (off:=0) hid)
    ·split
     ·rename_i i hi;refine ao ?_;intro own g w a m hle hm hr;rw[ho]at hr;simp only[Op.operands,K7,LG]at hr;obtain⟨h1,h2⟩:=KM hr;obtain⟨b,c',hid,e1⟩:=bo h1;obtain⟨kd,e2,h3,h4⟩:=lit hi a;refine⟨_,run e1 e2 h3 h4,?_⟩;rw[Ut];exact .c (.ptr hid)
     ·exact ah
    ·exact ah
   ·split
    ·rename_i i hi;refine ao ?_;intro own g w a m hle hm hr;rw[ho]at hr;simp only[Op.operands,K7,LG]at hr;obtain⟨h1,h2⟩:=KM hr;obtain⟨b,c',hid,e1⟩:=eu h1;obtain⟨kd,e2,h3,h4⟩:=lit hi a;refine⟨_,run e1 e2 h3 h4,?_⟩;rw[Ut,PD];exact .c (.Mg hid)
    ·exact ah
   ·split
    ·rename_i i hi;refine ao ?_;intro own g w a m hle hm hr;rw[ho]at hr;simp only[Op.operands,K7,LG]at hr;obtain⟨h1,h2⟩:=KM hr;obtain⟨b,q,fn,hb,e1,hc,hr⟩:=qa h1;obtain⟨kd,e2,h3,h4⟩:=lit hi a;refine⟨_,run e1 e2 h3 h4,?_⟩;rw[Ut,PD];exact .c (.pt _ _ b q fn hb hc hr)
    ·exact ah
   ·exact ah
 ·exact ah
theorem yA{x:Operand}{i:Nat}(ho:o.op = .extract x i):Rule P o vals mm c K (match vals with | [.MI ds]=>(match ds[i]? with | some d=>K { val:=d } | none=>none) | _=>none):=by
 split
 ·split
  ·rename_i ds _ d hd;refine ao ?_;intro own g w a m hle hm hr;rw[ho]at hr;obtain⟨vs,e,hl,hr⟩:=AS (KY hr)
   have hlt:i<vs.length:=by rw[hl];exact(I0.1 hd).1
   exact⟨vs[i],by simp[execOp,ho,e,Instr.extract,hlt],hr i d _ hd (IZ hlt)⟩
  ·exact ah
 ·exact ah
theorem xB{x:Operand}(ho:o.op = .nilCheck x):Rule P o vals mm c K (sA vals K):=by
 unfold sA;split
 ·refine ao ?_;intro own g w a m hle hm hr;rw[ho]at hr;have h1:=KY hr;obtain⟨b,c',hid,e1⟩:=bo h1
  exact⟨a.eval x,by simp[execOp,ho,e1],h1⟩
 ·refine ao ?_;intro own g w a m hle hm hr;rw[ho]at hr;have h1:=KY hr;obtain⟨b,c',hid,e1⟩:=eu h1
  exact⟨a.eval x,by simp[execOp,ho,e1],h1⟩
 ·refine ao ?_;intro own g w a m hle hm hr;rw[ho]at hr;have h1:=KY hr;obtain⟨b,q,fn,hb,e1,_⟩:=qa h1
  exact⟨a.eval x,by simp[execOp,ho,e1],h1⟩
 ·exact ah
theorem CN{fn:Fn}{first captured:Array Operand}(ho:o.op = .makeFunc fn first captured):Rule P o vals mm c K (yC vals K fn first.size captured.size):=by
 unfold yC
 have ev:∀(a:Act)(w:World),(execOp a.eval o).run P w = .ok (.value (.func fn (first.map a.eval) (captured.map a.eval))) w:=by intro a w;simp only[execOp,ho,Instr.makeFunc,LM,MO,L8]
 refine au (λhz=>?_) (λ_=>?_)
 ·simp only[KV,decide_eq_true_eq]at hz
  have h1:first = #[]:=QeJ hz.1
  have h2:captured = #[]:=QeJ hz.2;subst h1 h2;refine ao ?_;intro own g w a m hle hm hr
  exact⟨.func fn #[] #[],by simpa using ev a w,.c (.im (.v _ rfl))⟩
 ·refine ao ?_;intro own g w a m hle hm hr;rw[ho]at hr;simp only[Op.operands,QdM,SQ]at hr;obtain⟨hl,hr⟩:=hr;simp only[I3,OD]at hl
  have e1:first.map a.eval=⟨first.toList.map a.eval⟩:=by apply Array.ext';simp
  have e2:captured.map a.eval=⟨captured.toList.map a.eval⟩:=by apply Array.ext';simp
  refine⟨_,ev a w,?_⟩;rw[e1,e2]
  have hfl:first.toList.length=first.size:=by simp
  have hcl:captured.toList.length=captured.size:=by simp
  refine .NM (by simp;omega) (by simp;omega) ?_ ?_
  ·intro k d x h1 h2;rw[MV]at h1;split at h1
   ·exact hr k d x h1 (by rw[ME (by simp;omega)];exact h2)
   ·cases h1
  ·intro k d x h1 h2;rw[OC]at h1;refine hr _ d x h1 ?_
   rw[Nj (by simp)]
   simpa using h2
theorem BI(hT:J5 P T){t:TypeId}{x ix:Operand}(ho:o.op = .index t x ix):Rule P o vals mm c K (zr T vals K t):=by
 unfold zr;split
 ·rename_i l k n ht;refine aC λch hch=>ao ?_;intro own g w a m hle hm hr;rw[ho]at hr;simp only[Op.operands,K7,LG]at hr;obtain⟨h1,h2⟩:=KM hr;obtain⟨h3,h4⟩:=CR hch;have hlt:n.toNat<l.length:=(I0.1 h4).1;have hs:(⟨⟨l⟩⟩:ByteArray).size=l.length:=rfl
  have hg:(⟨⟨l⟩⟩:ByteArray)[n.toNat]? = some ch:=by
   rw[getElem?_pos (⟨⟨l⟩⟩:ByteArray) n.toNat (by rw[hs];exact hlt)]
   congr 1
   exact(I0.1 h4).2
  exact⟨.int .u8 ch.toNat,by simp only[execOp,ho,sL h1,bG h2,LM,Instr.index,asIntOf,MO,L8,run_underlying (hT.und _ _ ht),h3,if_true,hg],LU _ _⟩
 ·exact ah
theorem FD(hT:J5 P T){t:TypeId}{x:Operand}(ho:o.op = .call { callee:=.builtin .len,args:=#[x],argTypes:=#[t] }):Rule P o vals mm c K (ZL T vals mm K t):=by
 have key:∀{a:Act}{w:World}(n:Int),(Builtin.len_ #[t] o.type #[a.eval x]).run P w = .ok (.int .i64 n) w→(execOp a.eval o).run P w = .ok (.value (.int .i64 n)) w:=by intro a w n e;simp only[execOp,ho,resolve,invoke,builtin,LM,MO,L8,QeF,K7,LG,e]
 have one:∀{a:Act}{d:Dat F}{g:G}{w:World},Kq P g w [d] (o.op.operands.toList.map a.eval)→J4 P g w d (a.eval x):=by intro a d g w hr;rw[ho]at hr;exact KY hr
 unfold ZL;split
 ·rename_i ht;refine ao ?_;intro own g w a m hle hm hr
  exact⟨_,key _ (by simp[Builtin.len_,run_underlying (hT.und _ _ ht),sL (one hr),goInt];rfl),LU _ _⟩
 ·rename_i ht;refine ao ?_;intro own g w a m hle hm hr;refine⟨_,key _ ?_,LU _ _⟩;rcases rJ (sv (one hr))with⟨rfl,p,e⟩ | ⟨b,q,cap,fn,_,_,_,e,_⟩
  ·simp[Builtin.len_,run_underlying (hT.und _ _ ht),e,goInt]
  ·simp[Builtin.len_,run_underlying (hT.und _ _ ht),e,goInt]
 ·rename_i ht;refine ao ?_;intro own g w a m hle hm hr;obtain⟨p,e⟩:=mu (one hr)
  exact⟨_,key _ (by simp[Builtin.len_,run_underlying (hT.und _ _ ht),e,goInt]),LU _ _⟩
 ·rename_i id ht;split
  ·rename_i t' l hrow;refine ao ?_;intro own g w a m hle hm hr;refine⟨_,key _ ?_,LU _ _⟩;rcases a_ (aV (one hr))with⟨hid,p,e⟩ | ⟨b,c',len,hid,h5,h6,e⟩
   ·rcases hm.ok id _ (hle _ _ hrow)with⟨_,rfl⟩ | ⟨_,_,_,_,k1,_⟩
    ·simp[Builtin.len_,run_underlying (hT.und _ _ ht),e,goInt]
    ·rw[hid]at k1;cases k1
   ·obtain⟨rfl,_,_⟩:=bX hm (hle _ _ hrow) hid;simp[Builtin.len_,run_underlying (hT.und _ _ ht),e,goInt]
  ·rename_i t' l hrow;refine ao ?_;intro own g w a m hle hm hr;refine⟨_,key _ ?_,LU _ _⟩;rcases a_ (aV (one hr))with⟨hid,p,e⟩ | ⟨b,c',len,hid,h5,h6,e⟩
   ·rcases hm.ok id _ (hle _ _ hrow)with⟨_,rfl⟩ | ⟨_,_,_,k1,_⟩
    ·simp[Builtin.len_,run_underlying (hT.und _ _ ht),e,goInt]
    ·rw[hid]at k1;cases k1
   ·obtain⟨_,rfl,_⟩:=mo hm (hle _ _ hrow) hid;simp[Builtin.len_,run_underlying (hT.und _ _ ht),e,goInt]
  ·rename_i t' l hrow;refine ao ?_;intro own g w a m hle hm hr;refine⟨_,key _ ?_,LU _ _⟩;rcases a_ (aV (one hr))with⟨hid,p,e⟩ | ⟨b,c',len,hid,h5,h6,e⟩
   ·obtain⟨pl,k1,k2⟩:=hm.ok id _ (hle _ _ hrow);rw[hid]at k1;cases k1;have k2:l = []:=k2;subst k2;simp[Builtin.len_,run_underlying (hT.und _ _ ht),e,goInt]
   ·obtain⟨k1,_⟩:=fp hm (hle _ _ hrow) hid;simp[Builtin.len_,run_underlying (hT.und _ _ ht),e,goInt,k1]
  ·rename_i t' l _ _ hrow;refine ao ?_;intro own g w a m hle hm hr;refine⟨_,key _ ?_,LU _ _⟩;rcases a_ (aV (one hr))with⟨hid,p,e⟩ | ⟨b,c',len,hid,h5,h6,e⟩
   ·obtain⟨pl,k1,k2⟩:=hm.ok id _ (hle _ _ hrow);rw[hid]at k1;cases k1;have k2:l = []:=k2;subst k2;simp[Builtin.len_,run_underlying (hT.und _ _ ht),e,goInt]
   ·obtain⟨pl,k1,k2⟩:=hm.ok id _ (hle _ _ hrow);rw[hid]at k1;cases k1;have k1:=k2.1;simp[Builtin.len_,run_underlying (hT.und _ _ ht),e,goInt,k1]
  ·rename_i t' l _ hrow;refine ao ?_;intro own g w a m hle hm hr;refine⟨_,key _ ?_,LU _ _⟩;rcases a_ (aV (one hr))with⟨hid,p,e⟩ | ⟨b,c',len,hid,h5,h6,e⟩
   ·obtain⟨pl,k1,k2⟩:=hm.ok id _ (hle _ _ hrow);rw[hid]at k1;cases k1;have k2:l = []:=k2;subst k2;simp[Builtin.len_,run_underlying (hT.und _ _ ht),e,goInt]
   ·obtain⟨pl,k1,k2⟩:=hm.ok id _ (hle _ _ hrow);rw[hid]at k1;cases k1;have k1:=k2.1;simp[Builtin.len_,run_underlying (hT.und _ _ ht),e,goInt,k1]
  ·exact ah
 ·rename_i ht;refine ao ?_;intro own g w a m hle hm hr;refine⟨_,key _ ?_,LU _ _⟩;rcases lg (aV (one hr))with⟨_,_,rfl,p,e⟩ | ⟨b,c',len,q,_,_,_,_,_,e⟩
  ·simp[Builtin.len_,run_underlying (hT.und _ _ ht),e,goInt]
  ·simp[Builtin.len_,run_underlying (hT.und _ _ ht),e,goInt]
 ·rename_i ht;refine ao ?_;intro own g w a m hle hm hr;obtain⟨b,c',_,_,e⟩:=wq (one hr)
  exact⟨_,key _ (by simp[Builtin.len_,run_underlying (hT.und _ _ ht),e,goInt]),LU _ _⟩
 ·rename_i ht;refine ao ?_;intro own g w a m hle hm hr
  exact⟨_,key _ (by simp[Builtin.len_,run_underlying (hT.und _ _ ht),goInt]),LU _ _⟩
 ·rename_i id ht;split
  ·rename_i t' l hrow;refine ao ?_;intro own g w a m hle hm hr;refine⟨_,key _ ?_,LU _ _⟩;obtain⟨b,h1,es,h2,h3,h4⟩:=hm.ok id _ (hle _ _ hrow)
   obtain⟨b',c',h5,e⟩:∃b c,g.ids id=some (some (b,c))∧a.eval x = .map (some b):=by
    have h0:=aV (one hr);revert h0;generalize a.eval x=v;intro h0
    cases h0 with | Og h=>exact⟨_,_,h,rfl⟩
   rw[h1]at h5;cases h5;simp[Builtin.len_,run_underlying (hT.und _ _ ht),e,goInt,MapKept.run_getObj_map h2,h3]
  ·exact ah
 ·exact ah
theorem wY:∀(l:List Int)(a:List UInt8),l.foldl (λr n=>r.push (UInt8.ofNat n.toNat)) (⟨⟨a⟩⟩:ByteArray)=⟨⟨a++l.map toB⟩⟩
 | [],a=>by simp
 | n::l,a=>by
  have h:(⟨⟨a⟩⟩:ByteArray).push (UInt8.ofNat n.toNat)=⟨⟨a++[toB n]⟩⟩:=by simp[ByteArray.push,toB]
  rw[List.foldl_cons,h,wY l];simp
theorem xe{b q cap:Nat}{l:List Int}(hc:∀k,(h:k<l.length)→w.cell? ⟨b,q+k,none⟩=some (.int .u8 l[k])) :
  (Conv.bytesToString (.slice (some ⟨b,q,none⟩) l.length cap)).run P w = .ok (.string ⟨⟨l.map toB⟩⟩) w:=by
 have hrun:=run_loadCells (P:=P) w ⟨b,q,none⟩ l.length (λj=>.int .u8 (l.getD j 0)) (by intro j hj;rw[Addr.add_lit,hc j hj];simp[hj])
 have hl:(List.range l.length).map (λj=>Value.int .u8 (l.getD j 0))=l.map (Value.int .u8):=by
  apply List.ext_getElem
  ·simp
  ·intro i h1 h2;simp at h1;simp[h1]
 rw[hl]at hrun;rw[run_bytesToString w ⟨b,q,none⟩ l.length cap l hrun];have e0:ByteArray.empty=(⟨⟨[]⟩⟩:ByteArray):=rfl;rw[e0,wY];simp
theorem Df(hT:J5 P T){s d:TypeId}{x:Operand}(ho:o.op = .convert s d x):Rule P o vals mm c K (VD T vals mm K s d):=by
 have key:∀{e:TypeId}{a:Act}{w:World}{p:Option Addr} {n cap:Nat} {v:Value},P.underlying s=some (.slice e)→P.underlying e=some (.int .u8)→P.underlying d=some .string→a.eval x = .slice p n cap→
   (Conv.bytesToString (.slice p n cap)).run P w = .ok v w→(execOp a.eval o).run P w = .ok (.value v) w:=by
  intro e a w p n cap v h1 h2 h3 h4 h5;simp only[execOp,ho,h4,LM,run_convert_bytes_string w s d e p n cap h1 h2 h3,h5,L8,MO]
 have nil:∀{w:World}{p:Option Addr}{cap:Nat},(Conv.bytesToString (.slice p 0 cap)).run P w = .ok (.string ⟨⟨[]⟩⟩) w:=by
  intro w p cap
  cases p<;>simp[Conv.bytesToString,loadCells,loadCellsFrom,MO,LM]<;>rfl
 unfold VD;split
 ·rename_i hs hd;refine ao ?_;intro own g w a m _ _ hr;rw[ho]at hr;have e:=bG (KY hr)
  exact⟨_,by simp[execOp,ho,e,convert,run_underlying (hT.und _ _ hs),run_underlying (hT.und _ _ hd),Conv.intToInt],LU _ _⟩
 ·rename_i hs hd;refine ao ?_;intro own g w a m _ _ hr;rw[ho]at hr;have e:=sL (KY hr)
  exact⟨_,by simp[execOp,ho,e,convert,run_underlying (hT.und _ _ hs),run_underlying (hT.und _ _ hd)],Ti _⟩
 ·rename_i id hs hd;split
  ·rename_i he;split
   ·rename_i l hrow;refine ao ?_;intro own g w a m hle hm hr;rw[ho]at hr;have hr:=aV (KY hr);rcases a_ hr with⟨hid,p,e⟩ | ⟨b,c',len,hid,h5,h6,e⟩
    ·rcases hm.ok id _ (hle _ _ hrow)with⟨_,rfl⟩ | ⟨_,_,_,_,k1,_⟩
     ·exact⟨_,key (hT.und _ _ hs) (hT.und _ _ he) (hT.und _ _ hd) e nil,Ti _⟩
     ·rw[hid]at k1;cases k1
    ·obtain⟨rfl,_,hcell⟩:=bX hm (hle _ _ hrow) hid;refine⟨_,key (hT.und _ _ hs) (hT.und _ _ he) (hT.und _ _ hd) e (xe λk hk=>?_),Ti _⟩;have h1:(cells F (.int .u8) l)[k*Jm F (.int .u8)+0]? = some (.i .u8 l[k]):=aS (IZ hk) rfl
     have h1:(cells F (.int .u8) l)[k]? = some (.i .u8 l[k]):=by simpa[Jm]using h1
     obtain⟨x,hx,hrep⟩:=hcell k _ h1;cases hrep;rw[L_];exact hx
   ·exact ah
  ·exact ah
 ·rename_i l hs hd;split
  ·rename_i he;refine ao ?_;intro own g w a m hle hm hr;rw[ho]at hr;rcases rJ (sv (KY hr))with⟨rfl,p,e⟩ | ⟨b,q,cap,f,_,_,_,e,hcell,hrep⟩
   ·exact⟨_,key (hT.und _ _ hs) (hT.und _ _ he) (hT.und _ _ hd) e nil,Ti _⟩
   ·refine⟨_,key (hT.und _ _ hs) (hT.und _ _ he) (hT.und _ _ hd) e (xe λk hk=>?_),Ti _⟩;have h1:(cells F (.int .u8) l)[k*Jm F (.int .u8)+0]? = some (.i .u8 l[k]):=aS (IZ hk) rfl
    have h1:(cells F (.int .u8) l)[k]? = some (.i .u8 l[k]):=by simpa[Jm]using h1
    rw[hcell k _ h1];have hk2:=hrep k _ h1;generalize f k=v at hk2;cases hk2;rfl
  ·exact ah
 ·exact ah
end
set_option linter.unusedVariables false
set_option linter.unusedSimpArgs false
section
variable{F:Fam}{P:Program}{T:TypeId→Option (TI F)}{o:Oper}{vals:List (Dat F)}{mm:Nat→Option (J8 F)}{c:Nat}{R:Type}{K:Oy F→Option R}{own:Ow}{g:G}{w:World}{m:Nat→Option (J8 F)}
theorem yL(fn:Int→Int→Int)(step:Value→Value→Sem Value)(hs:∀(k:IntKind)(x y:Int)(w:World),(step (.int k x) (.int k y)).run P w = .ok (.int k (fn x y)) w) :
  ∀(l:List (Dat F)) (vs:List Value) (k:IntKind) (n r:Int),pV fn k n l=some r→vs.length=l.length→(∀(j:Nat)(d:Dat F)(x:Value),l[j]? = some d→vs[j]? = some x→J4 P g w d x)→
   (vs.foldlM step (.int k n)).run P w = .ok (.int k r) w:=by
 intro l
 induction l with
 | nil=>
  intro vs k n r h hl _
  have:vs = []:=O9 (by simpa using hl)
  subst this;simp only[pV,K3]at h;subst h;simp
 | cons d l ih=>
  intro vs k n r h hl hr;unfold pV at h;split at h
  ·rename_i heq;cases heq
  ·rename_i k' m' l' heq;simp only[QeW]at heq;obtain⟨rfl,rfl⟩:=heq;split at h
   ·rename_i hk;subst hk
    match vs,hl with
    | v::vs,hl=>
     have hv:=bG (hr 0 _ v rfl rfl);subst hv;simp only[List.foldlM_cons,LM,hs,L8]
     exact ih vs k (fn n m') r h (by simpa using hl) (λj d x h1 h2=>hr (j+1) d x (by simpa using h1) (by simpa using h2))
   ·cases h
  ·cases h
theorem wG{mx:Bool}{args:Array Operand}{ats:Array TypeId}(ho:o.op = .call { callee:=.builtin (if mx then .max else .min),args,argTypes:=ats }) :
  Rule P o vals mm c K (TK vals K (if mx then imax else Oj)):=by
 unfold TK;split
 ·rename_i k n0 l;split
  ·rename_i n hn;refine ao ?_;intro own g w a m hle hm hr;rw[ho]at hr
   have hargs:(Op.call { callee:=.builtin (if mx then .max else .min),args,argTypes:=ats }).operands.toList.map a.eval=(args.map a.eval).toList:=by simp[Op.operands,Call.operands]
   rw[hargs]at hr
   cases hvs:(args.map a.eval).toList with
   | nil=>rw[hvs]at hr;have:=hr.1;simp at this
   | cons v vs=>
    rw[hvs,aP]at hr;have hv:=bG hr.1;subst hv;obtain⟨hl,hr'⟩:=hr.2;refine⟨.int k n,?_,LU _ _⟩
    cases mx with
    | true=>
     have:=yL (P:=P) (g:=g) (w:=w) imax Builtin.max2 (λk x y w=>by simp[Builtin.max2,imax]) l vs k n0 n hn hl hr'
     simp only[execOp,ho,resolve,invoke,builtin,LM,MO,L8,if_true,Builtin.max_,hvs,this]
    | false=>
     have:=yL (P:=P) (g:=g) (w:=w) Oj Builtin.min2 (λk x y w=>by simp[Builtin.min2,Oj]) l vs k n0 n hn hl hr'
     simp only[execOp,ho,resolve,invoke,builtin,LM,MO,L8,Ni,if_false,Builtin.min_,hvs,this]
  ·exact ah
 ·exact ah
theorem kG(isSlice:Bool)(len cap:Nat)(lo hi:Option Value)(x y:Int)(hlo:(lo=none∧x=0)∨∃k,lo=some (.int k x))(hhi:(hi=none∧y=len)∨∃k,hi=some (.int k y))
  (h0:0≤x) (hxy:x≤y) (hy:y≤cap):(Instr.sliceBounds isSlice len cap lo hi none).run P w = .ok (x.toNat,y.toNat,cap) w:=by
 have hb:∀(k:IntKind)(n:Int)(c:Nat)(code:BoundsCode),0≤n→n≤c→(Instr.sliceBound (.int k n) c code).run P w = .ok n.toNat w:=by intro k n c code h1 h2;simp[Instr.sliceBound,asIntOf,h1,h2]
 have hyn:(y.toNat:Int)=y:=QeI (by omega)
 rcases hlo with⟨rfl,rfl⟩ | ⟨k,rfl⟩<;>rcases hhi with⟨rfl,rfl⟩ | ⟨k',rfl⟩
 ·simp[Instr.sliceBounds]
 ·simp[Instr.sliceBounds,hb k' y cap _ (by omega) hy]
 ·simp only[Instr.sliceBounds,LM,MO,L8];rw[hb k x len _ h0 hxy];simp
 ·simp only[Instr.sliceBounds,LM,MO,L8]
  rw[hb k' y cap _ (by omega) hy]
  simp only[L8]
  rw[hb k x y.toNat _ h0 (by rw[hyn];exact hxy)]
  simp
theorem BE(l:List UInt8)(i j:Nat):(⟨⟨l⟩⟩:ByteArray).extract i j=⟨⟨(l.take j).drop i⟩⟩:=by apply ByteArray.ext;apply Array.ext';simp[List.extract_eq_take_drop,List.drop_take]
theorem AI{α : Type}{l r:List α}{a b:Int}(h:slc l a b=some r):r=sub l a.toNat (b.toNat - a.toNat):=by obtain⟨_,_,_,rfl⟩:=vE h;simp[sub,List.drop_take]
theorem u_{t:Ty}{l:List (ET F t)}{v:Value}(hv:Ju w g.I7 (.sl t l) v){p q:Nat}(hpq:p≤q)(hq:q≤l.length) :
  ∃ptr cap,v = .slice ptr l.length cap∧q≤cap∧Ju w g.I7 (.sl t (sub l p (q - p))) (.slice (if cap=p then ptr else ptr.map (·.add (p*Jm F t))) (q - p) (cap - p)):=by
 rcases rJ hv with⟨rfl,ptr,rfl⟩ | ⟨b,o,cap,f,hb,hcap,hmx,rfl,hc,hr⟩
 ·refine⟨ptr,0,rfl,by simpa using hq,?_⟩
  simp only[QeK]at hq
  have h1:p=0:=by omega
  have h2:q=0:=by omega
  subst h1 h2;simp only[sub,List.drop_nil,List.take_nil,Nat.sub_self,if_true];exact .sl0 t ptr
 ·refine⟨_,cap,rfl,by omega,?_⟩
  have hlen:(sub l p (q - p)).length=q - p:=by simp only[sub,Lj,Nh];omega
  have mk:∀(b' o':Nat)(f':Nat→Value),g.I7 b'→(∀k d,(cells F t (sub l p (q - p)))[k]? = some d→w.cell? ⟨b',o'+k,none⟩=some (f' k))→(∀k d,(cells F t (sub l p (q - p)))[k]? = some d→Ju w g.I7 d (f' k))→
    Ju w g.I7 (.sl t (sub l p (q - p))) (.slice (some ⟨b',o',none⟩) (q - p) (cap - p)):=by
   intro b' o' f' h1 h2 h3
   have:=Ju.sl (F:=F) (w:=w) (I7:=g.I7) t (sub l p (q - p)) b' o' (cap - p) f' h1 (by omega) (by omega) h2 h3
   rwa [hlen]at this
  split
  ·refine mk b o f hb ?_ ?_
   all_goals
    intro k d hk
    have h0:q - p=0:=by omega
    rw[h0]at hk;simp[sub,cells]at hk
  ·simp only[S_,Addr.add_lit];refine mk b (o+p*Jm F t) (λk=>f (p*Jm F t+k)) hb ?_ ?_
   ·intro k d hk;rw[PD];exact hc _ d (gJ hk)
   ·intro k d hk;exact hr _ d (gJ hk)
theorem B5(hT:J5 P T){t:TypeId}{x:Operand}{lo hi:Option Operand}(ho:o.op = .slice t x lo hi none) :
  Rule P o vals mm c K (yq T vals mm K t (ob lo 1) (ob hi (Ud lo))):=by
 have hops:∀a:Act,o.op.operands.toList.map a.eval=a.eval x::((lo.map a.eval).toList++(hi.map a.eval).toList):=by
  intro a;rw[ho]
  cases lo<;>cases hi<;>simp[Op.operands]
 have hlo:∀{dflt n:Int}{a:Act}{g:G}{w:World},Kq P g w vals (o.op.operands.toList.map a.eval)→bound vals (ob lo 1) dflt=some n→(lo.map a.eval=none∧n=dflt)∨∃k,lo.map a.eval=some (.int k n):=by
  intro dflt n a g w hr hh;rw[hops]at hr
  cases lo with
  | none=>simp only[ob,bound,K3]at hh;exact .inl ⟨rfl,hh.symm⟩
  | some l=>
   simp only[ob,bound]at hh;split at hh
   ·rename_i k n' hq;cases hh
    have:=hr.2 1 _ (a.eval l) hq (by simp)
    exact .inr ⟨k,by rw[S_,bG this]⟩
   ·cases hh
 have hhi:∀{dflt n:Int}{a:Act}{g:G}{w:World},Kq P g w vals (o.op.operands.toList.map a.eval)→bound vals (ob hi (Ud lo)) dflt=some n→(hi.map a.eval=none∧n=dflt)∨∃k,hi.map a.eval=some (.int k n):=by
  intro dflt n a g w hr hh;rw[hops]at hr
  cases hi with
  | none=>simp only[ob,bound,K3]at hh;exact .inl ⟨rfl,hh.symm⟩
  | some l=>
   simp only[ob,bound]at hh;split at hh
   ·rename_i k n' hq;cases hh
    have:=hr.2 _ _ (a.eval l) hq (by cases lo<;>simp[Ud])
    exact .inr ⟨k,by rw[S_,bG this]⟩
   ·cases hh
 have hx0:∀{d:Dat F}{a:Act}{g:G}{w:World},Kq P g w vals (o.op.operands.toList.map a.eval)→vals[0]? = some d→J4 P g w d (a.eval x):=by intro d a g w hr hd;rw[hops]at hr;exact hr.2 0 d _ hd rfl
 have run:∀{w:World}{a:Act}{e:TypeId}{i te:TI F} {ptr:Option Addr} {len cap:Nat} {p q:Int},T t=some i→i.desc = .slice e→T e=some te→a.eval x = .slice ptr len cap→
   ((lo.map a.eval=none∧p=0)∨∃k,lo.map a.eval=some (.int k p))→((hi.map a.eval=none∧q=len)∨∃k,hi.map a.eval=some (.int k q))→0≤p→p≤q→q≤cap→
   (execOp a.eval o).run P w = .ok (.value (.slice (if cap=p.toNat then ptr else ptr.map (·.add (p.toNat*te.size))) (q.toNat - p.toNat) (cap - p.toNat))) w:=by
  intro w a e i te ptr len cap p q hi' hd hte e1 h1 h2 h3 h4 h5;have hu:=hT.und _ _ hi';rw[hd]at hu;have hr:=kG (P:=P) (w:=w) true len cap (lo.map a.eval) (hi.map a.eval) p q h1 h2 h3 h4 h5;simp only[execOp,ho,Instr.sliceAt,Instr.slice,LM,run_underlying hu,L8,e1,Option.map_none];rw[hr];simp only[L8,bA hT hte,MO]
 unfold yq;split
 ·rename_i l ht h0;split
  ·rename_i p q hp hq;refine aC λr hr=>ao ?_;intro own g w a m hle hm hrep;obtain⟨c1,c2,c3,rfl⟩:=vE hr;have hs:(⟨⟨l⟩⟩:ByteArray).size=l.length:=rfl;have hb:=kG (P:=P) (w:=w) false l.length l.length (lo.map a.eval) (hi.map a.eval) p q (hlo hrep hp) (hhi hrep hq) c1 c2 c3;refine⟨_,?_,Ti _⟩;simp only[execOp,ho,Instr.sliceAt,Instr.slice,LM,run_underlying (hT.und _ _ ht),L8,sL (hx0 hrep h0),Option.map_none,Option.isSome_none,Ni,if_false,hs,MO];rw[hb];simp only[L8,BE]
  ·exact ah
 ·rename_i e _ _ _ _ _ y ht h0;split
  ·exact ah
  ·rename_i te hte;split
   ·rename_i t' l;refine au (λhsz=>?_) (λ_=>ah);split
    ·rename_i p q hp hq;refine aC λr hr=>ao ?_;intro own g w a m hle hm hrep;obtain⟨c1,c2,c3,_⟩:=vE hr;rw[AI hr]
     obtain⟨ptr,cap,ev,h5,h6⟩:=u_ (sv (hx0 hrep h0)) (p:=p.toNat) (q:=q.toNat) (by omega) (by omega)
     rw[hsz]at h6
     exact⟨_,run ht rfl hte ev (hlo hrep hp) (hhi hrep hq) c1 c2 (by omega),.c (.im h6)⟩
    ·exact ah
   ·rename_i id;split
    ·rename_i t' l hrow;refine au (λhsz=>?_) (λ_=>ah);split
     ·rename_i p q hp hq;refine aC λpr hr=>ao ?_;intro own g w a m hle hm hrep;obtain⟨c1,c2,c3,rfl⟩:=Dw hr;rcases a_ (aV (hx0 hrep h0))with⟨hid,ptr,ev⟩ | ⟨b,c',len,hid,h5,h6,ev⟩
      ·rcases hm.ok id _ (hle _ _ hrow)with⟨_,rfl⟩ | ⟨_,_,_,_,k1,_⟩
       ·simp only[QeK]at c3 hq
        have hp0:p=0:=by omega
        have hq0:q=0:=by omega
        have hr:=run (w:=w) ht rfl hte ev (hlo hrep hp) (hhi hrep hq) c1 c2 (by omega)
        subst hp0 hq0
        exact⟨_,hr,by simpa using .c (.OW ptr hid)⟩
       ·rw[hid]at k1;cases k1
      ·obtain⟨rfl,h7,_⟩:=bX hm (hle _ _ hrow) hid
       have hr:=run (w:=w) ht rfl hte ev (hlo hrep hp) (hhi hrep hq) c1 c2 (by omega)
       refine⟨_,hr,.c ?_⟩;by_cases hpc:c'=p.toNat
       ·rw[if_pos hpc]
        refine .Ny hid (by omega) h7 ?_ h6
        by_cases h0:c'=0
        ·right;rw[← hpc,h0];simp
        ·left;omega
       ·rw[if_neg hpc,S_,Addr.add_lit,L_]
        exact .Ny hid (by omega) h7 (.inr rfl) h6
     ·exact ah
    ·rename_i t' l hrow;refine au (λhsz=>?_) (λ_=>ah);split
     ·rename_i p q hp hq;refine aC λr hr=>ao ?_;intro own g w a m hle hm hrep;obtain⟨c1,c2,c3,_⟩:=vE hr;rw[AI hr]
      obtain⟨ptr,cap,ev,h5,h6⟩:=u_ (oX hm (hle _ _ hrow) (aV (hx0 hrep h0))) (p:=p.toNat) (q:=q.toNat) (by omega) (by omega)
      rw[hsz]at h6
      exact⟨_,run ht rfl hte ev (hlo hrep hp) (hhi hrep hq) c1 c2 (by omega),.c (.im h6)⟩
     ·exact ah
    ·exact ah
   ·exact ah
 ·exact ah
theorem Da{v:Value}(h:v.oneCell'=true):v.cells = #[v]:=by
 cases v<;>first | rfl | simp[Value.oneCell']at h
theorem ia{d:Dat F}{v:Value}(h:J4 P g w d v)(hn:d.cells.all Kv.NA=true)(hne:0<d.cells.length) :
  v.cells.toList.length=d.cells.length∧(∀(k:Nat)(c:Kv F)(x:Value),d.cells[k]? = some c→v.cells.toList[k]? = some x→Ka g w c x)∧∀x∈v.cells.toList,x.oneCell'=true:=by
 cases d with
 | c x=>
  cases h with
  | c h=>
   have hx:x≠.any:=by rintro rfl;simp[Dat.cells,Kv.NA]at hn
   have h1:=h.oneCell hx;rw[Da h1]
   refine⟨rfl,?_,by simpa using h1⟩
   intro k c y h2 h3
   cases k with
   | zero=>simp only[Dat.cells,M9,K3]at h2 h3;subst h2 h3;exact h
   | succ k=>simp[Dat.cells]at h2
 | agg cs=>
  obtain⟨vs,rfl,hl,hr⟩:=kZ h
  refine⟨by simpa[Value.cells,Dat.cells]using hl,by simpa[Value.cells,Dat.cells]using hr,?_⟩
  intro x hx;simp only[Value.cells]at hx;obtain⟨k,hk⟩:=RL hx
  have hlt:k<cs.length:=by rw[← hl];exact(I0.1 hk).1
  have hc:=hr k _ x (IZ hlt) hk;refine hc.oneCell ?_;intro e
  have:=Oe.1 hn cs[k] (by simp[Dat.cells])
  rw[e]at this;simp[Kv.NA]at this
 | MI ds=>simp[Dat.cells]at hne
 | NM fn fs cs=>simp[Dat.cells]at hne
 | gh id=>simp[Dat.cells]at hne
 | fv ks r φ=>simp[Dat.cells]at hne
theorem xW(off:Nat):∀(l:List Value)(i:Nat)(arr:List Value),off+i+l.length≤arr.length→
  (l.zipIdx i).foldl (λ(cs:Array Value)(p:Value×Nat)=>cs.setIfInBounds (off+p.2) p.1) ⟨arr⟩=⟨arr.take (off+i)++l++arr.drop (off+i+l.length)⟩
 | [],i,arr,_=>by simp
 | v::l,i,arr,h=>by
  simp only[List.zipIdx_cons,List.foldl_cons]
  have e:(⟨arr⟩:Array Value).setIfInBounds (off+i) v=⟨arr.set (off+i) v⟩:=by apply Array.ext';simp
  rw[e,xW off l (i+1) (arr.set (off+i) v) (by simp at h ⊢;omega)]
  congr 1
  have e2:=list_seg_step arr (off+i) v l (by simp at h;omega)
  simpa[PD]using e2
theorem CU(off:Nat)(v:Value)(arr:List Value)(h:off+v.cells.size≤arr.length) :
  v.cells.zipIdx.foldl (λ(cs:Array Value)(p:Value×Nat)=>cs.setIfInBounds (off+p.2) p.1) ⟨arr⟩=⟨arr.take off++v.cells.toList++arr.drop (off+v.cells.size)⟩:=by
 have:=xW off v.cells.toList 0 arr (by simpa using h)
 rw[← Array.foldl_toList];simpa using this
theorem Ap{cs ds:List (Kv F)}{xs ys:List Value}{off:Nat}(hl:xs.length=cs.length)(hr:∀(k:Nat)(c:Kv F)(x:Value),cs[k]? = some c→xs[k]? = some x→Ka g w c x)
  (kl:ys.length=ds.length) (kr:∀(k:Nat)(c:Kv F)(x:Value),ds[k]? = some c→ys[k]? = some x→Ka g w c x) :
  (xs.take off++ys++xs.drop (off+ys.length)).length=(cs.take off++ds++cs.drop (off+ds.length)).length∧
  ∀(k:Nat)(c:Kv F)(x:Value),(cs.take off++ds++cs.drop (off+ds.length))[k]? = some c→(xs.take off++ys++xs.drop (off+ys.length))[k]? = some x→Ka g w c x:=by
 constructor
 ·simp[hl,kl]
 ·intro k c x h1 h2
  have e1:(xs.take off).length=(cs.take off).length:=by simp[hl]
  rw[MK]at h1 h2;by_cases hk:k<(cs.take off).length
  ·rw[ME hk]at h1
   rw[ME (by rw[e1];exact hk)]at h2
   rw[MV]at h1 h2;split at h1
   ·rename_i hk2;rw[if_pos hk2]at h2;exact hr k c x h1 h2
   ·cases h1
  ·rw[Nj (by omega)]at h1
   rw[Nj (by omega)]at h2
   rw[e1]at h2;by_cases hk2:k - (cs.take off).length<ds.length
   ·rw[ME hk2]at h1
    rw[ME (by rw[kl];exact hk2)]at h2
    exact kr _ c x h1 h2
   ·rw[Nj (by omega)]at h1
    rw[Nj (by omega)]at h2
    rw[OC]at h1 h2;rw[kl]at h2;exact hr _ c x h1 h2
theorem uH(place:Nat→Option (Nat×Nat)):∀(ps:List (Nat×Dat F)) (vs:List (Nat×Value)) (cs cs':List (Kv F)) (arr:List Value),lay place cs ps=some cs'→
  vs.map (·.1)=ps.map (·.1)→(∀(k:Nat)(d:Nat×Dat F)(x:Nat×Value),ps[k]? = some d→vs[k]? = some x→J4 P g w d.2 x.2)→
  arr.length=cs.length→(∀(k:Nat)(c:Kv F)(x:Value),cs[k]? = some c→arr[k]? = some x→Ka g w c x)→
  ∃arr':List Value,Instr.fill place ⟨arr⟩ vs=some ⟨arr'⟩∧arr'.length=cs'.length∧cs'.length=cs.length∧∀(k:Nat)(c:Kv F)(x:Value),cs'[k]? = some c→arr'[k]? = some x→Ka g w c x
 | [],vs,cs,cs',arr,h,hv,_,hl,hr=>by
  have:vs = []:=by simpa using hv
  subst this;simp only[lay,K3]at h;subst h;exact⟨arr,rfl,hl,rfl,hr⟩
 | (i,d)::ps,vs,cs,cs',arr,h,hv,hd,hl,hr=>by
  match vs,hv with
  | (j,v)::vs,hv=>
   simp only[K7,QeW]at hv;obtain⟨rfl,hv2⟩:=hv;unfold lay at h
   cases hp:place j with
   | none=>rw[hp]at h;cases h
   | some q=>
    obtain⟨off,size⟩:=q;rw[hp]at h;dsimp only at h;split at h
    ·rename_i hc;simp only[KV,decide_eq_true_eq,M4]at hc;obtain⟨⟨⟨h1,h2⟩,h3⟩,h4⟩:=hc;have h2:=P9 h2;have hvd:=hd 0 (j,d) (j,v) rfl rfl
     obtain⟨c1,c2,c3⟩:=ia (d:=d) (v:=v) hvd h3 (by omega)
     have hsz:v.cells.size=size:=by rw[← SV,c1,h1]
     have hle:off+size≤arr.length:=by omega
     have hseg:=Ap (off:=off) hl hr c1 c2;have e1:v.cells.toList.length=v.cells.size:=SV;rw[h1]at hseg;rw[e1,hsz]at hseg;obtain⟨arr',r1,r2,r3,r4⟩:=uH place ps vs _ cs' (arr.take off++v.cells.toList++arr.drop (off+size)) h hv2 (λk d x a b=>hd (k+1) d x a b) hseg.1 hseg.2;refine⟨arr',?_,r2,?_,r4⟩
     ·unfold Instr.fill;rw[hp];dsimp only
      rw[if_neg (by simp[hsz];omega)]
      have:=CU off v arr (by omega)
      rw[hsz]at this;rw[this];exact r1
     ·rw[r3];simp[h1];omega
    ·cases h
theorem qX(hT:J5 P T):∀(fs:List Field)(pl:List (Nat×Nat)),oP T fs=some pl→fs.mapM (λf=>(P.info? f.type).map λi=>(f.offset,i.size))=some pl
 | [],pl,h=>by simp only[oP,K3]at h;subst h;rfl
 | f::fs,pl,h=>by
  simp only[oP]at h;split at h
  ·cases h
  ·rename_i ti hti;split at h
   ·cases h
   ·rename_i r hr;cases h;obtain⟨j,hj,hs,_⟩:=hT.info _ _ hti;simp[List.mapM_cons,hj,hs,qX hT fs r hr]
theorem vn(hT:J5 P T){t:TypeId}{ti:TI F}(ht:T t=some ti):∃(j:TypeInfo)(z:Value),P.info? t=some j∧j.zero=some z∧z.cells.toList.length=(ti.zero.map (Kv.im (F:=F))).length∧
  ∀(w:World)(g:G)(k:Nat)(c:Kv F) (x:Value),(ti.zero.map Kv.im)[k]? = some c→z.cells.toList[k]? = some x→Ka g w c x:=by
 obtain⟨j,hj,hs,hb,z,hz,hzs,hzl,hr⟩:=hT.info t ti ht
 refine⟨j,z,hj,hz,by rw[SV,hzs,OD,hzl],?_⟩
 intro w g k c x h1 h2;obtain⟨d,hd,rfl⟩:=fD h1
 exact .im (hr w g.I7 k d x hd (by simpa using h2))
theorem rX{a:Act}:∀(parts:List (Nat×Operand)) (vals:List (Dat F)),Kq P g w vals (parts.map λp=>a.eval p.2)→
  (parts.map λ(i,x)=>(i,a.eval x)).map (·.1)=((parts.map (·.1)).zip vals).map (·.1)∧
  ∀(k:Nat)(d:Nat×Dat F)(x:Nat×Value),((parts.map (·.1)).zip vals)[k]? = some d→(parts.map λ(i,x)=>(i,a.eval x))[k]? = some x→J4 P g w d.2 x.2
 | [],vals,h=>by simp
 | p::l,vals,h=>by
  match vals,h with
  | [],h=>have:=h.1;simp at this
  | v::vals,h=>
   simp only[K7,aP]at h;obtain⟨h1,h2⟩:=rX l vals h.2
   refine⟨by simpa using h1,?_⟩
   intro k d x h3 h4
   cases k with
   | zero=>simp only[K7,List.zip_cons_cons,M9,K3]at h3 h4;subst h3 h4;exact h.1
   | succ k=>simp only[K7,List.zip_cons_cons,W_]at h3 h4;exact h2 k d x h3 h4
theorem Bj(hT:J5 P T){t:TypeId}{parts:Array (Nat×Operand)}(ho:o.op = .build t parts):Rule P o vals mm c K (yc T vals K t (parts.toList.map (·.1))):=by
 have fin:∀(place:Nat→Option (Nat×Nat)) (ti:TI F) (cs:List (Kv F)),T t=some ti→(∀cells vs z j,P.info? t=some j→j.zero=some z→Instr.fill place z.cells vs=some cells→P.built t vs=some cells)→
   lay place (ti.zero.map .im) ((parts.toList.map (·.1)).zip vals)=some cs→Rl P o vals mm (.agg cs):=by
  intro place ti cs hti hb hcs own g w a m hle hm hr;rw[ho]at hr
  have hr':Kq P g w vals (parts.toList.map λp=>a.eval p.2):=by
   have:(Op.build t parts).operands.toList.map a.eval=parts.toList.map λp=>a.eval p.2:=by simp[Op.operands,Function.comp_def]
   rwa [this]at hr
  obtain⟨p1,p2⟩:=rX parts.toList vals hr';obtain⟨j,z,hj,hz,hzl,WQ⟩:=vn hT hti;obtain⟨arr,r1,r2,r3,r4⟩:=uH (P:=P) (g:=g) (w:=w) place _ (parts.toList.map λ(i,x)=>(i,a.eval x)) _ cs z.cells.toList hcs p1 p2 hzl (WQ w g)
  have hbt:=hb ⟨arr⟩ (parts.map λ(i,x)=>(i,a.eval x)).toList z j hj hz (by simpa using r1)
  refine⟨.agg ⟨arr⟩,?_,.agg r2 r4⟩;simp only[execOp,ho,LM,run_build w t _ _ hbt,L8,MO]
 unfold yc;split
 ·rename_i fs sz bt zero _ _ ht;split
  ·exact ah
  ·rename_i pl hpl;split
   ·exact ah
   ·rename_i cs hcs;refine ao (fin _ _ cs ht ?_ hcs);intro cells vs z j hj hz hf;have hu:=hT.und _ _ ht;simp only[Program.built,hj,hu,hz,qX hT _ _ hpl];simpa using hf
 ·rename_i n e' sz bt zero _ _ ht;split
  ·exact ah
  ·rename_i te hte;split
   ·exact ah
   ·rename_i cs hcs;refine ao (fin _ _ cs ht ?_ hcs);intro cells vs z j hj hz hf;have hu:=hT.und _ _ ht;obtain⟨j',hj',hs',_⟩:=hT.info _ _ hte;simp only[Program.built,hj,hu,hz,hj',hs'];exact hf
 ·exact ah
end
end Go.Fx
