/-
  The framework, first part: what is known of a frame as typed data;that each operation that makes no call does what the evaluator says. Conditions: none.
-/
import Derived.Calls
import Derived.Orders
import Derived.Below
import Derived.Laws.MakeOwn
import Derived.Laws.Rows
import Derived.Laws.CopyRow
import Derived.Laws.CopyOwn
import Derived.Tactics
import Derived.KernelRfl
import Derived.Laws.StructEq
import Derived.Laws.Strings
import Derived.Laws.BytesString
namespace Go.Fx
open Go
set_option linter.unusedVariables false
set_option linter.unusedSimpArgs false
abbrev Np:=@Bool.and_eq_true
abbrev MN:=@Nat.le_refl
abbrev M9:=@List.map_cons
abbrev NJ:=@Option.some.injEq
abbrev NQ:=@List.getElem_mem
abbrev Nz:=@List.mem_cons
abbrev R3:=@List.take_succ_eq_append_getElem
abbrev Oy:=@List.length_take
abbrev PW:=@List.getElem?_cons_zero
abbrev OM:=@Result.andThen_ok
abbrev RF:=@List.getElem?_append_right
abbrev Rv:=@List.getElem?_append_left
abbrev OB:=@List.mem_append
abbrev Rh:=@Nat.eq_of_beq_eq_true
abbrev Oi:=@List.map_nil
abbrev Rp:=@Nat.mul_le_mul_right
abbrev OA:=@Sem.run_bind
abbrev P5:=@List.append_assoc
abbrev PN:=@List.length_cons
abbrev Py:=@List.length_map
abbrev Rf:=@List.getElem?_map
abbrev PE:=@List.nil_append
abbrev PL:=@List.mem_filter
abbrev OW:=@Nat.zero_add
abbrev Ui:=@List.eq_nil_of_length_eq_zero
abbrev RG:=@List.getElem?_take
abbrev RZ:=@Bool.false_eq_true
abbrev Ro:=@List.length_drop
abbrev PZ:=@Bool.not_true
abbrev PD:=@Sem.run_pure
abbrev UH:=@Array.getD_eq_getD_getElem?
abbrev SV:=@List.pairwise_cons
abbrev Sq:=@List.take_length
abbrev SY:=@List.getElem?_drop
abbrev Rb:=@Nat.le_trans
abbrev Ra:=@List.mem_map
abbrev Um:=@List.length_filter_le
abbrev Uh:=@List.mem_cons_of_mem
abbrev R8:=@List.sum_cons
abbrev Wj:=@Array.getElem?_eq_some_iff
abbrev Td:=@List.all_eq_true
abbrev Tz:=@Int.toNat_natCast
abbrev U4:=@Nat.le_of_ble_eq_true
abbrev Ul:=@List.getElem_of_mem
abbrev Ww:=@List.drop_eq_getElem_cons
abbrev UG:=@Nat.lt_of_lt_of_le
abbrev Wi:=@Option.map_eq_some_iff
abbrev TG:=@List.foldl_cons
abbrev R7:=@Nat.blt_eq
abbrev Wv:=@List.take_of_length_le
abbrev Ug:=@List.nodup_cons
abbrev U3:=@Bool.not_eq_true'
abbrev UF:=@List.cons_append
abbrev UE:=@List.filter_cons
abbrev Wh:=@List.filter_sublist
abbrev UD:=@List.map_append
abbrev UC:=@Bool.or_eq_true
abbrev Wu:=@List.mem_of_getElem?
abbrev Wt:=@Array.length_toList
abbrev TF:=@Nat.succ_mul
abbrev X0:=@List.take_append_drop
abbrev UA:=@Nat.add_assoc
abbrev XT:=@List.getElem?_of_mem
abbrev Vn:=@Bool.not_false
abbrev Yp:=@List.contains_iff_mem
abbrev Ws:=@Option.getD_some
abbrev Vx:=@Option.none_or
abbrev Uk:=@Nat.add_mul
abbrev Uj:=@Int.le_refl
abbrev ZV:=@Option.bind_eq_some_iff
abbrev Wq:=@List.append_nil
abbrev QcQ:=@Array.getElem?_setIfInBounds
abbrev XA:=@Nat.le_succ_of_le
abbrev YD:=@Bool.or_eq_false_iff
abbrev Vm:=@Nat.add_zero
abbrev WV:=@List.length_nil
abbrev ZU:=@List.mem_append_right
abbrev YC:=@List.map_congr_left
abbrev Xz:=@List.getElem_zip
abbrev Z9:=@List.filter_cons_of_neg
abbrev Yo:=@List.nodup_append
abbrev ZP:=@List.mem_append_left
abbrev Xy:=@Option.map_some
abbrev Xx:=@List.length_set
abbrev QdC:=@Option.isSome_iff_exists
abbrev QdD:=@List.perm_append_comm
abbrev YB:=@List.flatten_cons
abbrev ZT:=@List.mem_cons_self
abbrev ZR:=@List.find?_eq_none
abbrev Z8:=@List.length_reverse
abbrev YA:=@Bool.eq_iff_iff
abbrev Z7:=@List.filter_append
abbrev QdK:=@List.getElem?_cons_succ
abbrev QdL:=@List.length_eq_zero_iff
abbrev ZQ:=@List.drop_length
abbrev QdN:=@List.pairwise_append
abbrev QdO:=@List.takeWhile_cons_of_neg
abbrev QdP:=@List.takeWhile_cons_of_pos
abbrev QdQ:=@List.dropWhile_cons_of_pos
abbrev QdR:=@List.takeWhile_append_dropWhile
abbrev QdS:=@List.mem_of_find?_eq_some
abbrev QdT:=@Array.getElem?_toList
abbrev QdU:=@Bool.not_eq_false'
abbrev QdV:=@Nat.pow_le_pow_right
abbrev QdW:=@List.filter_cons_of_pos
abbrev QdX:=@List.mem_map_of_mem
abbrev Yz:=@Nat.beq_refl
abbrev Yy:=@List.map_map
abbrev Qe_:=@List.length_pos_of_mem
abbrev QeA:=@List.filter_eq_nil_iff
abbrev QeB:=@List.dropWhile_cons_of_neg
abbrev QeC:=@Int.tdiv_eq_ediv_of_nonneg
abbrev Z6:=@List.nodup_nil
abbrev Z5:=@List.drop_zero
abbrev QeF:=@List.length_singleton
abbrev QeG:=@List.Perm.append_left
abbrev QeH:=@List.Pairwise.of_cons
abbrev QeI:=@Array.getElem?_eq_getElem
abbrev Yx:=@Nat.zero_le
abbrev QeK:=@List.mem_of_mem_take
abbrev QeL:=@List.length_zip
abbrev QeM:=@List.ext_getElem?
abbrev Z4:=@List.all_cons
abbrev QeO:=@Array.toList_append
abbrev QeP:=@Nat.add_sub_cancel'
abbrev QeQ:=@List.reverse_append
abbrev QeR:=@List.filter_eq_self
abbrev QeS:=@Nat.mul_le_mul
abbrev QeT:=@List.not_mem_nil
abbrev QeU:=@List.getElem_map
abbrev QeV:=@List.countP_eq_length_filter
abbrev QeW:=@List.set_cons_zero
abbrev QeX:=@Nat.mul_min_mul_right
abbrev QeY:=@Bool.and_eq_false_iff
abbrev QeZ:=@List.getElem?_eq_none
abbrev Qf_:=@List.dropWhile_suffix
abbrev QfA:=@Array.getElem?_append_left
abbrev QfB:=@List.filter_congr
abbrev QfC:=@List.range_eq_range'
abbrev QfD:=@List.pairwise_iff_getElem
abbrev QfE:=@List.mem_or_eq_of_mem_set
abbrev QfF:=@List.getElem_append_right
abbrev Z0:=@List.map_id
abbrev QfH:=@Nat.add_comm
abbrev QfI:=@List.length_erase_of_mem
abbrev QfJ:=@Nat.le_of_eq
abbrev QfK:=@Bool.eq_false_or_eq_true
abbrev QfL:=@List.mem_flatMap
abbrev QfM:=@List.getElem_append_left
abbrev QfN:=@Nat.min_self
abbrev QfO:=@List.prefix_of_prefix_length_le
abbrev QfP:=@Nat.add_sub_cancel_left
abbrev QfQ:=@Array.eq_empty_of_size_eq_zero
abbrev QfR:=@Nat.min_eq_left
abbrev QfS:=@List.find?_some
abbrev QfT:=@List.prefix_append
abbrev QfU:=@Nat.le_succ
abbrev QfV:=@List.take_append_of_le_length
abbrev QfW:=@List.pairwise_map
abbrev QfX:=@List.flatMap_cons
abbrev QfY:=@List.find?_append
abbrev QfZ:=@List.singleton_append
abbrev Qg_:=@List.drop_drop
abbrev QgA:=@Int.toNat_zero
abbrev QgB:=@List.set_append_right
abbrev QgC:=@List.mem_of_mem_drop
abbrev QgD:=@List.map_toArray
abbrev QgE:=@List.isEmpty_iff
abbrev QgF:=@List.mem_erase_of_ne
abbrev QgG:=@List.mem_reverse
abbrev QgH:=@Bool.and_true
abbrev QgI:=@List.isPrefixOf_iff_prefix
abbrev QgJ:=@List.getElem?_range
abbrev QgK:=@Int.toNat_of_nonneg
abbrev QgL:=@List.replicate_succ
abbrev QgM:=@List.length_pos_iff
abbrev QgN:=@List.cons.injEq
abbrev QgO:=@Option.isNone_iff_eq_none
abbrev QgP:=@List.set_cons_succ
abbrev QgQ:=@List.filter_filter
abbrev QgR:=@Int.le_trans
abbrev QgS:=@Array.size_setIfInBounds
abbrev QgT:=@List.head?_dropWhile_not
abbrev QgU:=@Nat.lt_of_le_of_lt
abbrev QgV:=@List.mem_range
abbrev QgW:=@List.foldl_append
abbrev QgX:=@List.count_append
abbrev QgY:=@List.Perm.append_right
abbrev QgZ:=@List.find?_cons_of_pos
abbrev Qh_:=@List.getElem_cons_zero
abbrev QhA:=@Bool.false_or
abbrev QhB:=@Bool.true_and
abbrev QhC:=@List.countP_cons
abbrev QhD:=@List.nodup_range
abbrev QhE:=@Nat.lt_succ_self
theorem K8.{u, v} {α : Type u} {β : Type v} (a:α) (f:α→Option β):(some a).bind f=f a:= rfl
theorem K9.{u} {α : Type u} {l:List α} {i:Nat} (h:i<l.length):l[i]? = some l[i]:= List.getElem?_eq_getElem h
theorem K_.{u} {α : Type u} {l:List α} {i:Nat} {a:α}:l[i]? = some a↔∃h:i<l.length, l[i]=a:= List.getElem?_eq_some_iff
theorem La.{u} {α : Type u} {as bs:List α}:(as++bs).length=as.length+bs.length:= List.length_append
theorem Lb.{u} {α : Type u} {a b:α}:a∈[b]↔a=b:= List.mem_singleton
inductive Ty where
 | int (k:IntKind)
 | bool
 | str
 | slice (t:Ty)
 | st (n:Nat)
 deriving DecidableEq
def Ty.Ny:Ty→Bool
 | .st n=>Nat.ble 500 n
 | _=>false
def Ty.Wn:Ty→Bool
 | .st n=>Nat.beq (n % 2) 1
 | _=>false
@[reducible] def El(S:Nat→Type):Ty→Type
 | .int _=>Int
 | .bool=>Bool
 | .str=>List UInt8
 | .slice t=>List (El S t)
 | .st n=>S n
inductive TA(S:Nat→Type) where
 | i (k:IntKind) (n:Int)
 | b (x:Bool)
 | s (l:List UInt8)
 | nl
 | sl (t:Ty) (l:List (El S t))
 | v (x:Value)
@[reducible] def Sb(S:Nat→Type):List Ty→Type
 | []=>Unit
 | t::r=>El S t×Sb S r
structure Fam where
 S:Nat→Type
 fs:Nat→List Ty
 un:(n:Nat)→S n→Sb S (fs n)
 up:(n:Nat)→Sb S (fs n)→S n
 um:∀n a,un n (up n a)=a
abbrev ND(F:Fam):=TA F.S
abbrev ET(F:Fam)(t:Ty):=El F.S t
abbrev M7(F:Fam)(ts:List Ty):=Sb F.S ts
def enc1(F:Fam):(t:Ty)→ET F t→ND F
 | .int k,n=>.i k n
 | .bool,x=>.b x
 | .str,l=>.s l
 | .slice t,l=>.sl t l
 | .st _,_=>.nl
def Vf(F:Fam):(t:Ty)→ND F→Option (ET F t)
 | .int k,.i k' n=>if k'=k then some n else none
 | .bool,.b x=>some x
 | .str,.s l=>some l
 | .slice t,.sl t' l=>if h:t'=t then some (h▸l)else none
 | .slice t,.nl=>cond t.Ny none (some [])
 | _,_=>none
def OU(F:Fam):(ts:List Ty)→M7 F ts→List (ND F)
 | [],_=>[]
 | t::r,a=>enc1 F t a.1::OU F r a.2
def Ve(F:Fam):(ts:List Ty)→List (ND F)→Option (M7 F ts)
 | [],[]=>some ()
 | t::r,c::cs=>match Vf F t c with
  | none=>none
  | some x=>match Ve F r cs with
   | none=>none
   | some y=>some (x,y)
 | _,_=>none
def LZ(F:Fam):(t:Ty)→ET F t→List (ND F)
 | .st n,x=>OU F (F.fs n) (F.un n x)
 | .int k,n=>[.i k n]
 | .bool,x=>[.b x]
 | .str,l=>[.s l]
 | .slice t,l=>[.sl t l]
def LY(F:Fam):Ty→Nat
 | .st n=>(F.fs n).length
 | _=>1
def Ty.OP:Ty→Bool
 | .st _=>true
 | _=>false
def O4(F:Fam):(t:Ty)→List (ND F)→Option (ET F t)
 | .st n,cs=>match Ve F (F.fs n) cs with
  | none=>none
  | some a=>some (F.up n a)
 | .int k,[c]=>Vf F (.int k) c
 | .bool,[c]=>Vf F .bool c
 | .str,[c]=>Vf F .str c
 | .slice t,[c]=>Vf F (.slice t) c
 | _,_=>none
inductive U5{S:Nat→Type}:TA S→TA S→Prop where
 | refl (d:TA S):U5 d d
 | nl (t:Ty) (h:t.Ny=false):U5 .nl (.sl t [])
def Tk{S:Nat→Type}(cs ds:List (TA S)):Prop:=cs.length=ds.length∧∀(k:Nat)(c d:TA S),cs[k]? = some c→ds[k]? = some d→U5 c d
theorem Ai(F:Fam):∀(ts:List Ty)(a:M7 F ts),(OU F ts a).length=ts.length
 | [],_=>rfl
 | t::r,a=>by simp[OU,Ai F r a.2]
theorem bo(F:Fam)(t:Ty)(x:ET F t):(LZ F t x).length=LY F t:=by
 cases t<;>simp[LZ,LY,Ai]
theorem qF(F:Fam){t:Ty}{c:ND F}{x:ET F t}(h:Vf F t c=some x):U5 c (enc1 F t x):=by
 unfold Vf at h;split at h
 ·split at h
  ·rename_i hk;cases h;subst hk;exact .refl _
  ·cases h
 ·cases h;exact .refl _
 ·cases h;exact .refl _
 ·split at h
  ·rename_i hk;cases h;subst hk;exact .refl _
  ·cases h
 ·rename_i t
  cases ht:t.Ny with
  | true=>rw[ht]at h;cases h
  | false=>rw[ht]at h;cases h;exact .nl _ ht
 ·cases h
theorem zQ(F:Fam):∀{ts:List Ty}{cs:List (ND F)} {a:M7 F ts},Ve F ts cs=some a→Tk cs (OU F ts a)
 | [],cs,a,h=>by
  cases cs with
  | nil=>exact⟨rfl,by simp⟩
  | cons c cs=>simp[Ve]at h
 | t::r,cs,a,h=>by
  cases cs with
  | nil=>simp[Ve]at h
  | cons c cs=>
   simp only[Ve]at h;split at h
   ·cases h
   ·rename_i x hx;split at h
    ·cases h
    ·rename_i y hy;cases h;obtain⟨h1,h2⟩:=zQ F hy
     refine⟨by simp[OU,h1],?_⟩
     intro k c' d' hc hd
     cases k with
     | zero=>simp only[OU,PW,NJ]at hc hd;subst hc;subst hd;exact qF F hx
     | succ k=>simp only[OU,QdK]at hc hd;exact h2 k c' d' hc hd
theorem uc{S:Nat→Type}{c d:TA S}(h:U5 c d):Tk [c] [d]:=by
 refine⟨rfl,?_⟩;intro k c' d' hc hd
 cases k with
 | zero=>simp only[PW,NJ]at hc hd;subst hc;subst hd;exact h
 | succ k=>simp at hc
theorem cA(F:Fam){t:Ty}{cs:List (ND F)}{x:ET F t}(h:O4 F t cs=some x):Tk cs (LZ F t x):=by
 unfold O4 at h;split at h
 ·split at h
  ·cases h
  ·rename_i a ha;cases h;simp only[LZ,F.um];exact zQ F ha
 ·exact uc (qF F h)
 ·exact uc (qF F h)
 ·exact uc (qF F h)
 ·exact uc (qF F h)
 ·cases h
def cells(F:Fam)(t:Ty)(l:List (ET F t)):List (ND F):=(l.map (LZ F t)).flatten
inductive L_{F:Fam}(w:World)(Li:Nat→Prop):ND F→Value→Prop where
 | i (k:IntKind) (n:Int):L_ w Li (.i k n) (.int k n)
 | b (x:Bool):L_ w Li (.b x) (.bool x)
 | s (l:List UInt8):L_ w Li (.s l) (.string ⟨⟨l⟩⟩)
 | nl (p:Option Addr):L_ w Li .nl (.slice p 0 0)
 | v (x:Value) (h:x.oneCell'=true):L_ w Li (.v x) x
 | sl0 (t:Ty) (p:Option Addr):L_ w Li (.sl t []) (.slice p 0 0)
 | sl (t:Ty) (l:List (ET F t)) (b o cap:Nat) (f:Nat→Value) (hb:Li b) (hcap:l.length≤cap) (hm:cap≤maxLen)
   (hc:∀k d,(cells F t l)[k]? = some d→w.cell? ⟨b,o+k,none⟩=some (f k))
   (hr:∀k d,(cells F t l)[k]? = some d→L_ w Li d (f k)) :
   L_ w Li (.sl t l) (.slice (some ⟨b,o,none⟩) l.length cap)
theorem Nh{w w':World}{a:Addr}(h:w'.heap[a.block]? = w.heap[a.block]?):w'.cell? a=w.cell? a:=by simp[World.cell?,h]
section
variable{F:Fam}
theorem L_.mono{w w':World}{Li LX:Nat→Prop}(hi:∀b,Li b→LX b)(hw:∀b,Li b→w'.heap[b]? = w.heap[b]?)
  {d:ND F} {x:Value} (h:L_ w Li d x):L_ w' LX d x:=by
 induction h with
 | i=>exact .i _ _
 | b=>exact .b _
 | s=>exact .s _
 | nl=>exact .nl _
 | v x h=>exact .v x h
 | sl0=>exact .sl0 _ _
 | sl t l b o cap f hb hcap hm hc hr ih=>
  exact .sl t l b o cap f (hi b hb) hcap hm (λk d hk=>by rw[Nh (hw b hb)];exact hc k d hk) ih
theorem L_.Xu{w:World}{Li:Nat→Prop}{d d':ND F}{x:Value}(hl:U5 d d')(h:L_ w Li d x):L_ w Li d' x:=by
 cases hl with
 | refl=>exact h
 | nl t ht=>cases h with | nl p=>exact .sl0 t p
theorem L_.oneCell{w:World}{Li:Nat→Prop}{d:ND F}{x:Value}(h:L_ w Li d x):x.oneCell'=true:=by
 cases h<;>first | rfl | assumption
def TA.flat:TA F.S→Bool
 | .i _ _ | .b _ | .s _ | .v _=>true
 | _=>false
theorem L_.flat{w w':World}{Li LX:Nat→Prop}{d:ND F}{x:Value}(hf:d.flat=true)(h:L_ w Li d x):L_ w' LX d x:=by
 cases h with
 | i=>exact .i _ _
 | b=>exact .b _
 | s=>exact .s _
 | v x h=>exact .v x h
 | _=>simp[TA.flat]at hf
def SL(F:Fam):(ts:List Ty)→M7 F ts→List (List (ND F)×Bool)
 | [],_=>[]
 | t::r,x=>(LZ F t x.1,t.OP)::SL F r x.2
inductive Pt(w:World)(Li:Nat→Prop):List (ND F)×Bool→Value→Prop where
 | one {d:ND F} {v:Value} (h:L_ w Li d v):Pt w Li ([d],false) v
 | agg {cs:List (ND F)} {vs:List Value} (hl:vs.length=cs.length) (h:∀(k:Nat)(c:ND F)(x:Value),cs[k]? = some c→vs[k]? = some x→L_ w Li c x):Pt w Li (cs,true) (.agg ⟨vs⟩)
theorem Pt.mono{w w':World}{Li LX:Nat→Prop}(hi:∀b,Li b→LX b)(hw:∀b,Li b→w'.heap[b]? = w.heap[b]?)
  {d:List (ND F)×Bool} {x:Value} (h:Pt w Li d x):Pt w' LX d x:=by
 cases h with
 | one h=>exact .one (h.mono hi hw)
 | agg hl h=>exact .agg hl (λk c x a b=>(h k c x a b).mono hi hw)
def UZ(w:World)(Li:Nat→Prop)(ds:List (List (ND F)×Bool))(vs:List Value):Prop:=
 vs.length=ds.length∧∀(k:Nat)(d:List (ND F)×Bool) (x:Value),ds[k]? = some d→vs[k]? = some x→Pt w Li d x
def jo (P : Program) (f : FuncId) : Prop:=∃ fn,P.funcs[f]? = some fn ∧ (fn.name == "runtime.NumGoroutine") = false ∧ fn.body.isNone = false
def Vg(P:Program)(F:Fam)(w:World)(Li:Nat→Prop)(ks:List Ty)(r:Ty)(φ : M7 F ks→Option (ET F r))(v:Value):Prop:=
 ∃fid bound captured,v = .func (.func fid) ⟨bound⟩ ⟨captured⟩∧(bound = []∨ks.length=1)∧jo P fid∧
  ∀(w':World)(LX:Nat→Prop),(∀b,Li b→LX b∧w'.heap[b]? = w.heap[b]?)→(∀b,LX b→b<w'.heap.size)→∀a x vs,φ a=some x→UZ w' LX (SL F ks a) vs→
   Calls P fid ⟨bound++vs++captured⟩ w' λe w''=>∃v,e = .returned v∧RowKit.Below w'.heap.size w' w''∧Pt w'' LX (LZ F r x,r.OP) v∧w'.drawn≤w''.drawn
inductive MJ(F:Fam) where
 | im (d:ND F)
 | pt (cs:List (ND F)) (off:Nat)
 | ptr (id off:Nat)
 | OV (id sz i off:Nat)
 | Nn (id:Nat)
 | RD (id sz off len:Nat)
 | Tv (id sz i off:Nat)
 | Ud (id sz i off sz' j off':Nat)
 | Tx (id n:Nat)
 | Sy (id:Nat)
 | Uz (cs:List (ND F))
 | ln (d:ND F)
 | Yj (cs:List (ND F)) (off:Nat)
 | any
 | one
abbrev NS:=List (Option (Nat×Nat×Nat))
def MO:NS→List Nat
 | []=>[]
 | some (b,_)::l=>b::MO l
 | none::l=>MO l
abbrev Pl:=Option (Nat×Nat×Nat×NS)
structure G where
 ids:Nat→Option Pl
 Li:Nat→Prop
 len:Nat→Prop
abbrev G.al(g:G)(b:Nat):Prop:=g.Li b∨g.len b
def G.blk(g:G)(id b:Nat):Prop:=∃b0 c,g.ids id=some (some (b0,c))∧b∈b0::MO c.2.2
theorem G.MH{g:G}{id b:Nat}{c:Nat×Nat×NS}(h:g.ids id=some (some (b,c))):g.blk id b:=⟨b,c,h,ZT⟩
theorem G.SQ{g:G}{id b b':Nat}{x y:Nat}(h:g.ids id=some (some (b,x,y,[])))(hb:g.blk id b'):b'=b:=by obtain⟨b0,c,h1,h2⟩:=hb;rw[h]at h1;cases h1;simpa[MO]using h2
theorem G.Vj{g:G}{id b':Nat}(h:g.ids id=some none)(hb:g.blk id b'):False:=by obtain⟨b0,c,h1,h2⟩:=hb;rw[h]at h1;cases h1
def da(w:World)(Li:Nat→Prop)(t:Ty)(l:List (ET F t)):Pl→Prop
 | none=>l = []
 | some (b,cap,n)=>n=(l.length,[])∧l.length≤cap∧cap≤maxLen∧∃cur e,w.heap[b]? = some (.cells ⟨cur⟩ e (0,0))∧cur.length=cap*LY F t∧
   ∀(k:Nat)(d:ND F)(x:Value),(cells F t l)[k]? = some d→cur[k]? = some x→L_ w Li d x
def Ol:Pl→Value→Prop
 | none,v=>∃p,v = .slice p 0 0
 | some (b,cap,n),v=>v = .slice (some ⟨b,0,none⟩) n.1 cap
def Nt:Option (Nat×Nat×Nat)→Pl
 | none=>none
 | some (b,cap,n)=>some (b,cap,n,[])
def Ov(w:World)(Li:Nat→Prop):ND F→Value→Option (Nat×Nat×Nat)→Prop
 | .sl t l,x,pl=>da w Li t l (Nt pl)∧Ol (Nt pl) x
 | d,x,pl=>pl=none∧d.flat=true∧L_ w Li d x
def P8(w:World)(Li:Nat→Prop)(t:Ty)(l:List (ET F t)):Pl→Prop
 | none=>l = []
 | some (b,cap,n)=>n.1=l.length∧l.length≤cap∧cap≤maxLen∧n.2.length=(cells F t l).length∧(b::MO n.2).Nodup∧∃cur e,w.heap[b]? = some (.cells ⟨cur⟩ e (0,0))∧cur.length=cap*LY F t∧
   ∀(k:Nat)(d:ND F)(x:Value)(pl:Option (Nat×Nat×Nat)),(cells F t l)[k]? = some d→cur[k]? = some x→n.2[k]? = some pl→Ov w Li d x pl
def MapAt(w:World)(Li:Nat→Prop)(t:Ty)(l:List (ET F t))(b:Nat):Prop:=
 ∃es:List MapEntry,w.heap[b]? = some (.map ⟨es⟩ es.length)∧es.length=l.length∧
  ∀(k:Nat)(x:ET F t)(e:MapEntry),l[k]? = some x→es[k]? = some e→e.born=k∧∃kd Rk,LZ F t x=kd::Rk∧L_ w Li kd e.key∧Pt w Li (Rk,t.Wn) e.val
def OG(w:World)(Li:Nat→Prop)(t:Ty)(l:List (ET F t))(pl:Pl):Prop:=
 if t.Ny=true then∃b,pl=some (b,0,0,[])∧MapAt w Li t l b else da w Li t l pl
def T_(t:Ty)(pl:Pl)(v:Value):Prop:=
 if t.Ny=true then∃b,pl=some (b,0,0,[])∧v = .map (some b)else Ol pl v
theorem jI{b:Nat}{c:Nat×Nat}:∀{ns:NS}{k:Nat},ns[k]? = some (some (b,c))→b∈MO ns
 | [],k,h=>by simp at h
 | q::ns,0,h=>by simp at h;subst h;simp[MO]
 | q::ns,k+1,h=>by
  have:=jI (ns:=ns) (k:=k) (by simpa using h)
  cases q with
  | none=>exact this
  | some q=>exact Uh _ this
inductive Mh(g:G)(w:World):MJ F→Value→Prop where
 | im {d:ND F} {x:Value} (h:L_ w g.Li d x):Mh g w (.im d) x
 | pt (cs:List (ND F)) (off b o:Nat) (f:Nat→Value) (hb:g.Li b)
   (hc:∀k d,cs[k]? = some d→w.cell? ⟨b,o+k,none⟩=some (f k))
   (hr:∀k d,cs[k]? = some d→L_ w g.Li d (f k)) :
   Mh g w (.pt cs off) (.pointer (some ⟨b,o+off,none⟩))
 | ptr {id off b:Nat} {c:Nat×Nat×NS} (h:g.ids id=some (some (b,c))):Mh g w (.ptr id off) (.pointer (some ⟨b,off,none⟩))
 | OV {id sz i off b:Nat} {c:Nat×Nat×NS} (h:g.ids id=some (some (b,c))):Mh g w (.OV id sz i off) (.pointer (some ⟨b,i*sz+off,none⟩))
 | PG {id:Nat} (p:Option Addr) (h:g.ids id=some none):Mh g w (.Nn id) (.slice p 0 0)
 | Nn {id b c:Nat} {n:Nat×NS} (h:g.ids id=some (some (b,c,n))) (hl:n.1≤c) (hm:c≤maxLen):Mh g w (.Nn id) (.slice (some ⟨b,0,none⟩) n.1 c)
 | Tq {id sz:Nat} (p:Option Addr) (h:g.ids id=some none):Mh g w (.RD id sz 0 0) (.slice p 0 0)
 | RD {id sz off len b c o:Nat} {n:Nat×NS} (h:g.ids id=some (some (b,c,n))) (hl:off+len≤n.1) (hn:n.1≤c) (ho:(off=c∧0<c)∨o=off*sz) (hm:c≤maxLen):Mh g w (.RD id sz off len) (.slice (some ⟨b,o,none⟩) len (c - off))
 | Tv {id sz i off b c:Nat} {n:Nat×NS} {pl:Option (Nat×Nat×Nat)} {v:Value} (h:g.ids id=some (some (b,c,n))) (hk:n.2[i*sz+off]? = some pl) (hv:Ol (Nt pl) v):Mh g w (.Tv id sz i off) v
 | Ud {id sz i off sz' j off' b c b':Nat} {c':Nat×Nat} {n:Nat×NS} (h:g.ids id=some (some (b,c,n))) (hk:n.2[i*sz+off]? = some (some (b',c'))):Mh g w (.Ud id sz i off sz' j off') (.pointer (some ⟨b',j*sz'+off',none⟩))
 | Tx {id n b:Nat} {c:Nat×Nat×NS} (h:g.ids id=some (some (b,c))) (hm:n≤maxLen):Mh g w (.Tx id n) (.slice (some ⟨b,0,none⟩) n n)
 | Sy {id b:Nat} {c:Nat×Nat×NS} (h:g.ids id=some (some (b,c))):Mh g w (.Sy id) (.map (some b))
 | Uz (cs:List (ND F)) (b o b2 o2:Nat) (f:Nat→Value) (hb:g.Li b) (hv:w.cell? ⟨b,o,none⟩=some (.pointer (some ⟨b2,o2,none⟩))) (hb2:g.Li b2)
   (hc:∀k d,cs[k]? = some d→w.cell? ⟨b2,o2+k,none⟩=some (f k))
   (hr:∀k d,cs[k]? = some d→L_ w g.Li d (f k)) :
   Mh g w (.Uz cs) (.pointer (some ⟨b,o,none⟩))
 | ln {d:ND F} {x:Value} (h:L_ w g.al d x):Mh g w (.ln d) x
 | Yj (cs:List (ND F)) (off b o:Nat) (f:Nat→Value) (hb:g.al b)
   (hc:∀k d,cs[k]? = some d→w.cell? ⟨b,o+k,none⟩=some (f k))
   (hr:∀k d,cs[k]? = some d→L_ w g.al d (f k)) :
   Mh g w (.Yj cs off) (.pointer (some ⟨b,o+off,none⟩))
 | any {x:Value}:Mh g w .any x
 | one {x:Value} (h:x.oneCell'=true):Mh g w .one x
structure Le(g:G)(w:World)(g':G)(w':World):Prop where
 ids:∀id r,g.ids id=some r→g'.ids id=some r
 Li:∀b,g.Li b→g'.Li b
 heap:∀b,g.Li b→w'.heap[b]? = w.heap[b]?
 len:∀b,g.len b→g'.len b
 Xj:∀b,g.len b→w'.heap[b]? = w.heap[b]?
theorem Le.refl(g:G)(w:World):Le g w g w:=⟨λ_ _ h=>h,λ_ h=>h,λ_ _=>rfl,λ_ h=>h,λ_ _=>rfl⟩
theorem Le.trans{g g' g'':G}{w w' w'':World}(h:Le g w g' w')(k:Le g' w' g'' w''):Le g w g'' w'':=
 ⟨λ_ _ x=>k.ids _ _ (h.ids _ _ x),λ_ x=>k.Li _ (h.Li _ x),λb x=>(k.heap b (h.Li b x)).trans (h.heap b x),λ_ x=>k.len _ (h.len _ x),λb x=>(k.Xj b (h.len b x)).trans (h.Xj b x)⟩
theorem Le.al{g g':G}{w w':World}(hl:Le g w g' w'){b:Nat}(h:g.al b):g'.al b:=h.imp (hl.Li b) (hl.len b)
theorem Le.ab8{g g':G}{w w':World}(hl:Le g w g' w'){b:Nat}(h:g.al b):w'.heap[b]? = w.heap[b]?:=h.elim (hl.heap b) (hl.Xj b)
theorem L_.leL{g g':G}{w w':World}(hl:Le g w g' w'){d:ND F}{x:Value}(h:L_ w g.al d x):L_ w' g'.al d x:=
 h.mono (λ_=>hl.al) (λ_=>hl.ab8)
theorem L_.le{g g':G}{w w':World}(hl:Le g w g' w'){d:ND F}{x:Value}(h:L_ w g.Li d x):L_ w' g'.Li d x:=
 h.mono hl.Li hl.heap
theorem Mh.le{g g':G}{w w':World}(hl:Le g w g' w'){c:MJ F}{x:Value}(h:Mh g w c x):Mh g' w' c x:=by
 cases h with
 | im h=>exact .im (h.le hl)
 | pt cs off b o f hb hc hr=>
  exact .pt cs off b o f (hl.Li b hb) (λk d hk=>by rw[Nh (hl.heap b hb)];exact hc k d hk) (λk d hk=>(hr k d hk).le hl)
 | ptr h=>exact .ptr (hl.ids _ _ h)
 | OV h=>exact .OV (hl.ids _ _ h)
 | PG p h=>exact .PG p (hl.ids _ _ h)
 | Nn h h1 h2=>exact .Nn (hl.ids _ _ h) h1 h2
 | Tq p h=>exact .Tq p (hl.ids _ _ h)
 | RD h h1 h2 h3 h4=>exact .RD (hl.ids _ _ h) h1 h2 h3 h4
 | Tv h h1 h2=>exact .Tv (hl.ids _ _ h) h1 h2
 | Ud h h1=>exact .Ud (hl.ids _ _ h) h1
 | Tx h hm=>exact .Tx (hl.ids _ _ h) hm
 | Sy h=>exact .Sy (hl.ids _ _ h)
 | Uz cs b o b2 o2 f hb hv hb2 hc hr=>
  exact .Uz cs b o b2 o2 f (hl.Li b hb) (by rw[Nh (hl.heap b hb)];exact hv) (hl.Li b2 hb2) (λk d hk=>by rw[Nh (hl.heap b2 hb2)];exact hc k d hk) (λk d hk=>(hr k d hk).le hl)
 | ln h=>exact .ln (h.leL hl)
 | Yj cs off b o f hb hc hr=>
  exact .Yj cs off b o f (hl.al hb) (λk d hk=>by rw[Nh (hl.ab8 hb)];exact hc k d hk) (λk d hk=>(hr k d hk).leL hl)
 | any=>exact .any
 | one h=>exact .one h
theorem Mh.oneCell{g:G}{w:World}{c:MJ F}{x:Value}(h:Mh g w c x)(hc:c≠.any):x.oneCell'=true:=by
 cases h with
 | Tv h hk hv=>
  rename_i pl
  cases pl with
  | none=>obtain⟨p,rfl⟩:=hv;rfl
  | some q=>simp only[Nt,Ol]at hv;subst hv;rfl
 | im h=>exact h.oneCell
 | ln h=>exact h.oneCell
 | any=>exact absurd rfl hc
 | one h=>exact h
 | _=>rfl
inductive Dat(F:Fam) where
 | c (x:MJ F)
 | agg (cs:List (MJ F))
 | Pp (ds:List (Dat F))
 | RY (fn:Fn) (fs cs:List (Dat F))
 | fv (ks:List Ty) (r:Ty) (φ : M7 F ks→Option (ET F r))
 | gh (id:Nat)
inductive Ma(P:Program)(g:G)(w:World):Dat F→Value→Prop where
 | c {x:MJ F} {v:Value} (h:Mh g w x v):Ma P g w (.c x) v
 | agg {cs:List (MJ F)} {vs:List Value} (hl:vs.length=cs.length) (h:∀(k:Nat)(c:MJ F)(x:Value),cs[k]? = some c→vs[k]? = some x→Mh g w c x):Ma P g w (.agg cs) (.agg ⟨vs⟩)
 | Pp {ds:List (Dat F)} {vs:List Value} (hl:vs.length=ds.length) (h:∀(k:Nat)(d:Dat F)(x:Value),ds[k]? = some d→vs[k]? = some x→Ma P g w d x):Ma P g w (.Pp ds) (.tuple ⟨vs⟩)
 | RY {fn:Fn} {fs cs:List (Dat F)} {vs us:List Value} (h1:vs.length=fs.length) (h2:us.length=cs.length)
   (hf:∀(k:Nat)(c:Dat F)(x:Value),fs[k]? = some c→vs[k]? = some x→Ma P g w c x)
   (hc:∀(k:Nat)(c:Dat F)(x:Value),cs[k]? = some c→us[k]? = some x→Ma P g w c x):Ma P g w (.RY fn fs cs) (.func fn ⟨vs⟩ ⟨us⟩)
 | fv {ks:List Ty} {r:Ty} {φ : M7 F ks→Option (ET F r)} {v:Value} (h:Vg P F w g.Li ks r φ v):Ma P g w (.fv ks r φ) v
 | gh {id b:Nat} {c:Nat×Nat×NS} {v:Value} (h:g.ids id=some (some (b,c))):Ma P g w (.gh id) v
theorem Vg.le{P:Program}{g g':G}{w w':World}(hl:Le g w g' w'){ks:List Ty}{r:Ty}{φ : M7 F ks→Option (ET F r)}{v:Value}(h:Vg P F w g.Li ks r φ v):Vg P F w' g'.Li ks r φ v:=by obtain⟨fid,bound,captured,h1,h0,h2,h3⟩:=h;refine⟨fid,bound,captured,h1,h0,h2,λw2 ac2 k1 k2 a x vs k3 k4=>h3 w2 ac2 (λb hb=>⟨(k1 b (hl.Li b hb)).1,((k1 b (hl.Li b hb)).2).trans (hl.heap b hb)⟩) k2 a x vs k3 k4⟩
theorem Ma.le{P:Program}{g g':G}{w w':World}(hl:Le g w g' w'){d:Dat F}{x:Value}(h:Ma P g w d x):Ma P g' w' d x:=by
 induction h with
 | c h=>exact .c (h.le hl)
 | agg h1 h2=>exact .agg h1 (λk c x a b=>(h2 k c x a b).le hl)
 | Pp h1 _ ih=>exact .Pp h1 ih
 | RY h1 h2 _ _ i1 i2=>exact .RY h1 h2 i1 i2
 | fv h=>exact .fv (h.le hl)
 | gh h=>exact .gh (hl.ids _ _ h)
inductive Mg(F:Fam) where
 | box (cs:List (MJ F))
 | row (t:Ty) (l:List (ET F t))
 | Nc (t:Ty) (l:List (ET F t))
 | Tc (t:Ty) (l:List (ET F t))
 | ZM (cs:List (ND F))
 | mp (t:Ty) (l:List (ET F t))
 | it (ob:Obj)
 | Pq (k n:Nat)
 | Sr (t:Ty) (l:List (ET F t)) (i:Nat) (ks:List Nat)
 | NU (t:Ty) (l:List (ET F t)) (j:Nat)
def Mg.owned:Mg F→Bool
 | .box _ | .row _ _ | .Nc _ _ | .mp _ _ | .it _ | .Sr _ _ _ _ | .NU _ _ _=>true
 | _=>false
def Mg.ab2:Mg F→Bool
 | .Pq _ _=>true
 | _=>false
theorem Mg.PU{B:Mg F}(h:B.owned=true):B.ab2=false:=by cases B<;>first | rfl | cases h
def Ri(w:World)(t:Ty)(l:List (ET F t))(C:Nat→ND F→Value→Option (Nat×Nat×Nat)→Prop):Pl→Prop
 | none=>l = []
 | some (b,cap,n)=>n.1=l.length∧l.length≤cap∧cap≤maxLen∧n.2.length=(cells F t l).length∧(b::MO n.2).Nodup∧∃cur e,w.heap[b]? = some (.cells ⟨cur⟩ e (0,0))∧cur.length=cap*LY F t∧
   ∀(k:Nat)(d:ND F)(x:Value)(pl:Option (Nat×Nat×Nat)),(cells F t l)[k]? = some d→cur[k]? = some x→n.2[k]? = some pl→C k d x pl
def rn(w:World)(Li:Nat→Prop)(sz i:Nat)(ks:List Nat)(k:Nat)(d:ND F)(x:Value)(pl:Option (Nat×Nat×Nat)):Prop:=
 ((∃q∈ks,k=i*sz+q)→pl=none∧x.oneCell'=true)∧((¬ ∃q∈ks,k=i*sz+q)→Ov w Li d x pl)
def Vh(w:World)(Li:Nat→Prop)(sz j:Nat)(k:Nat)(d:ND F)(x:Value)(pl:Option (Nat×Nat×Nat)):Prop:=
 (k<j*sz→Ov w Li d x pl)∧(¬ k<j*sz→pl=none∧L_ w Li d x)
def N9(k:Nat)(p q:Option Pl):Prop:=(∃b c n n',p=some (some (b,c,n))∧q=some (some (b,c,n'))∧n'.1=n.1∧n.1=k)∨(p=some none∧q=some none∧k=0)
def Na(g:G)(w:World)(id:Nat):Mg F→Prop
 | .box cs=>∃(b:Nat)(c:Nat×Nat)(arr:List Value)(t:TypeId),g.ids id=some (some (b,c.1,c.2,[]))∧w.heap[b]? = some (.cells ⟨arr⟩ t (0,0))∧arr.length=cs.length∧
   ∀(k:Nat)(c:MJ F)(x:Value),cs[k]? = some c→arr[k]? = some x→Mh g w c x
 | .row t l=>(g.ids id=some none∧l = [])∨
   ∃b cap cur e,g.ids id=some (some (b,cap,l.length,[]))∧w.heap[b]? = some (.cells ⟨cur⟩ e (0,0))∧l.length≤cap∧cap≤maxLen∧cur.length=cap*LY F t∧
    ∀(k:Nat)(d:ND F)(x:Value),(cells F t l)[k]? = some d→cur[k]? = some x→L_ w g.Li d x
 | .Nc t l=>∃pl,g.ids id=some pl∧P8 w g.Li t l pl
 | .Tc t l=>(g.ids id=some none∧l = [])∨
   ∃b cap ns,g.ids id=some (some (b,cap,l.length,ns))∧(∀b'∈MO ns,g.Li b')∧g.Li b∧l.length≤cap∧cap≤maxLen∧
    ∀(k:Nat)(d:ND F),(cells F t l)[k]? = some d→∃x,w.cell? ⟨b,k,none⟩=some x∧L_ w g.Li d x
 | .ZM cs=>∃(b:Nat)(c:Nat×Nat),g.ids id=some (some (b,c.1,c.2,[]))∧g.Li b∧∀(k:Nat)(d:ND F),cs[k]? = some d→∃x,w.cell? ⟨b,k,none⟩=some x∧L_ w g.Li d x
 | .mp t l=>∃b,g.ids id=some (some (b,0,0,[]))∧MapAt w g.Li t l b
 | .it ob=>∃b,g.ids id=some (some (b,0,0,[]))∧w.heap[b]? = some ob
 | .Pq k n=>N9 n (g.ids id) (g.ids k)
 | .Sr t l i ks=>∃pl,g.ids id=some pl∧Ri w t l (rn w g.Li (LY F t) i ks) pl
 | .NU t l j=>∃pl,g.ids id=some pl∧Ri w t l (Vh w g.Li (LY F t) j) pl
theorem MapAt.O_{w w':World}{Li LX:Nat→Prop}(hi:∀b,Li b→LX b)(hw:∀b,Li b→w'.heap[b]? = w.heap[b]?){t:Ty}{l:List (ET F t)}{b:Nat}(hb:w'.heap[b]? = w.heap[b]?)(h:MapAt w Li t l b):MapAt w' LX t l b:=by obtain⟨es,h1,h2,h3⟩:=h;refine⟨es,hb.trans h1,h2,λk x e a a'=>?_⟩;obtain⟨q1,kd,Rk,q2,q3,q4⟩:=h3 k x e a a';exact⟨q1,kd,Rk,q2,q3.mono hi hw,q4.mono hi hw⟩
theorem da.O_{w w':World}{Li LX:Nat→Prop}(hi:∀b,Li b→LX b)(hw:∀b,Li b→w'.heap[b]? = w.heap[b]?){t:Ty}{l:List (ET F t)}{pl:Pl}(hb:∀b c,pl=some (b,c)→w'.heap[b]? = w.heap[b]?)(h:da w Li t l pl):da w' LX t l pl:=by
 cases pl with
 | none=>exact h
 | some q=>obtain⟨b,cap,n⟩:=q;obtain⟨q1,q2,q3,cur,e,q4,q5,q6⟩:=h;exact⟨q1,q2,q3,cur,e,(hb b _ rfl).trans q4,q5,λk d x a b=>(q6 k d x a b).mono hi hw⟩
theorem OG.O_{w w':World}{Li LX:Nat→Prop}(hi:∀b,Li b→LX b)(hw:∀b,Li b→w'.heap[b]? = w.heap[b]?){t:Ty}{l:List (ET F t)}{pl:Pl}(hb:∀b c,pl=some (b,c)→w'.heap[b]? = w.heap[b]?)(h:OG w Li t l pl):OG w' LX t l pl:=by
 unfold OG at h ⊢;split
 ·rename_i hm;rw[if_pos hm]at h;obtain⟨b,rfl,h⟩:=h;exact⟨b,rfl,h.O_ hi hw (hb b _ rfl)⟩
 ·rename_i hm;rw[if_neg hm]at h;exact h.O_ hi hw hb
theorem nj{w:World}{Li:Nat→Prop}{t:Ty}{l:List (ET F t)}{pl:Pl}(h:t.Ny=false):OG w Li t l pl=da w Li t l pl:=by unfold OG;rw[if_neg (by simp[h])]
theorem pD{t:Ty}{pl:Pl}{v:Value}(h:t.Ny=false):T_ t pl v=Ol pl v:=by unfold T_;rw[if_neg (by simp[h])]
theorem Ov.O_{w w':World}{Li LX:Nat→Prop}(hi:∀b,Li b→LX b)(hw:∀b,Li b→w'.heap[b]? = w.heap[b]?){d:ND F}{x:Value}{pl:Option (Nat×Nat×Nat)}(hb:∀b c,pl=some (b,c)→w'.heap[b]? = w.heap[b]?)(h:Ov w Li d x pl):Ov w' LX d x pl:=by
 cases d with
 | sl t l=>
  refine⟨h.1.O_ hi hw ?_,h.2⟩;intro b c e
  cases pl with
  | none=>cases e
  | some q=>obtain⟨b',c',n'⟩:=q;simp only[Nt,NJ,Prod.mk.injEq]at e;exact hb b (c',n') (by rw[← e.1])
 | _=>exact⟨h.1,h.2.1,h.2.2.mono hi hw⟩
theorem P8.O_{w w':World}{Li LX:Nat→Prop}(hi:∀b,Li b→LX b)(hw:∀b,Li b→w'.heap[b]? = w.heap[b]?){t:Ty}{l:List (ET F t)}{pl:Pl}(hb:∀b0 c,pl=some (b0,c)→∀b∈b0::MO c.2.2,w'.heap[b]? = w.heap[b]?)(h:P8 w Li t l pl):P8 w' LX t l pl:=by
 cases pl with
 | none=>exact h
 | some q=>obtain⟨b,cap,n⟩:=q;obtain⟨q1,q2,q3,q4,q5,cur,e,q6,q7,q8⟩:=h;have hb:=hb b _ rfl;refine⟨q1,q2,q3,q4,q5,cur,e,(hb b ZT).trans q6,q7,λk d x pl h1 h2 h3=>(q8 k d x pl h1 h2 h3).O_ hi hw ?_⟩;rintro b' c' rfl;exact hb b' (Uh _ (jI h3))
theorem Ri.O_{w w':World}{t:Ty}{l:List (ET F t)}{C C':Nat→ND F→Value→Option (Nat×Nat×Nat)→Prop}{pl:Pl}(hb:∀b0 c,pl=some (b0,c)→∀b∈b0::MO c.2.2,w'.heap[b]? = w.heap[b]?)
  (hC:∀k d x p,(∀b c,p=some (b,c)→w'.heap[b]? = w.heap[b]?)→C k d x p→C' k d x p) (h:Ri w t l C pl):Ri w' t l C' pl:=by
 cases pl with
 | none=>exact h
 | some q=>obtain⟨b,cap,n⟩:=q;obtain⟨q1,q2,q3,q4,q5,cur,e,q6,q7,q8⟩:=h;have hb:=hb b _ rfl;refine⟨q1,q2,q3,q4,q5,cur,e,(hb b ZT).trans q6,q7,λk d x pl h1 h2 h3=>hC k d x pl ?_ (q8 k d x pl h1 h2 h3)⟩;rintro b' c' rfl;exact hb b' (Uh _ (jI h3))
theorem rn.O_{w w':World}{Li LX:Nat→Prop}(hi:∀b,Li b→LX b)(hw:∀b,Li b→w'.heap[b]? = w.heap[b]?){sz i:Nat}{ks:List Nat}{k:Nat}{d:ND F}{x:Value}{p:Option (Nat×Nat×Nat)}(hb:∀b c,p=some (b,c)→w'.heap[b]? = w.heap[b]?)(h:rn w Li sz i ks k d x p):rn w' LX sz i ks k d x p:=
 ⟨h.1,λhn=>(h.2 hn).O_ hi hw hb⟩
theorem Vh.O_{w w':World}{Li LX:Nat→Prop}(hi:∀b,Li b→LX b)(hw:∀b,Li b→w'.heap[b]? = w.heap[b]?){sz j:Nat}{k:Nat}{d:ND F}{x:Value}{p:Option (Nat×Nat×Nat)}(hb:∀b c,p=some (b,c)→w'.heap[b]? = w.heap[b]?)(h:Vh w Li sz j k d x p):Vh w' LX sz j k d x p:=
 ⟨λhn=>(h.1 hn).O_ hi hw hb,λhn=>⟨(h.2 hn).1,(h.2 hn).2.mono hi hw⟩⟩
theorem N9.mono{k:Nat}{p q p' q':Option Pl}(hp:∀r,p=some r→p'=some r)(hq:∀r,q=some r→q'=some r)(h:N9 k p q):N9 k p' q':=by
 rcases h with⟨b,c,n,n',h1,h2,h3⟩ | ⟨h1,h2,h3⟩
 ·exact .inl ⟨b,c,n,n',hp _ h1,hq _ h2,h3⟩
 ·exact .inr ⟨hp _ h1,hq _ h2,h3⟩
theorem Na.le{g g':G}{w w':World}(hl:Le g w g' w'){id:Nat}{B:Mg F}(h:Na g w id B)
  (hb:B.owned=true→∀b,g.blk id b→w'.heap[b]? = w.heap[b]?):Na g' w' id B:=by
 cases B with
 | box cs=>obtain⟨b,c,arr,t,h1,h2,h3,h4⟩:=h;exact⟨b,c,arr,t,hl.ids _ _ h1,(hb rfl b (G.MH h1)).trans h2,h3,λk c x a b=>(h4 k c x a b).le hl⟩
 | row t l=>
  rcases h with⟨h1,h2⟩ | ⟨b,cap,cur,e,h1,h2,h3,h4,h5,h6⟩
  ·exact .inl ⟨hl.ids _ _ h1,h2⟩
  ·exact .inr ⟨b,cap,cur,e,hl.ids _ _ h1,(hb rfl b (G.MH h1)).trans h2,h3,h4,h5,λk d x a b=>(h6 k d x a b).le hl⟩
 | Nc t l=>obtain⟨pl,h1,h2⟩:=h;refine⟨pl,hl.ids _ _ h1,h2.O_ hl.Li hl.heap ?_⟩;rintro b0 c rfl b hbb;exact hb rfl b ⟨b0,c,h1,hbb⟩
 | Tc t l=>
  rcases h with⟨h1,h2⟩ | ⟨b,cap,ns,h1,hn,h2,h3,h4,h5⟩
  ·exact .inl ⟨hl.ids _ _ h1,h2⟩
  ·refine .inr ⟨b,cap,ns,hl.ids _ _ h1,λb' hb'=>hl.Li b' (hn b' hb'),hl.Li b h2,h3,h4,λk d hk=>?_⟩;obtain⟨x,k1,k2⟩:=h5 k d hk
   exact⟨x,by rw[Nh (hl.heap b h2)];exact k1,k2.le hl⟩
 | ZM cs=>
  obtain⟨b,c,h1,h2,h5⟩:=h;refine⟨b,c,hl.ids _ _ h1,hl.Li b h2,λk d hk=>?_⟩;obtain⟨x,k1,k2⟩:=h5 k d hk
  exact⟨x,by rw[Nh (hl.heap b h2)];exact k1,k2.le hl⟩
 | mp t l=>obtain⟨b,h1,h2⟩:=h;exact⟨b,hl.ids _ _ h1,h2.O_ hl.Li hl.heap (hb rfl b (G.MH h1))⟩
 | it ob=>obtain⟨b,h1,h2⟩:=h;exact⟨b,hl.ids _ _ h1,(hb rfl b (G.MH h1)).trans h2⟩
 | Pq k n=>exact N9.mono (λr=>hl.ids _ r) (λr=>hl.ids _ r) h
 | Sr t l i ks=>obtain⟨pl,h1,h2⟩:=h;refine⟨pl,hl.ids _ _ h1,h2.O_ ?_ λk d x p hp hc=>hc.O_ hl.Li hl.heap hp⟩;rintro b0 c rfl b hbb;exact hb rfl b ⟨b0,c,h1,hbb⟩
 | NU t l j=>obtain⟨pl,h1,h2⟩:=h;refine⟨pl,hl.ids _ _ h1,h2.O_ ?_ λk d x p hp hc=>hc.O_ hl.Li hl.heap hp⟩;rintro b0 c rfl b hbb;exact hb rfl b ⟨b0,c,h1,hbb⟩
theorem uA{b:Nat}:∀{ns:NS},b∈MO ns→∃(k:Nat)(c:Nat×Nat),ns[k]? = some (some (b,c))
 | [],h=>by simp[MO]at h
 | none::ns,h=>by
  obtain⟨k,c,hk⟩:=uA (ns:=ns) h
  exact⟨k+1,c,by simpa using hk⟩
 | some (b',c')::ns,h=>by
  rcases Nz.1 h with rfl | h
  ·exact⟨0,c',rfl⟩
  ·obtain⟨k,c,hk⟩:=uA (ns:=ns) h
   exact⟨k+1,c,by simpa using hk⟩
theorem iq(t:Ty)(l:List (ET F t)):(cells F t l).length=l.length*LY F t:=by
 unfold cells
 induction l with
 | nil=>simp
 | cons a l ih=>simp only[M9,YB,La,bo,PN,TF,ih];omega
theorem Ri.at{w:World}{t:Ty}{l:List (ET F t)}{C:Nat→ND F→Value→Option (Nat×Nat×Nat)→Prop}{b cap:Nat}{n:Nat×NS}(h:Ri w t l C (some (b,cap,n))){k:Nat}{pl:Option (Nat×Nat×Nat)}(hk:n.2[k]? = some pl) :
  ∃d x,(cells F t l)[k]? = some d∧C k d x pl:=by
 obtain⟨q1,q2,q3,q4,q5,cur,e,q6,q7,q8⟩:=h;have hlt:k<n.2.length:=(K_.1 hk).1
 have h1:k<(cells F t l).length:=by omega
 have h2:(cells F t l).length≤cur.length:=by rw[q7,iq];exact Rp _ q2
 exact⟨_,_,K9 h1,q8 k _ _ _ (K9 h1) (K9 (by omega:k<cur.length)) hk⟩
theorem xO{w:World}{Li:Nat→Prop}{d:ND F}{x:Value}{q:Nat×Nat×Nat}(h:Ov w Li d x (some q)):∃t' l',d = .sl t' l'∧da w Li t' l' (some (q.1,q.2.1,q.2.2,[])):=by
 cases d with
 | sl t' l'=>exact⟨t',l',rfl,h.1⟩
 | _=>exact absurd h.1 (by simp)
theorem P8.sub{w:World}{Li:Nat→Prop}{t:Ty}{l:List (ET F t)}{b cap:Nat}{n:Nat×NS}(h:P8 w Li t l (some (b,cap,n))){k b':Nat}{c':Nat×Nat}(hk:n.2[k]? = some (some (b',c'))) :
  ∃t' l',(cells F t l)[k]? = some (.sl t' l')∧da w Li t' l' (some (b',c'.1,c'.2,[])):=by
 obtain⟨d,x,h1,h2⟩:=Ri.at (C:=λ_=>Ov w Li) h hk;obtain⟨t',l',rfl,h3⟩:=xO h2;exact⟨t',l',h1,h3⟩
theorem Ri.blk{w:World}{t:Ty}{l:List (ET F t)}{C:Nat→ND F→Value→Option (Nat×Nat×Nat)→Prop}{b cap:Nat}{n:Nat×NS}(h:Ri w t l C (some (b,cap,n)))(hC:∀k d x q,C k d x (some q)→∃Li,Ov w Li d x (some q)){b':Nat}(hb:b'∈b::MO n.2):b'<w.heap.size:=by
 have key:∀{b:Nat}{o:Obj},w.heap[b]? = some o→b<w.heap.size:=λh=>(Wj.1 h).1;rcases Nz.1 hb with rfl | h4
 ·obtain⟨_,_,_,_,_,cur,e,q6,_⟩:=h;exact key q6
 ·obtain⟨k,c',hk⟩:=uA h4;obtain⟨d,x,_,h2⟩:=Ri.at h hk;obtain⟨Li,h3⟩:=hC _ _ _ _ h2;obtain⟨t',l',_,_,_,_,cur,e,q,_⟩:=xO h3;exact key q
theorem rn.some{w:World}{Li:Nat→Prop}{sz i:Nat}{ks:List Nat}{k:Nat}{d:ND F}{x:Value}{q:Nat×Nat×Nat}(h:rn w Li sz i ks k d x (some q)):Ov w Li d x (some q):=by
 by_cases hn:∃q∈ks,k=i*sz+q
 ·exact absurd (h.1 hn).1 (by simp)
 ·exact h.2 hn
theorem Vh.some{w:World}{Li:Nat→Prop}{sz j:Nat}{k:Nat}{d:ND F}{x:Value}{q:Nat×Nat×Nat}(h:Vh w Li sz j k d x (some q)):Ov w Li d x (some q):=by
 by_cases hn:k<j*sz
 ·exact h.1 hn
 ·exact absurd (h.2 hn).1 (by simp)
theorem Na.place{g:G}{w:World}(hi:∀b,g.Li b→b<w.heap.size){id:Nat}{B:Mg F}(ho:B.ab2=false)(h:Na g w id B){b:Nat}(hb:g.blk id b) :
  b<w.heap.size:=by
 have key:∀{b:Nat}{o:Obj},w.heap[b]? = some o→b<w.heap.size:=λh=>(Wj.1 h).1
 cases B with
 | box cs=>obtain⟨b',c',arr,t,h1,h2,_⟩:=h;rw[G.SQ h1 hb];exact key h2
 | row t l=>
  rcases h with⟨h1,h2⟩ | ⟨b',cap,cur,e,h1,h2,_⟩
  ·exact(G.Vj h1 hb).elim
  ·rw[G.SQ h1 hb];exact key h2
 | Nc t l=>
  obtain⟨pl,h1,h2⟩:=h;obtain⟨b0,c,h3,h4⟩:=hb;rw[h1]at h3;cases h3;rcases Nz.1 h4 with rfl | h4
  ·obtain⟨_,_,_,_,_,cur,e,q6,_⟩:=h2;exact key q6
  ·obtain⟨k,c',hk⟩:=uA h4;obtain⟨t',l',_,_,_,_,cur,e,q,_⟩:=P8.sub (n:=c.2) h2 hk;exact key q
 | Tc t l=>
  rcases h with⟨h1,h2⟩ | ⟨b',cap,ns,h1,hn,h2,_⟩
  ·exact(G.Vj h1 hb).elim
  ·obtain⟨b0,c,h3,h4⟩:=hb;rw[h1]at h3;cases h3;rcases Nz.1 h4 with rfl | h4
   ·exact hi _ h2
   ·exact hi _ (hn _ h4)
 | ZM cs=>obtain⟨b',c',h1,h2,_⟩:=h;rw[G.SQ h1 hb];exact hi _ h2
 | mp t l=>obtain⟨b',h1,es,h2,_⟩:=h;rw[G.SQ h1 hb];exact key h2
 | it ob=>obtain⟨b',h1,h2⟩:=h;rw[G.SQ h1 hb];exact key h2
 | Pq k n=>cases ho
 | Sr t l i ks=>obtain⟨pl,h1,h2⟩:=h;obtain⟨b0,c,h3,h4⟩:=hb;rw[h1]at h3;cases h3;exact Ri.blk (n:=c.2) h2 (λ_ _ _ _ hc=>⟨_,hc.some⟩) h4
 | NU t l j=>obtain⟨pl,h1,h2⟩:=h;obtain⟨b0,c,h3,h4⟩:=hb;rw[h1]at h3;cases h3;exact Ri.blk (n:=c.2) h2 (λ_ _ _ _ hc=>⟨_,hc.some⟩) h4
structure Ow where
 o:Nat→Prop
 i:Nat→Prop
 nm:Nat→Option Pl
structure LQ(ow:Ow)(g:G)(w:World)(m:Nat→Option (Mg F)):Prop where
 ok:∀id B,m id=some B→Na g w id B
 SX:∀id id' B B' b,m id=some B→m id'=some B'→B.owned=true→B'.owned=true→g.blk id b→g.blk id' b→id=id'
 own:∀id B b,m id=some B→B.owned=true→g.blk id b→ow.o b∧¬ g.Li b
 Li:∀b,g.Li b→b<w.heap.size
 io:∀b,g.Li b→ow.i b∨ow.o b
 len:∀b,g.len b→¬ ow.o b∧b<w.heap.size
structure Stp(m:Nat→Option (Mg F))(g:G)(w:World)(g':G)(w':World):Prop where
 le:Le g w g' w'
 os:w'.os=w.os
 tape:w'.tape=w.tape
 output:w'.output=w.output
 size:w.heap.size≤w'.heap.size
 frame:∀b,b<w.heap.size→(∀id B,m id=some B→B.owned=true→¬ g.blk id b)→w'.heap[b]? = w.heap[b]?
 drawn:w.drawn≤w'.drawn
theorem Stp.refl(m:Nat→Option (Mg F))(g:G)(w:World):Stp m g w g w:=⟨.refl _ _,rfl,rfl,rfl,MN _,λ_ _ _=>rfl,MN _⟩
structure Vo(own:Ow)(W0 w:World):Prop where
 os:w.os=W0.os
 tape:w.tape=W0.tape
 output:w.output=W0.output
 size:W0.heap.size≤w.heap.size
 fresh:∀b,W0.heap.size≤b→own.o b
 block:∀b,b<W0.heap.size→¬ own.o b→w.heap[b]? = W0.heap[b]?
 drawn:W0.drawn≤w.drawn
theorem Vo.stp{own:Ow}{W0 w w':World}{g g':G}{m:Nat→Option (Mg F)}(h:Vo own W0 w)(hm:LQ own g w m)(hs:Stp m g w g' w'):Vo own W0 w':=by refine⟨hs.os.trans h.os,hs.tape.trans h.tape,hs.output.trans h.output,Rb h.size hs.size,h.fresh,λb hb ho=>?_,Rb h.drawn hs.drawn⟩;rw[← h.block b hb ho];exact hs.frame b (UG hb h.size) (λid B hB hw hi=>ho (hm.own id B b hB hw hi).1)
structure St(F:Fam) where
 e:Nat→Option (Dat F)
 m:Nat→Option (Mg F)
 u:Nat→Bool
structure Good(P:Program)(own:Ow)(W0:World)(n:Nat)(s:St F)(g:G)(a:Act)(w:World):Prop where
 Ue:a.defers = []
 Tj:a.tmps.size=n
 env:∀x d,s.e x=some d→Ma P g w d (a.tmps.getD x undef)
 mem:LQ own g w s.m
 dom:∀id,s.u id=false→g.ids id=none
 Tw:∀b,own.i b→g.Li b
 NW:Vo own W0 w
 Sn:∀id p,own.nm id=some p→g.ids id=some p
def MF(P:Program)(g:G)(w:World)(ds:List (Dat F))(vs:List Value):Prop:=
 vs.length=ds.length∧∀(k:Nat)(d:Dat F)(x:Value),ds[k]? = some d→vs[k]? = some x→Ma P g w d x
end
set_option linter.unusedVariables false
set_option linter.unusedSimpArgs false
structure TI(F:Fam) where
 desc:TypeDesc
 size:Nat
 bytes:Nat
 zero:List (ND F)
 ty:Option Ty
 eq:Bool:=false
def fM:TypeDesc→Bool
 | .struct _ | .array _ _=>true
 | _=>false
def look{α : Type}:List (Nat×α)→Nat→Option α
 | [],_=>none
 | (y,a)::r,x=>if Nat.beq y x then some a else look r x
def Mf(x:Nat):List Nat→Bool
 | []=>false
 | y::l=>if Nat.beq y x then true else Mf x l
structure SS(F:Fam) where
 val:Dat F
 mw:List (Nat×Option (Mg F)):=[]
 nu:Nat:=0
inductive Kd where
 | v (t:Ty) (ow:List Nat)
 | box (t:Ty) (ow:List Nat)
 | rp (t:Ty)
 | fn (ks:List Ty) (r:Ty)
 | row (t:Ty) (arr:Bool)
 | TD (t:Ty)
 | pk (k:Nat) (t:Ty)
 | ln (t:Ty)
 | nb (t:Ty) (ow:List Nat)
 | cl (f n:Nat)
section
variable(F:Fam)
@[reducible] def Kd.El:Kd→Type
 | .v t _=>ET F t
 | .box t _=>ET F t
 | .rp t=>ET F t
 | .fn ks r=>M7 F ks→Option (ET F r)
 | .row t _=>List (ET F t)
 | .TD t=>ET F t
 | .pk _ t=>ET F t
 | .ln t=>ET F t
 | .nb t _=>ET F t
 | .cl _ _=>Unit
@[reducible] def HL:List Kd→Type
 | []=>Unit
 | k::r=>k.El F×HL r
@[reducible] def TL:List Kd→Type
 | []=>Unit
 | [k]=>k.El F
 | k::l::r=>k.El F×TL (l::r)
end
def Kd.X8:Kd→Bool
 | .ln _=>true
 | _=>false
def Kd.ab1:Kd→Bool
 | .v _ []=>true
 | .rp _=>true
 | .fn _ _=>true
 | .TD _=>true
 | .pk _ _=>true
 | .ln _=>true
 | _=>false
def zJ(ks:List Kd):Bool:=ks.all (λk=>!k.X8)||ks.all Kd.ab1
def Kd.Ur:Kd→Bool
 | .cl _ _=>true
 | _=>false
def Kd.Ni:Kd→Bool
 | .box _ _=>true
 | .row _ _=>true
 | _=>false
structure Spec(F:Fam) where
 ks:List Kd
 rs:List Kd
 D:HL F ks→Option (TL F (rs++ks.filter Kd.Ni))
def OE{α : Type}(p:α→Bool)(l:List α)(z:α):α:=(l.find? p).getD z
def P7{α : Type}(p:α→Bool)(l:List α):Bool:=l.any p
def NP{α : Type}(p:α→Bool)(l:List α)(y:α):List α:=match l with
 | []=>[y]
 | x::r=>cond (p x) (y::r) (x::NP p r y)
def nz(x:Int):Option Unit:=if x≠0 then some ()else none
def nn(x:Int):Option Unit:=if 0≤x then some ()else none
def idx{α : Type}(l:List α)(i:Int):Option α:=if 0≤i then l[i.toNat]? else none
def MZ(i:Int)(n:Nat):Option Nat:=if 0≤i∧i.toNat<n then some i.toNat else none
def OQ(a b:Int)(n:Nat):Option (Nat×Nat):=if 0≤a∧a≤b∧b≤n then some (a.toNat,b.toNat - a.toNat)else none
def slc{α : Type}(l:List α)(a b:Int):Option (List α):=if 0≤a∧a≤b∧b≤l.length then some ((l.take b.toNat).drop a.toNat)else none
def cat(l m:List UInt8):Option (List UInt8):=if Nat.ble (l.length+m.length) 9223372036854775807 then some (l++m)else none
def app{α : Type}(b:Nat)(l m:List α):Option (List α):=if(l++m).length≤maxLen∧(l++m).length*b≤140737488355328 then some (l++m)else none
def V9{α : Type}(b:Nat)(n m:Int)(z:α):Option (List α):=if 0≤n∧n≤m∧m.toNat≤maxLen∧b*m.toNat≤281474976710656 then some (List.replicate n.toNat z)else none
def sub{α : Type}(l:List α)(a n:Nat):List α:=(l.drop a).take n
def Rn{α : Type}(l:List α)(a n:Nat)(ys:List α):List α:=l.take a++ys.take n++l.drop (a+min n ys.length)
def Mj(x y:Int):Int:=if y<x then y else x
def imax(x y:Int):Int:=if y>x then y else x
abbrev Lx(x:Int):Int:=IntKind.i64.wrap x
abbrev Rw(k:IntKind)(a b:Int):Int:=k.wrap (a*2 ^ min b.toNat k.bits)
abbrev Pg(_k:IntKind)(a b:Int):Int:=a.fdiv (2 ^ min b.toNat _k.bits)
abbrev RJ(k:IntKind)(a b:Int):Int:=k.wrap ((BitVec.ofInt k.bits a &&& BitVec.ofInt k.bits b).toNat)
abbrev orK(k:IntKind)(a b:Int):Int:=k.wrap ((BitVec.ofInt k.bits a ||| BitVec.ofInt k.bits b).toNat)
abbrev amq(k:IntKind)(a b:Int):Int:=k.wrap ((BitVec.ofInt k.bits a ^^^ BitVec.ofInt k.bits b).toNat)
def SG(l m:List UInt8):Bool:=Op.bytesLess l m||l == m
section
variable{F:Fam}
def Xp:Value→MJ F
 | .int k n=>.im (.i k n)
 | .bool b=>.im (.b b)
 | .string s=>.im (.s s.data.toList)
 | .slice none 0 0=>.im .nl
 | .agg _ | .tuple _=>.any
 | x=>.im (.v x)
def Zf:Value→Dat F
 | .agg cs=>.agg (cs.toList.map Xp)
 | x=>.c (Xp x)
def opd(e:Nat→Option (Dat F)):Operand→Dat F
 | .tmp t=>(e t).getD (.c .any)
 | .const v=>Zf v
 | .global g=>.c (.im (.v (.pointer (some ⟨g,0,none⟩))))
 | .func f=>.c (.im (.v (.func (.func f) #[] #[])))
def Dat.cells:Dat F→List (MJ F)
 | .c x=>[x]
 | .agg cs=>cs
 | _=>[]
def MJ.RO:MJ F→Bool
 | .any=>false
 | _=>true
def adt(t:Ty)(x:ET F t):Dat F:=
 match t,x with
 | .st n,x=>.agg ((LZ F (.st n) x).map .im)
 | .int k,n=>.c (.im (.i k n))
 | .bool,b=>.c (.im (.b b))
 | .str,l=>.c (.im (.s l))
 | .slice t,l=>.c (.im (.sl t l))
def Ml(m:Nat→Option (Mg F)):List (Nat×Option (Mg F))→Nat→Option (Mg F)
 | []=>m
 | (id,B)::r=>Ml (λx=>if Nat.beq id x then B else m x) r
def Tp(mm:Nat→Option (Mg F)):Nat→Nat→Nat
 | 0,id=>id
 | n+1,id=>match mm id with
  | some (.Pq k _)=>Tp mm n k
  | _=>id
def U7(mm:Nat→Option (Mg F))(id:Nat):Nat:=match mm id with
 | some (.Pq k _)=>Tp mm 8 k
 | _=>id
def WC(mm:Nat→Option (Mg F)):MJ F→MJ F
 | .Nn id=>.Nn (U7 mm id)
 | .OV id sz i off=>.OV (U7 mm id) sz i off
 | .RD id sz off n=>.RD (U7 mm id) sz off n
 | c=>c
def aag(mm:Nat→Option (Mg F)):Dat F→Dat F
 | .c x=>.c (WC mm x)
 | d=>d
def YT(mm:Nat→Option (Mg F))(id:Nat):Option (ND F×List Nat):=match mm id with
 | some (.row t l)=>some (.sl t l,[id])
 | some (.Nc t l)=>some (.sl t l,[id])
 | some (.Tc t l)=>some (.sl t l,[])
 | _=>none
def Sl(mm:Nat→Option (Mg F)):MJ F→Option (ND F×List Nat)
 | .im d=>some (d,[])
 | .Nn id=>YT mm (U7 mm id)
 | .RD id sz off n=>match mm id with
  | some (.row t l)=>if sz=LY F t then some (.sl t (sub l off n),[id])else none
  | some (.Tc t l)=>if sz=LY F t then some (.sl t (sub l off n),[])else none
  | _=>none
 | _=>none
def cF(mm:Nat→Option (Mg F)):List (MJ F)→Option (List (ND F)×List Nat)
 | []=>some ([],[])
 | c::r=>match Sl mm c with
  | none=>none
  | some (d,i)=>match cF mm r with
   | none=>none
   | some (ds,j)=>some (d::ds,i++j)
def Uw(mm:Nat→Option (Mg F))(ids:List Nat)(id:Nat):Option (Mg F):=
 match mm id with
 | some (.row t l)=>some (.Tc t l)
 | some (.Nc t l)=>some (.Tc t l)
 | some (.box cs)=>match cF mm cs with
  | some (ds,fz)=>cond (fz.all (λx=>Mf x ids)) (some (.ZM ds)) none
  | none=>none
 | b=>b
def Wo(mm:Nat→Option (Mg F))(ids:List Nat):List (Nat×Option (Mg F)):=ids.map λid=>(id,Uw mm ids id)
def sZ(mm:Nat→Option (Mg F)):MJ F→Option (ND F×Option Nat)
 | .Nn id=>match mm id with
  | some (.row t l)=>cond t.Ny none (some (.sl t l,some id))
  | _=>none
 | .Sy id=>match mm id with
  | some (.mp t l)=>cond t.Ny (some (.sl t l,some id)) none
  | _=>none
 | .im .nl=>some (.nl,none)
 | _=>none
def xo(mm:Nat→Option (Mg F))(id:Nat):Option (ND F×Option Nat):=match mm id with
 | some (.Nc t l)=>some (.sl t l,some id)
 | _=>none
def ro(mm:Nat→Option (Mg F)):MJ F→Option (ND F×Option Nat)
 | .Nn id=>xo mm (U7 mm id)
 | .im .nl=>some (.nl,none)
 | _=>none
def gV(mm:Nat→Option (Mg F))(ow:List Nat):Nat→List (MJ F)→Option (List (ND F)×List (Option Nat)×List Nat)
 | _,[]=>some ([],[],[])
 | k,c::r=>
  if Mf k ow then
   match sZ mm c with
   | none=>none
   | some (d,o)=>match gV mm ow (k+1) r with
    | none=>none
    | some (ds,os,fz)=>some (d::ds,o::os,fz)
  else if Mf (k+1000) ow then
   match ro mm c with
   | none=>none
   | some (d,o)=>match gV mm ow (k+1) r with
    | none=>none
    | some (ds,os,fz)=>some (d::ds,o::os,fz)
  else
   match Sl mm c with
   | none=>none
   | some (d,i)=>match gV mm ow (k+1) r with
    | none=>none
    | some (ds,os,fz)=>some (d::ds,os,i++fz)
def zY(t:Ty):Dat F→Option (List (MJ F))
 | .c x=>if t.OP then none else some [x]
 | .agg cs=>if t.OP then some cs else none
 | _=>none
structure Pk(α : Type) where
 x:α
 os:List (Option Nat)
 fz:List Nat
 bx:List Nat
abbrev Ctx(F:Fam):=List (Nat×Spec F)
def VO(mm:Nat→Option (Mg F))(t:Ty)(ow:List Nat)(d:Dat F):Option (Pk (ET F t)):=
 match zY t d with
 | none=>none
 | some cs=>match gV mm ow 0 cs with
  | none=>none
  | some (ds,os,fz)=>match O4 F t ds with
   | none=>none
   | some x=>some ⟨x,os,fz,[]⟩
def nE(mm:Nat→Option (Mg F))(t:Ty)(ow:List Nat):Dat F→Option (Pk (ET F t))
 | .c (.ptr id 0)=>match mm id with
  | some (.box cs)=>match gV mm ow 0 cs with
   | none=>none
   | some (ds,os,fz)=>match O4 F t ds with
    | none=>none
    | some x=>some ⟨x,some id::os,fz,[id]⟩
  | _=>none
 | _=>none
def vY(t:Ty)(arr:Bool):Dat F→Option Nat
 | .c (.ptr id 0)=>cond t.Ny none (if arr then some id else none)
 | .c (.Nn id)=>cond t.Ny none (if arr then none else some id)
 | .c (.Sy id)=>cond t.Ny (some id) none
 | _=>none
def Pf(t:Ty)(arr:Bool)(id:Nat):Dat F:=cond t.Ny (.c (.Sy id)) (if arr then .c (.ptr id 0)else .c (.Nn id))
def S_(t:Ty)(l:List (ET F t)):Mg F:=cond t.Ny (.mp t l) (.row t l)
def adu(F:Fam)(t:Ty)(id:Nat):MJ F:=cond t.Ny (.Sy id) (.Nn id)
def rr(mm:Nat→Option (Mg F))(t:Ty)(id:Nat):Option (Pk (List (ET F t))):=
 match mm id with
 | some (.row t' l)=>if h:t'=t then cond t.Ny none (some ⟨h▸l,[some id],[],[id]⟩)else none
 | some (.mp t' l)=>if h:t'=t then cond t.Ny (some ⟨h▸l,[some id],[],[id]⟩) none else none
 | _=>none
def wO(mm:Nat→Option (Mg F))(t:Ty)(arr:Bool)(d:Dat F):Option (Pk (List (ET F t))):=
 match vY t arr d with
 | some id=>rr mm t id
 | none=>none
def Ev(mm:Nat→Option (Mg F))(t:Ty)(ow:List Nat)(d:Dat F):Option (Pk (ET F t)):=
 match nE mm t ow d with
 | some p=>some ⟨p.x,p.os,p.fz,[]⟩
 | none=>none
def we(mm:Nat→Option (Mg F))(t:Ty):Dat F→Option (Pk (ET F t))
 | .c (.pt cs 0)=>match O4 F t cs with
  | some x=>some ⟨x,[],[],[]⟩
  | none=>none
 | .c (.ptr id 0)=>match mm id with
  | some (.box cs)=>match cF mm cs with
   | none=>none
   | some (ds,fz)=>match O4 F t ds with
    | none=>none
    | some x=>some ⟨x,[],id::fz,[]⟩
  | some (.ZM cs)=>match O4 F t cs with
   | some x=>some ⟨x,[],[],[]⟩
   | none=>none
  | _=>none
 | _=>none
def uF(mm:Nat→Option (Mg F))(t:Ty):Dat F→Option (Pk (ET F t))
 | .c (.ptr id 0)=>match mm id with
  | some (.box [.ptr id2 0])=>match mm id2 with
   | some (.box cs)=>match cF mm cs with
    | none=>none
    | some (ds,fz)=>match O4 F t ds with
     | none=>none
     | some x=>some ⟨x,[],id::id2::fz,[]⟩
   | _=>none
  | some (.box [.pt cs 0])=>match O4 F t cs with
   | none=>none
   | some x=>some ⟨x,[],[id],[]⟩
  | _=>none
 | _=>none
def v5(mm:Nat→Option (Mg F))(k:Nat)(t:Ty):Dat F→Option (Pk (ET F t))
 | .c (.ptr id 0)=>match mm id with
  | some (.box [.ptr id2 0])=>match mm id2 with
   | some (.box cs)=>match cs[k]? with
    | some (.im d)=>match O4 F t [d]with
     | some x=>some ⟨x,[],[id,id2],[]⟩
     | none=>none
    | _=>none
   | _=>none
  | _=>none
 | _=>none
def YU:MJ F→MJ F
 | .ln d=>.im d
 | c=>c
def Vy:Dat F→Dat F
 | .c x=>.c (YU x)
 | .agg cs=>.agg (cs.map YU)
 | d=>d
def FV(mm:Nat→Option (Mg F))(t:Ty)(d:Dat F):Option (Pk (ET F t)):=
 match VO mm t [] (Vy d)with
 | none=>none
 | some p=>some ⟨p.x,[],[],[]⟩
def UL(mm:Nat→Option (Mg F)):(k:Kd)→Dat F→Option (Pk (k.El F))
 | .v t [],d=>VO mm t [] d
 | .rp t,d=>we mm t d
 | .TD t,d=>uF mm t d
 | .pk k t,d=>v5 mm k t d
 | _,_=>none
def O1(mm:Nat→Option (Mg F)):(kk:List Kd)→(fs:List (Dat F))→(ks:List Ty)→(cs:List (Dat F))→Option (Pk (M7 F ks→HL F kk))
 | k::kk,d::fs,ks,cs=>match UL mm k d with
  | none=>none
  | some p=>match O1 mm kk fs ks cs with
   | none=>none
   | some q=>some ⟨λa=>(p.x,q.x a),[],p.fz++q.fz,[]⟩
 | .v t' []::kk,[],t::ks,cs=>if h:t=t' then match O1 mm kk [] ks cs with
   | none=>none
   | some q=>some ⟨λa=>(h▸a.1,q.x a.2),[],q.fz,[]⟩else none
 | k::kk,[],[],d::cs=>match UL mm k d with
  | none=>none
  | some p=>match O1 mm kk [] [] cs with
   | none=>none
   | some q=>some ⟨λa=>(p.x,q.x a),[],p.fz++q.fz,[]⟩
 | [],[],[],[]=>some ⟨λ_=>(),[],[],[]⟩
 | _,_,_,_=>none
def xj(ks:List Kd)(t r:Ty):(bl:List Kd)→(HL F ks→Option (TL F ([.v t []]++bl)))→Option (HL F ks→Option (ET F r))
 | [],D=>if e:t=r then some (λa=>(e▸(D a:Option (ET F t)):Option (ET F r)))else none
 | _::_,_=>none
def fb(sp:Spec F)(r:Ty):Option (HL F sp.ks→Option (ET F r)):=
 match sp with
 | ⟨ks,[.v t []],D⟩=>xj ks t r (ks.filter Kd.Ni) D
 | _=>none
def je(F:Fam):Ty→Bool
 | .slice _=>false
 | .st n=>(F.fs n).all λt=>match t with | .slice _=>false | .st _=>false | _=>true
 | _=>true
def AL(Γ : Ctx F)(mm:Nat→Option (Mg F))(ks:List Ty)(r:Ty):Dat F→Option (Pk (M7 F ks→Option (ET F r)))
 | .fv ks' r' φ=>if h:ks'=ks then if h':r'=r then some ⟨h▸h'▸φ,[],[],[]⟩else none else none
 | .RY (.func f) [] cs=>if je F r then match look Γ f with
  | none=>none
  | some sp=>match fb sp r,O1 mm sp.ks [] ks cs with
   | some D,some q=>some ⟨λa=>D (q.x a),[],q.fz,[]⟩
   | _,_=>some ⟨λ_=>none,[],[],[]⟩
  else none
 | .RY (.func f) (d::fs) cs=>if je F r&&Nat.beq ks.length 1 then match look Γ f with
  | none=>none
  | some sp=>match fb sp r,O1 mm sp.ks (d::fs) ks cs with
   | some D,some q=>some ⟨λa=>D (q.x a),[],q.fz,[]⟩
   | _,_=>none
  else none
 | .c (.im (.v (.func (.func f) ⟨[]⟩ ⟨[]⟩)))=>if je F r then match look Γ f with
  | none=>none
  | some sp=>match fb sp r,O1 mm sp.ks [] ks []with
   | some D,some q=>some ⟨λa=>D (q.x a),[],q.fz,[]⟩
   | _,_=>none
  else none
 | _=>none
def Rs(Γ : Ctx F)(mm:Nat→Option (Mg F)):(k:Kd)→Dat F→Option (Pk (k.El F))
 | .v t ow,d=>VO mm t ow d
 | .box t ow,d=>nE mm t ow d
 | .rp t,d=>we mm t d
 | .fn ks r,d=>AL Γ mm ks r d
 | .row t arr,d=>wO mm t arr d
 | .TD t,d=>uF mm t d
 | .pk k t,d=>v5 mm k t d
 | .ln t,d=>FV mm t d
 | .nb t ow,d=>Ev mm t ow d
 | .cl _ _,_=>none
def zu(f n:Nat):List (Dat F)→Option (List (Dat F))
 | .RY (.func f') [] cs::ds=>if Nat.beq f' f&&Nat.beq cs.length n then some (cs++ds)else none
 | _=>none
def lH(Γ : Ctx F)(mm:Nat→Option (Mg F)):(ks:List Kd)→List (Dat F)→Option (Pk (HL F ks))
 | [],[]=>some ⟨(),[],[],[]⟩
 | .cl f n::ks,ds=>match zu f n ds with
  | none=>none
  | some ds'=>match lH Γ mm ks ds' with
   | none=>none
   | some q=>some ⟨((),q.x),q.os,q.fz,q.bx⟩
 | k::ks,d::ds=>match Rs Γ mm k d with
  | none=>none
  | some p=>match lH Γ mm ks ds with
   | none=>none
   | some q=>some ⟨(p.x,q.x),p.os++q.os,p.fz++q.fz,p.bx++q.bx⟩
 | _,_=>none
def OO(ow:List Nat):Nat→Nat→List (ND F)→List (MJ F)×List (Nat×Mg F)×Nat
 | _,c,[]=>([],[],c)
 | k,c,d::r=>
  if Mf k ow then
   match d with
   | .sl t l=>match OO ow (k+1) (c+1) r with
    | (cs,bs,c')=>(adu F t c::cs,(c,S_ t l)::bs,c')
   | d=>match OO ow (k+1) c r with
    | (cs,bs,c')=>(.im d::cs,bs,c')
  else if Mf (k+1000) ow then
   match d with
   | .sl t l=>match OO ow (k+1) (c+1) r with
    | (cs,bs,c')=>(.Nn c::cs,(c,.Nc t l)::bs,c')
   | d=>match OO ow (k+1) c r with
    | (cs,bs,c')=>(.im d::cs,bs,c')
  else match OO ow (k+1) c r with
   | (cs,bs,c')=>(.im d::cs,bs,c')
def VW(t:Ty)(cs:List (MJ F)):Dat F:=if t.OP then .agg cs else match cs with | [x]=>.c x | _=>.c .any
def O5:(k:Kd)→k.El F→Nat→Dat F×List (Nat×Mg F)×Nat
 | .v t ow,x,c=>match OO ow 0 c (LZ F t x)with
  | (cs,bs,c')=>(VW t cs,bs,c')
 | .box t ow,x,c=>match OO ow 0 (c+1) (LZ F t x)with
  | (cs,bs,c')=>(.c (.ptr c 0),(c,.box cs)::bs,c')
 | .rp t,x,c=>(.c (.pt (LZ F t x) 0),[],c)
 | .fn ks r,φ,c=>(.fv ks r φ,[],c)
 | .row t arr,x,c=>(Pf t arr c,[(c,S_ t x)],c+1)
 | .TD t,x,c=>(.c (.Uz (LZ F t x)),[],c)
 | .pk k t,x,c=>(.c .any,[],c)
 | .ln t,x,c=>(.c .any,[],c)
 | .nb t ow,x,c=>match OO ow 0 (c+1) (LZ F t x)with
  | (cs,bs,c')=>(.c (.ptr c 0),(c,.box cs)::bs,c')
 | .cl _ _,x,c=>(.c .any,[],c)
def Zj(t:Ty)(x:ET F t):Dat F:=VW t ((LZ F t x).map λd=>if d.flat then .im d else .ln d)
def TQ:(ks:List Kd)→HL F ks→List (Dat F)→List (Dat F)
 | [],_,ds=>ds
 | _::_,_,[]=>[]
 | .cl _ _::_,_,ds=>ds
 | .ln t::ks,a,_::ds=>Zj t a.1::TQ ks a.2 ds
 | _::ks,a,d::ds=>d::TQ ks a.2 ds
def NV:(ks:List Kd)→HL F ks→Nat→List (Dat F)×List (Nat×Mg F)×Nat
 | [],_,c=>([],[],c)
 | .cl f n::ks,a,c=>match NV ks a.2 c with
  | (ds,bs,c')=>(.RY (.func f) [] (ds.take n)::ds.drop n,bs,c')
 | k::ks,a,c=>match O5 k a.1 c with
  | (d,bs,c')=>match NV ks a.2 c' with
   | (ds,bs',c'')=>(d::ds,bs++bs',c'')
def oo(ow:List Nat):List Nat:=if Mf 7000 ow then[]else ow
def aw:(ks:List Kd)→TL F ks→List Nat→Nat→List (Dat F)×List (Nat×Mg F)×Nat
 | [],_,_,c=>([],[],c)
 | [.box t ow],x,b::_,c=>match OO (oo ow) 0 c (LZ F t x)with
  | (cs,bs,c')=>([],(b,.box cs)::bs,c')
 | .box t ow::l::ks,a,b::bx,c=>match OO (oo ow) 0 c (LZ F t a.1)with
  | (cs,bs,c')=>match aw (l::ks) a.2 bx c' with
   | (ds,bs',c'')=>(ds,(b,.box cs)::(bs++bs'),c'')
 | [.row t _],x,b::_,c=>([],[(b,S_ t x)],c)
 | .row t _::l::ks,a,b::bx,c=>match aw (l::ks) a.2 bx c with
   | (ds,bs',c'')=>(ds,(b,S_ t a.1)::bs',c'')
 | [k],a,_,c=>match O5 k a c with
  | (d,bs,c')=>([d],bs,c')
 | k::l::ks,a,bx,c=>match O5 k a.1 c with
  | (d,bs,c')=>match aw (l::ks) a.2 bx c' with
   | (ds,bs',c'')=>(d::ds,bs++bs',c'')
def aU:(ks:List Kd)→HL F ks→Nat→List Nat
 | [],_,_=>[]
 | .box t ow::ks,a,c=>c::aU ks a.2 (O5 (.box t ow) a.1 c).2.2
 | .row t arr::ks,a,c=>c::aU ks a.2 (O5 (.row t arr) a.1 c).2.2
 | k::ks,a,c=>aU ks a.2 (O5 k a.1 c).2.2
def uy(F:Fam)(ow:List Nat):Nat→List Ty→Bool
 | _,[]=>true
 | k,t::ts=>(match t with | .slice e=>Mf k ow&&je F e&&!e.Ny | .st _=>false | _=>true)&&uy F ow (k+1) ts
def Kd.M4(F:Fam):Kd→Bool
 | .v t []=>je F t
 | .v (.st n) ow=>Mf 9999 ow&&uy F ow 0 (F.fs n)
 | .v (.slice t) ow=>Mf 0 ow&&je F t&&!t.Ny
 | _=>false
def d9:List Nat→Bool
 | []=>true
 | x::l=>!(Mf x l)&&d9 l
def Mq:List (Option Nat)→List Nat
 | []=>[]
 | some x::l=>x::Mq l
 | none::l=>Mq l
def RU:List Nat→List Nat→Bool
 | [],_=>true
 | x::l,m=>!(Mf x m)&&RU l m
def Wz:List (Dat F)→Dat F
 | [d]=>d
 | ds=>.Pp ds
end
set_option linter.unusedVariables false
set_option linter.unusedSimpArgs false
section
variable{F:Fam}{R:Type}
def fS(ti:TI F)(cs:List (MJ F))(off:Nat):Option (Dat F):=
 if fM ti.desc then(if Nat.ble (off+ti.size) cs.length then some (.agg ((cs.drop off).take ti.size))else none)else match cs[off]? with | some x=>some (.c x) | none=>none
def pK(o:Option (Dat F))(K:SS F→Option R):Option R:=match o with | some d=>K { val:=d } | none=>none
section
variable(T:TypeId→Option (TI F))(Γ : Ctx F)(vals:List (Dat F))(mm:Nat→Option (Mg F))(c:Nat)(K:SS F→Option R)
abbrev kI(k:IntKind)(n:Int):Option R:=K { val:=.c (.im (.i k n)) }
abbrev kB(b:Bool):Option R:=K { val:=.c (.im (.b b)) }
def VX:Operand→Bool
 | .const (.int _ n)=>n != 0
 | _=>false
def Xd:Operand→Bool
 | .const (.int _ n)=>decide (0≤n)
 | _=>false
def xp(op:BinOp)(k:IntKind)(n m:Int)(y:Operand):Option R:=
 match op with
 | .add=>kI K k (k.wrap (n+m))
 | .sub=>kI K k (k.wrap (n - m))
 | .mul=>kI K k (k.wrap (n*m))
 | .quo=>if VX y then kI K k (k.wrap (n.tdiv m))else(nz m).bind λ_=>kI K k (k.wrap (n.tdiv m))
 | .rem=>if VX y then kI K k (n.tmod m)else(nz m).bind λ_=>kI K k (n.tmod m)
 | .and=>kI K k (RJ k n m)
 | .or=>kI K k (orK k n m)
 | .xor=>kI K k (amq k n m)
 | .eql=>kB K (n == m)
 | .neq=>kB K (n != m)
 | .lss=>kB K (decide (n<m))
 | .leq=>kB K (decide (n≤m))
 | .gtr=>kB K (decide (n>m))
 | .geq=>kB K (decide (n≥m))
 | _=>none
def xk(op:BinOp)(l m:List UInt8):Option R:=
 match op with
 | .add=>(cat l m).bind λr=>K { val:=.c (.im (.s r)) }
 | .eql=>kB K (l == m)
 | .neq=>kB K (!(l == m))
 | .lss=>kB K (Op.bytesLess l m)
 | .leq=>kB K (SG l m)
 | .gtr=>kB K (!(SG l m))
 | .geq=>kB K (!(Op.bytesLess l m))
 | _=>none
def TY(d:Option TypeDesc)(a b:MJ F):Option Bool:=
 match d,a,b with
 | some (.int _),.im (.i k n),.im (.i k' m)=>if k=k' then some (n == m)else none
 | some .bool,.im (.b x),.im (.b y)=>some (x == y)
 | some .string,.im (.s l),.im (.s m)=>some (l == m)
 | _,_,_=>none
def jf(t:TypeId):Option TypeDesc:=match T t with | some ti=>some ti.desc | none=>none
def mX:List Field→Nat→List (MJ F)→List (MJ F)→Option Bool
 | [],_,[],[]=>some true
 | [f],off,[a],[b] => if f.name != "_" && f.offset == off then TY (jf T f.type) a b else none
 | f :: f' :: fs,off,a :: l,b :: r => if f.name != "_" && f.offset == off then match TY (jf T f.type) a b with
  | none=>none
  | some x=>match mX (f'::fs) (off+1) l r with
   | none=>none
   | some y=>some (x&&y)
  else none
 | _,_,_,_=>none
def V3(f:Field)(cs ds:List (MJ F)):Option (Bool×Nat):=
 match T f.type with
 | some ⟨.struct gs,n,_,_,_,true⟩=>if Nat.ble n cs.length&&Nat.ble n ds.length then match mX T gs.toList 0 (cs.take n) (ds.take n)with
  | some x=>some (x,n)
  | none=>none
  else none
 | some ti=>match cs,ds with
  | a::_,b::_=>match TY (some ti.desc) a b with
   | some x=>some (x,1)
   | none=>none
  | _,_=>none
 | none=>none
def oZ:List Field→Nat→List (MJ F)→List (MJ F)→Option Bool
 | [],_,[],[]=>some true
 | [f],off,cs,ds => if f.name != "_" && f.offset == off then match V3 T f cs ds with
  | some (x,n)=>if cs.length=n∧ds.length=n then some x else none
  | none=>none
  else none
 | f :: f' :: fs,off,cs,ds => if f.name != "_" && f.offset == off then match V3 T f cs ds with
  | some (x,n)=>match oZ (f'::fs) (off+n) (cs.drop n) (ds.drop n)with
   | some y=>some (x&&y)
   | none=>none
  | none=>none
  else none
 | _,_,_,_=>none
def Xo(fs:List Field)(cs ds:List (MJ F)):Option Bool:=
 match mX T fs 0 cs ds with
 | some b=>some b
 | none=>oZ T fs 0 cs ds
def acQ(op:BinOp)(xT:TypeId)(y:Operand):Option R:=
 match vals with
 | [.c (.im (.i k n)),.c (.im (.i k' m))]=>
  match op with
  | .shl=>if Xd y then kI K k (Rw k n m)else(nn m).bind λ_=>kI K k (Rw k n m)
  | .shr=>if Xd y then kI K k (Pg k n m)else(nn m).bind λ_=>kI K k (Pg k n m)
  | _=>if k=k' then xp K op k n m y else none
 | [.c (.im (.s l)),.c (.im (.s m))]=>xk K op l m
 | [.c (.im (.b x)),.c (.im (.b y))]=>
  match T xT,op with
  | some ⟨.bool,_,_,_,_,_⟩,.eql=>kB K (x == y)
  | some ⟨.bool,_,_,_,_,_⟩,.neq=>kB K (!(x == y))
  | _,_=>none
 | [.agg cs,.agg ds]=>
  match T xT,op with
  | some ⟨.struct fs,_,_,_,_,true⟩,.eql=>match Xo T fs.toList cs ds with | some b=>kB K b | none=>none
  | some ⟨.struct fs,_,_,_,_,true⟩,.neq=>match Xo T fs.toList cs ds with | some b=>kB K (!b) | none=>none
  | _,_=>none
 | [.c (.im (.sl _ l)),.c (.im .nl)]=>
  match y,T xT,op with
  | .const (.slice none 0 0),some ⟨.slice _,_,_,_,_,_⟩,.eql=>cond l.isEmpty none (kB K false)
  | .const (.slice none 0 0),some ⟨.slice _,_,_,_,_,_⟩,.neq=>cond l.isEmpty none (kB K true)
  | _,_,_=>none
 | _=>none
def tUn(op:UnOp):Option R:=
 match op,vals with
 | .neg,[.c (.im (.i k n))]=>kI K k (k.wrap (0 - n))
 | .not,[.c (.im (.b x))]=>kB K (!x)
 | _,_=>none
def toB(n:Int):UInt8:=UInt8.ofNat n.toNat
def Y3(src dst:TypeId):Option R:=
 match T src,T dst,vals with
 | some _,some ⟨.int k,_,_,_,_,_⟩,[.c (.im (.i _ n))]=>kI K k (k.wrap n)
 | some _,some ⟨.string,_,_,_,_,_⟩,[.c (.im (.s l))]=>K { val:=.c (.im (.s l)) }
 | some ⟨.slice e,_,_,_,_,_⟩,some ⟨.string,_,_,_,_,_⟩,[.c (.Nn id)]=>match T e with
  | some ⟨.int .u8,_,_,_,_,_⟩=>match mm id with
   | some (.row (.int .u8) l)=>K { val:=.c (.im (.s (l.map toB))) }
   | _=>none
  | _=>none
 | some ⟨.slice e,_,_,_,_,_⟩,some ⟨.string,_,_,_,_,_⟩,[.c (.im (.sl (.int .u8) l))]=>match T e with
  | some ⟨.int .u8,_,_,_,_,_⟩=>K { val:=.c (.im (.s (l.map toB))) }
  | _=>none
 | _,_,_=>none
def zo(s:TypeId)(f:Nat):Option R:=
 match T s with
 | some ⟨.struct fs,_,_,_,_,_⟩=>match fs[f]? with
  | none=>none
  | some Yt=>match T Yt.type with
   | none=>none
   | some ti=>if ti.size=0 then none else
    match vals with
    | [.c (.ptr id off)]=>K { val:=.c (.ptr id (off+Yt.offset)) }
    | [.c (.OV id sz i off)]=>K { val:=.c (.OV id sz i (off+Yt.offset)) }
    | [.c (.pt cs off)]=>K { val:=.c (.pt cs (off+Yt.offset)) }
    | [.c (.Ud id sz i off sz' j off')]=>K { val:=.c (.Ud id sz i off sz' j (off'+Yt.offset)) }
    | _=>none
 | _=>none
def YZ(s:TypeId)(f:Nat):Option R:=
 match T s,vals with
 | some ⟨.struct fs,size,_,_,_,_⟩,[.agg cs]=>match fs[f]? with
  | none=>none
  | some Yt=>match T Yt.type with
   | none=>none
   | some ti=>if cs.length=size then pK (fS ti cs Yt.offset) K else none
 | _,_=>none
def TW(n:Nat):Operand→Option Nat
 | .const (.int _ (.ofNat k))=>if Nat.blt k n then some k else none
 | _=>none
def sa(t:TypeId)(y:Operand):Option R:=
 match T t with
 | some ⟨.slice e,_,_,_,_,_⟩=>match T e with
  | none=>none
  | some te=>match vals with
   | [.c (.im (.sl t' l)),.c (.im (.i _ n))]=>if LY F t'=te.size then(idx l n).bind λx=>K { val:=.c (.pt (LZ F t' x) 0) }else none
   | [.c (.Nn id),.c (.im (.i _ n))]=>match mm id with
    | some (.row t' l)=>if LY F t'=te.size then(MZ n l.length).bind λi=>K { val:=.c (.OV id te.size i 0) }else none
    | some (.Nc t' l)=>if LY F t'=te.size then(MZ n l.length).bind λi=>K { val:=.c (.OV id te.size i 0) }else none
    | some (.Sr t' l _ _)=>if LY F t'=te.size then(MZ n l.length).bind λi=>K { val:=.c (.OV id te.size i 0) }else none
    | some (.NU t' l _)=>if LY F t'=te.size then(MZ n l.length).bind λi=>K { val:=.c (.OV id te.size i 0) }else none
    | some (.Tc t' l)=>if LY F t'=te.size then(idx l n).bind λx=>K { val:=.c (.pt (LZ F t' x) 0) }else none
    | _=>none
   | [.c (.Tv id sz i off),.c (.im (.i _ n))]=>match mm id with
    | some (.Nc t' l)=>if sz=LY F t' then(l[i]?).bind λx=>match(LZ F t' x)[off]? with
     | some (.sl t2 l2)=>if LY F t2=te.size then(MZ n l2.length).bind λj=>K { val:=.c (.Ud id sz i off te.size j 0) }else none
     | _=>none
     else none
    | _=>none
   | [.c (.RD id sz off len),.c (.im (.i _ n))]=>if sz=te.size then(MZ n len).bind λi=>K { val:=.c (.OV id sz (off+i) 0) }else none
   | [.c (.Tx id len),.c (.im (.i _ n))]=>if te.size=1 then(MZ n len).bind λi=>K { val:=.c (.ptr id i) }else none
   | _=>none
 | some ⟨.array len e,_,_,_,_,_⟩=>match T e with
  | none=>none
  | some te=>match vals with
   | [.c (.ptr id off),.c (.im (.i _ n))]=>match mm id,off with
    | some (.row t' _),0=>if LY F t'=te.size then
      match TW len y with
      | some i=>K { val:=.c (.OV id te.size i 0) }
      | none=>(MZ n len).bind λi=>K { val:=.c (.OV id te.size i 0) }
     else none
    | some (.box _),off=>match TW len y with
     | some i=>K { val:=.c (.ptr id (off+i*te.size)) }
     | none=>none
    | _,_=>none
   | [.c (.OV id sz j off),.c (.im (.i _ _))]=>match TW len y with
    | some i=>K { val:=.c (.OV id sz j (off+i*te.size)) }
    | none=>none
   | [.c (.pt cs off),.c (.im (.i _ _))]=>match TW len y with
    | some i=>K { val:=.c (.pt cs (off+i*te.size)) }
    | none=>none
   | _=>none
 | _=>none
def AN(t:TypeId):Option R:=
 match T t,vals with
 | some ⟨.string,_,_,_,_,_⟩,[.c (.im (.s l)),.c (.im (.i _ n))]=>(idx l n).bind λch=>kI K .u8 ch.toNat
 | _,_=>none
def Y0(t:TypeId):Option R:=
 match T t with
 | none=>none
 | some ti=>match vals with
  | [.c (.pt cs off)]=>pK (fS ti (cs.map .im) off) K
  | [.c (.Uz cs)]=>if fM ti.desc then none else K { val:=.c (.pt cs 0) }
  | [.c (.ptr id off)]=>match mm id with
   | some (.box cs)=>pK (fS ti cs off) K
   | some (.ZM cs)=>pK (fS ti (cs.map .im) off) K
   | _=>none
  | [.c (.OV id sz i off)]=>match mm id with
   | some (.row t' l)=>if sz=LY F t' then(l[i]?).bind λx=>pK (fS ti ((LZ F t' x).map .im) off) K else none
   | some (.Tc t' l)=>if sz=LY F t' then(l[i]?).bind λx=>pK (fS ti ((LZ F t' x).map .im) off) K else none
   | some (.Nc t' l)=>if sz=LY F t'&&!(fM ti.desc)then(l[i]?).bind λx=>match(LZ F t' x)[off]? with
    | some (.sl _ _)=>K { val:=.c (.Tv id sz i off) }
    | some d=>if d.flat then K { val:=.c (.im d) }else none
    | none=>none
    else none
   | _=>none
  | _=>none
def AQ(t:TypeId):Option R:=
 match T t with
 | none=>none
 | some ti=>match vals with
  | [.c (.ptr id off),v]=>match mm id with
   | some (.box cs)=>
    let vs:=v.cells
    if vs.length=ti.size&&vs.all MJ.RO&&Nat.ble (off+vs.length) cs.length&&Nat.blt 0 vs.length then
     K { val:=.c .any,mw:=[(id,some (.box (cs.take off++vs++cs.drop (off+vs.length))))] }else none
   | _=>none
  | [.c (.OV id sz i off),v]=>match mm id,cF mm v.cells with
   | some (.row t' l),some (ds,fz)=>
    if ds.length=ti.size&&sz == LY F t'&&Nat.ble (off+ds.length) (LY F t')&&Nat.blt 0 ds.length&&!(Mf id fz)&&d9 fz then
     (l[i]?).bind λx=>
      let cs:=LZ F t' x
      match O4 F t' (cs.take off++ds++cs.drop (off+ds.length))with
      | some y=>K { val:=.c .any,mw:=Wo mm fz++[(id,some (.row t' (l.set i y)))] }
      | none=>none
    else none
   | _,_=>none
  | [.c (.Ud id sz i off sz' j off'),v]=>match mm id,cF mm v.cells with
   | some (.Nc t' l),some (ds,fz)=>
    if ds.length=ti.size&&sz == LY F t'&&Nat.blt 0 ds.length&&fz.isEmpty then
     (l[i]?).bind λx=>
      match(LZ F t' x)[off]? with
      | some (.sl t2 l2)=>if sz' == LY F t2&&Nat.ble (off'+ds.length) (LY F t2)then
        (l2[j]?).bind λy=>
         match O4 F t2 ((LZ F t2 y).take off'++ds++(LZ F t2 y).drop (off'+ds.length))with
         | some z=>match O4 F t' ((LZ F t' x).set off (.sl t2 (l2.set j z)))with
          | some x'=>K { val:=.c .any,mw:=[(id,some (.Nc t' (l.set i x')))] }
          | none=>none
         | none=>none
       else none
      | _=>none
    else none
   | _,_=>none
  | _=>none
def tX(tt:Ty):Dat F→Option (List (ET F tt))
 | .c (.im .nl)=>some []
 | .c (.im (.sl t' l))=>if h:t'=tt then some (h▸l)else none
 | .c (.Nn id)=>match mm id with
  | some (.row t' l)=>if h:t'=tt then some (h▸l)else none
  | some (.Tc t' l)=>if h:t'=tt then some (h▸l)else none
  | _=>none
 | .c (.RD id sz off n)=>match mm id with
  | some (.row t' l)=>if h:t'=tt then if sz=LY F t' then some (h▸sub l off n)else none else none
  | some (.Tc t' l)=>if h:t'=tt then if sz=LY F t' then some (h▸sub l off n)else none else none
  | _=>none
 | _=>none
def B9(tt:Ty):List (Dat F)→Option (List Nat×List (ET F tt)×List (ET F tt))
 | [.c (.im .nl),.c (.Nn id2)]=>match mm id2 with
  | some (.Nc t2 l2)=>if h:t2=tt then some ([id2],[],h▸l2)else none
  | _=>none
 | [.c (.Nn id),.c (.Nn id2)]=>match mm id,mm id2 with
  | some (.Nc t1 l1),some (.Nc t2 l2)=>if h:t1=tt then if h2:t2=tt then if Nat.beq id id2 then none else some ([id,id2],h▸l1,h2▸l2)else none else none
  | _,_=>none
 | _=>none
def wY(t0 t1:TypeId):Option R:=
 if t1 != t0 then none else
 match T t0 with
 | some ⟨.slice e,_,_,_,_,_⟩=>match T e with
  | none=>none
  | some te=>match te.ty with
   | none=>none
   | some tt=>if te.size=0 then none else
    match B9 mm tt vals with
    | some (rm,l,ys)=>(app te.bytes l ys).bind λl'=>K { val:=.c (.Nn c),mw:=rm.map (λr=>(r,none))++[(c,some (.Nc tt l'))],nu:=1 }
    | none=>
    match vals with
    | [x,y]=>match tX mm tt y with
     | none=>none
     | some ys=>match x with
      | .c (.im .nl)=>(app te.bytes [] ys).bind λl'=>K { val:=.c (.Nn c),mw:=[(c,some (.row tt l'))],nu:=1 }
      | .c (.Nn id)=>match mm id with
       | some (.row t' l)=>if h:t'=tt then(app te.bytes (h▸l) ys).bind λl'=>K { val:=.c (.Nn c),mw:=[(id,none),(c,some (.row tt l'))],nu:=1 }else none
       | _=>none
      | _=>none
    | _=>none
 | _=>none
def WX(t:TypeId):Option R:=
 match T t with
 | some ⟨.slice e,_,_,_,_,_⟩=>match T e with
  | none=>none
  | some te=>match te.ty with
   | none=>none
   | some tt=>if te.size=0 then none else
    match vals,O4 F tt te.zero with
    | [.c (.im (.i _ n)),.c (.im (.i _ m))],some z=>(V9 te.bytes n m z).bind λl=>K { val:=.c (.Nn c),mw:=[(c,some (.row tt l))],nu:=1 }
    | _,_=>none
 | _=>none
def aap:Operand→Option Nat
 | .const (.int _ (.ofNat k))=>some k
 | _=>none
def rK(t:TypeId)(x y:Operand):Option Nat:=
 match T t,aap x,aap y with
 | some ⟨.slice e,_,_,_,_,_⟩,some n,some m=>match T e with
  | some ⟨.slice _,1,b,[.nl],_,_⟩=>if n=m∧0<n∧n≤8∧b≤1000 then some n else none
  | _=>none
 | _,_,_=>none
def E8(n:Nat):Option R:=K { val:=.c (.Tx c n),mw:=[(c,some (.box (List.replicate n (.im .nl))))],nu:=1 }
def lay(place:Nat→Option (Nat×Nat))(cells:List (MJ F)):List (Nat×Dat F)→Option (List (MJ F))
 | []=>some cells
 | (i,v)::rest=>
  match place i with
  | none=>none
  | some (off,size)=>
   if v.cells.length=size&&Nat.ble (off+size) cells.length&&(v.cells.all MJ.RO)&&Nat.blt 0 size then lay place (cells.take off++v.cells++cells.drop (off+size)) rest else none
def qo:List Field→Option (List (Nat×Nat))
 | []=>some []
 | f::l=>match T f.type with
  | none=>none
  | some ti=>match qo l with
   | none=>none
   | some r=>some ((f.offset,ti.size)::r)
def Al(t:TypeId)(ix:List Nat):Option R:=
 match T t with
 | some ⟨.struct fs,_,_,zero,_,_⟩=>match qo T fs.toList with
  | none=>none
  | some pl=>match lay (λi=>pl[i]?) (zero.map .im) (ix.zip vals)with
   | none=>none
   | some cs=>K { val:=.agg cs }
 | some ⟨.array _ e,_,_,zero,_,_⟩=>match T e with
  | none=>none
  | some te=>match lay (λi=>some (i*te.size,te.size)) (zero.map .im) (ix.zip vals)with
   | none=>none
   | some cs=>K { val:=.agg cs }
 | _=>none
def na(tt:Ty)(sz:Nat):Nat→List (ND F)→Option (List (ET F tt))
 | 0,_=>some []
 | n+1,l=>match O4 F tt (l.take sz)with
  | none=>none
  | some x=>match na tt sz n (l.drop sz)with
   | none=>none
   | some r=>some (x::r)
def rf(t:TypeId)(len:Nat)(ix:List Nat):Option R:=
 match T t with
 | some ⟨.slice e,_,_,_,_,_⟩=>match T e with
  | none=>none
  | some te=>match te.ty with
   | none=>none
   | some tt=>if te.size=0||Nat.blt 1048576 (len*te.size)||LY F tt != te.size then none else
    match lay (λi=>some (i*te.size,te.size)) ((List.replicate len te.zero).flatten.map .im) (ix.zip vals)with
    | none=>none
    | some cs=>match cF mm cs with
     | none=>none
     | some (ds,fz)=>match na tt te.size len ds with
      | none=>none
      | some l=>if ds.length=len*te.size&&d9 fz then K { val:=.c (.Nn c),mw:=Wo mm fz++[(c,some (.row tt l))],nu:=1 }else none
 | _=>none
def nG:List (MJ F)→Option (List (ND F)×List (Option Nat))
 | []=>some ([],[])
 | .Nn id::r=>match mm id with
  | some (.row t l)=>match nG r with
   | some (ds,os)=>some (.sl t l::ds,some id::os)
   | none=>none
  | _=>none
 | .im .nl::r=>match nG r with
  | some (ds,os)=>some (.nl::ds,none::os)
  | none=>none
 | .im d::r=>if d.flat then match nG r with
  | some (ds,os)=>some (d::ds,none::os)
  | none=>none
  else none
 | _::_=>none
def qj(t:TypeId)(len:Nat)(ix:List Nat):Option R:=
 match T t with
 | some ⟨.slice e,_,_,_,_,_⟩=>match T e with
  | none=>none
  | some te=>match te.ty with
   | none=>none
   | some tt=>if te.size=0||Nat.blt 1048576 (len*te.size)||LY F tt != te.size then none else
    match lay (λi=>some (i*te.size,te.size)) ((List.replicate len te.zero).flatten.map .im) (ix.zip vals)with
    | none=>none
    | some cs=>match nG mm cs with
     | none=>none
     | some (ds,os)=>match na tt te.size len ds with
      | none=>none
      | some l=>if ds.length=len*te.size&&d9 (Mq os)then K { val:=.c (.Nn c),mw:=(Mq os).map (λr=>(r,none))++[(c,some (.Nc tt l))],nu:=1 }else none
 | _=>none
def Ci:Ctx F→Bool
 | (a,_)::(b,_)::_=>Nat.beq a b
 | _=>false
def aks(t:TypeId):Bool:=
 match T t with
 | some ⟨.slice e,_,_,_,_,_⟩=>match T e with
  | some te=>match te.ty with
   | some tt=>tt.OP&&!(je F tt)
   | none=>false
  | none=>false
 | _=>false
def X4(elem:TypeId)(cs:List (MJ F)):Option R:=
 match T elem with
 | none=>none
 | some ti=>if cs.length=ti.size&&cs.all MJ.RO&&Nat.blt 0 cs.length then
  match ti.desc with
  | .array len e=>match T e with
   | none=>none
   | some te=>match te.ty with
    | none=>none
    | some tt=>match cF mm cs with
     | none=>none
     | some (ds,fz)=>match na tt te.size len ds with
      | none=>none
      | some l=>if te.size=0||ds.length != len*te.size||LY F tt != te.size||!(Nat.ble len 1048576)||!(fz.isEmpty)then none else
       K { val:=.c (.ptr c 0),mw:=[(c,some (.row tt l))],nu:=1 }
  | _=>K { val:=.c (.ptr c 0),mw:=[(c,some (.box cs))],nu:=1 }
 else none
def bound(o:Option Nat)(dflt:Int):Option Int:=match o with
 | none=>some dflt
 | some k=>match(vals[k]? : Option (Dat F))with | some (.c (.im (.i _ n)))=>some n | _=>none
def z6(t:TypeId)(lo hi:Option Nat):Option R:=
 match T t,(vals[0]? : Option (Dat F))with
 | some ⟨.string,_,_,_,_,_⟩,some (.c (.im (.s l)))=>match bound vals lo 0,bound vals hi l.length with
  | some a,some b=>(slc l a b).bind λr=>K { val:=.c (.im (.s r)) }
  | _,_=>none
 | some ⟨.slice e,_,_,_,_,_⟩,some (.c x)=>match T e with
  | none=>none
  | some te=>match x with
   | .im (.sl t' l)=>if LY F t'=te.size then match bound vals lo 0,bound vals hi l.length with
    | some a,some b=>(slc l a b).bind λr=>K { val:=.c (.im (.sl t' r)) }
    | _,_=>none
    else none
   | .Nn id=>match mm id with
    | some (.row t' l)=>if LY F t'=te.size then match bound vals lo 0,bound vals hi l.length with
     | some a,some b=>(OQ a b l.length).bind λp=>K { val:=.c (.RD id te.size p.1 p.2) }
     | _,_=>none
     else none
    | some (.Tc t' l)=>if LY F t'=te.size then match bound vals lo 0,bound vals hi l.length with
     | some a,some b=>(slc l a b).bind λr=>K { val:=.c (.im (.sl t' r)) }
     | _,_=>none
     else none
    | _=>none
   | _=>none
 | _,_=>none
def acP(t:TypeId):Option R:=
 match T t,vals with
 | some ⟨.string,_,_,_,_,_⟩,[.c (.im (.s l))]=>kI K .i64 l.length
 | some ⟨.slice _,_,_,_,_,_⟩,[.c (.im (.sl _ l))]=>kI K .i64 l.length
 | some ⟨.slice _,_,_,_,_,_⟩,[.c (.im .nl)]=>kI K .i64 0
 | some ⟨.slice _,_,_,_,_,_⟩,[.c (.Nn id)]=>match mm id with
  | some (.row _ l)=>kI K .i64 l.length
  | some (.Tc _ l)=>kI K .i64 l.length
  | some (.Nc _ l)=>kI K .i64 l.length
  | some (.Sr _ l _ _)=>kI K .i64 l.length
  | some (.NU _ l _)=>kI K .i64 l.length
  | _=>none
 | some ⟨.slice _,_,_,_,_,_⟩,[.c (.RD _ _ _ n)]=>kI K .i64 n
 | some ⟨.slice _,_,_,_,_,_⟩,[.c (.Tx _ n)]=>kI K .i64 n
 | some ⟨.array n _,_,_,_,_,_⟩,[_]=>kI K .i64 n
 | some ⟨.map _ _,_,_,_,_,_⟩,[.c (.Sy id)]=>match mm id with
  | some (.mp _ l)=>kI K .i64 l.length
  | _=>none
 | _,_=>none
def Pv(tt:Ty)(kd:ND F)(x:ET F tt):Bool:=match kd,LZ F tt x with
 | .i _ n,.i _ m::_=>n == m
 | .s a,.s b::_=>a == b
 | _,_=>false
def SI(tt:Ty)(D:Option TypeDesc)(kd:ND F):Bool:=match tt with
 | .st n=>match F.fs n,D,kd with
  | .int K::_,some (.int K'),.i K'' _=>decide (K=K')&&decide (K'=K'')
  | .str::_,some .string,.s _=>true
  | _,_,_=>false
 | _=>false
def rv(tt:Ty)(x:ET F tt):Option (Dat F):=match LZ F tt x with
 | _::Rk=>cond tt.Wn (some (.agg (Rk.map .im))) (match Rk with | [d]=>some (.c (.im d)) | _=>none)
 | []=>none
def UQ(t:TypeId):Option (TypeId×TypeId×Ty):=match T t with
 | some ⟨.map k v,_,_,_,some (.slice tt),_⟩=>cond tt.Ny (some (k,v,tt)) none
 | _=>none
def wS(v:TypeId)(tt:Ty)(kd:ND F):Option (ET F tt):=match T v with
 | some te=>cond (fM te.desc == tt.Wn) (O4 F tt (kd::te.zero)) none
 | none=>none
def vv(t:TypeId):Option R:=
 match UQ T t with
 | some (_,_,tt)=>K { val:=.c (.Sy c),mw:=[(c,some (.mp tt []))],nu:=1 }
 | none=>none
def xi(t:TypeId)(ok:Bool):Option R:=
 match UQ T t,vals with
 | some (k,v,tt),[.c (.Sy id),.c (.im kd)]=>match mm id with
  | some (.mp TB l)=>if h:TB=tt then cond (SI tt (jf T k) kd) (match wS T v tt kd with
   | some z=>match rv tt (OE (Pv tt kd) (h▸l) z)with
    | some d=>K { val:=cond ok (.Pp [d,.c (.im (.b (P7 (Pv tt kd) (h▸l))))]) d }
    | none=>none
   | none=>none) none else none
  | _=>none
 | _,_=>none
def tF(tt:Ty):Dat F→Option (List (MJ F))
 | .c x=>cond tt.Wn none (some [x])
 | .agg cs=>cond tt.Wn (some cs) none
 | _=>none
def sv(t:TypeId):Option R:=
 match UQ T t,vals with
 | some (k,_,tt),[.c (.Sy id),.c (.im kd),d]=>match mm id,tF tt d with
  | some (.mp TB l),some cs=>if h:TB=tt then cond (SI tt (jf T k) kd) (match cF mm cs with
   | some (ds,[])=>match O4 F tt (kd::ds)with
    | some y=>K { val:=.c .any,mw:=[(id,some (.mp tt (NP (Pv tt kd) (h▸l) y)))] }
    | none=>none
   | _=>none) none else none
  | _,_=>none
 | _,_=>none
def rL(f:Int→Int→Int)(k:IntKind)(n:Int):List (Dat F)→Option Int
 | []=>some n
 | .c (.im (.i k' m))::l=>if k=k' then rL f k (f n m) l else none
 | _=>none
def WZ(f:Int→Int→Int):Option R:=
 match vals with
 | .c (.im (.i k n))::l=>match rL f k n l with
  | some m=>kI K k m
  | none=>none
 | _=>none
def nones(l:List Nat):List (Nat×Option (Mg F)):=l.map λi=>(i,none)
def blks(l:List (Nat×Mg F)):List (Nat×Option (Mg F)):=l.map λp=>(p.1,some p.2)
def nmF:Nat→List (Mg F)→List (Nat×Mg F)
 | _,[]=>[]
 | c,B::r=>(c,B)::nmF (c+1) r
def b9(F:Fam):Nat→List (ND F)→List (Nat×Mg F)
 | _,[]=>[]
 | k,d::r=>match d with
  | .sl t l=>(k,.row t l)::b9 F (k+1) r
  | _=>b9 F (k+1) r
def takeC(F:Fam):Nat→List (ND F)→List (MJ F)
 | _,[]=>[]
 | c,d::r=>match d with
  | .sl _ _=>.Nn c::takeC F (c+1) r
  | d=>.im d::takeC F c r
def TA.okN:ND F→Bool
 | .sl _ _=>true
 | d=>d.flat
def pH(mm:Nat→Option (Mg F)):MJ F→Option (ND F×Option Nat)
 | .Nn id=>match mm id with
  | some (.row t l)=>some (.sl t l,some id)
  | _=>none
 | .im d=>match d with
  | .nl=>some (.nl,none)
  | d=>if d.flat then some (d,none)else none
 | _=>none
def gc(mm:Nat→Option (Mg F)):List (MJ F)→Option (List (ND F)×List (Option Nat))
 | []=>some ([],[])
 | c::r=>match pH mm c with
  | none=>none
  | some (d,o)=>match gc mm r with
   | none=>none
   | some (ds,os)=>some (d::ds,o::os)
def YI(id c n:Nat)(os:List (Option Nat))(B:Mg F):List (Nat×Option (Mg F)):=nones (id::Mq os)++[(c,some B),(id,some (.Pq c n))]
def Rq(id c:Nat)(t:Ty)(l:List (ET F t))(i:Nat)(ks:List Nat)(rs:List (Mg F)):List (Nat×Option (Mg F)):=
 (id,none)::(c,some (.Sr t l i ks))::blks (nmF (c+1) rs)++[(id,some (.Pq c l.length))]
def fgC(ks:List Nat):MJ F→MJ F
 | .im d=>cond d.flat (.im d) .one
 | .Nn id=>cond (Mf id ks) (.Nn id) .one
 | .any=>.any
 | _=>.one
def fgD(ks:List Nat):Dat F→Dat F
 | .c x=>.c (fgC ks x)
 | .agg cs=>.agg (cs.map (fgC ks))
 | _=>.c .any
def Yu:Nat×Mg F→Bool
 | (_,.row t _)=>je F t
 | _=>false
def fgt:Ctx F→Bool
 | a::b::c::_=>Nat.beq a.1 b.1&&Nat.beq b.1 c.1
 | _=>false
def mark:Ctx F→Ctx F
 | []=>[]
 | a::l=>a::a::a::l
def AM(f:FuncId)(args:List (Dat F)):Option R:=
 match look Γ f with
 | none=>none
 | some sp=>match lH Γ mm sp.ks (args.map Vy)with
  | none=>none
  | some p=>if d9 (Mq p.os)&&RU (Mq p.os) p.fz then
    (sp.D p.x).bind λr=>
     match aw (sp.rs++sp.ks.filter Kd.Ni) r p.bx c with
     | (ds,bs,c')=>K { val:=Wz (ds.map (fgD ((bs.filter Yu).map (·.1)))),mw:=nones (Mq p.os)++blks (bs.filter Yu),nu:=c' - c }
   else none
def wB(f:FuncId)(args:List (Dat F)):Option R:=
 cond (fgt Γ) (AM Γ mm c K f args) <|
 match look Γ f with
 | none=>none
 | some sp=>match lH Γ mm sp.ks (cond ((sp.rs++sp.ks.filter Kd.Ni).all (Kd.M4 F)) (args.map Vy) args)with
  | none=>none
  | some p=>if d9 (Mq p.os)&&RU (Mq p.os) p.fz then
    (sp.D p.x).bind λr=>
     match aw (sp.rs++sp.ks.filter Kd.Ni) r p.bx c with
     | (ds,bs,c')=>K { val:=Wz ds,mw:=(if(sp.rs++sp.ks.filter Kd.Ni).all (Kd.M4 F)then[]else Wo mm p.fz)++nones (Mq p.os)++blks bs,nu:=c' - c }
   else none
def ru(ks:List Ty)(r:Ty)(φ : M7 F ks→Option (ET F r))(args:List (Dat F)):Option R:=
 match O1 mm (ks.map λt=>.v t []) args [] []with
 | none=>none
 | some q=>if je F r then match VI ks (q.x ())with
   | a=>(φ a).bind λx=>K { val:=adt r x }
  else none
where VI:(ks:List Ty)→HL F (ks.map λt=>.v t [])→M7 F ks
 | [],_=>()
 | _::ks,a=>(a.1,VI ks a.2)
def Y2(t:TypeId):Option R:=
 match T t with
 | some ⟨.slice e,_,_,_,_,_⟩=>match T e with
  | none=>none
  | some te=>match vals with
   | [.c (.Nn id),y]=>match mm id with
    | some (.row t l)=>if LY F t=te.size then match tX mm t y with
     | some ys=>K { val:=.c (.im (.i .i64 (min l.length ys.length:Nat))),mw:=[(id,some (.row t (Rn l 0 l.length ys)))] }
     | none=>none
     else none
    | _=>none
   | [.c (.RD id sz off n),y]=>match mm id with
    | some (.row t l)=>if LY F t=te.size&&sz == te.size then match tX mm t y with
     | some ys=>K { val:=.c (.im (.i .i64 (min n ys.length:Nat))),mw:=[(id,some (.row t (Rn l off n ys)))] }
     | none=>none
     else none
    | _=>none
   | _=>none
 | _=>none
def Bb(t:TypeId):Option R:=
 match T t,vals with
 | some ⟨.slice e,_,_,_,_,_⟩,[.c (.RD id sz off n)]=>match T e with
  | none=>none
  | some te=>match mm id with
   | some (.row tt l)=>if LY F tt=te.size&&sz == te.size&&Nat.blt 0 te.size then match O4 F tt te.zero with
    | some z=>K { val:=.Pp [],mw:=[(id,some (.row tt (Rn l off n (List.replicate n z))))] }
    | none=>none
    else none
   | _=>none
 | _,_=>none
def Y1(t:TypeId)(hi:Option Nat):Option R:=
 match T t,vals with
 | some ⟨.slice e,_,_,_,_,_⟩,.c (.Nn id)::_=>match T e with
  | none=>none
  | some te=>match mm id with
   | some (.row t' l)=>if LY F t'=te.size then match bound vals hi l.length with
    | some b=>(OQ 0 b l.length).bind λp=>K { val:=.c (.Nn c),mw:=[(id,none),(c,some (.row t' (l.take p.2)))],nu:=1 }
    | none=>none
    else none
   | _=>none
 | _,_=>none
def Y4(cl:Call):Option R:=
 match cl.callee with
 | .builtin .len=>match cl.argTypes,cl.args with
  | ⟨[t]⟩,⟨[_]⟩=>acP T vals mm K t
  | _,_=>none
 | .builtin .append=>match cl.argTypes,cl.args with
  | ⟨[t0,t1]⟩,⟨[_,_]⟩=>wY T vals mm c K t0 t1
  | _,_=>none
 | .builtin .copy=>match cl.argTypes,cl.args with
  | ⟨[t,_]⟩,⟨[_,_]⟩=>Y2 T vals mm K t
  | _,_=>none
 | .builtin .clear=>match cl.argTypes,cl.args with
  | ⟨[t]⟩,⟨[_]⟩=>Bb T vals mm K t
  | _,_=>none
 | .builtin .min=>WZ vals K Mj
 | .builtin .max=>WZ vals K imax
 | .value _=>match vals with
  | .c (.im (.v (.func (.func f) ⟨[]⟩ ⟨[]⟩)))::args=>wB Γ mm c K f args
  | .RY (.func f) fs cs::args=>wB Γ mm c K f (fs++args++cs)
  | .fv ks r φ::args=>ru mm K ks r φ args
  | _=>none
 | _=>none
def YX:Option R:=
 match vals with
 | [.c (.im (.b x)),a,b]=>cond x (K { val:=a }) (K { val:=b })
 | _=>none
def tO:Option R:=
 match vals with
 | [.c (.ptr id off)]=>K { val:=.c (.ptr id off) }
 | [.c (.OV id sz i off)]=>K { val:=.c (.OV id sz i off) }
 | [.c (.pt cs off)]=>K { val:=.c (.pt cs off) }
 | _=>none
def yZ(fn:Fn)(first captured:Nat):Option R:=
 if first=0&&captured=0 then K { val:=.c (.im (.v (.func fn #[] #[]))) }
 else K { val:=.RY fn (vals.take first) (vals.drop first) }
def Xh(lo:Option Operand):Nat:=match lo with | some _=>2 | none=>1
def ob(o:Option Operand)(k:Nat):Option Nat:=match o with | some _=>some k | none=>none
def tOp(o:Op):Option R:=
 match o with
 | .move _ | .assign _=>match vals with | [x]=>K { val:=x } | _=>none
 | .pick _ _ _=>YX vals K
 | .alloc elem=>match T elem with | some ti=>X4 T mm c K elem (ti.zero.map .im) | none=>none
 | .box elem _=>match vals with | [x]=>X4 T mm c K elem x.cells | _=>none
 | .build t parts=>Al T vals K t (parts.toList.map (·.1))
 | .buildSlice t len parts=>if Ci Γ && aks T t then qj T vals mm c K t len (parts.toList.map (·.1))else rf T vals mm c K t len (parts.toList.map (·.1))
 | .load t _=>Y0 T vals mm K t
 | .store t _ _=>AQ T vals mm K t
 | .nilCheck _=>tO vals K
 | .binOp op t _ y _=>acQ T vals K op t y
 | .unOp op _ _=>tUn vals K op
 | .convert s d _=>Y3 T vals mm K s d
 | .makeFunc fn first captured=>yZ vals K fn first.size captured.size
 | .makeSlice t x y=>if Ci Γ then(match rK T t x y with | some n=>E8 c K n | none=>WX T vals c K t)else WX T vals c K t
 | .slice t _ lo hi none=>if fgt Γ && lo.isNone then Y1 T vals mm c K t (ob hi 1)else z6 T vals mm K t (ob lo 1) (ob hi (Xh lo))
 | .fieldAddr s _ f=>zo T vals K s f
 | .field s _ f=>YZ T vals K s f
 | .indexAddr t _ y=>sa T vals mm K t y
 | .index t _ _=>AN T vals K t
 | .makeMap t none=>vv T c K t
 | .lookup t _ _ ok=>xi T vals mm K t ok
 | .mapUpdate t _ _ _=>sv T vals mm K t
 | .extract _ i=>match vals with | [.Pp ds]=>(match ds[i]? with | some d=>K { val:=d } | none=>none) | _=>none
 | .call cl=>Y4 T Γ vals mm c K cl
 | _=>none
end
end
set_option linter.unusedVariables false
set_option linter.unusedSimpArgs false
structure Rec where
 rs:List Nat
 d:Option Nat
 tm:List Nat
 wm:List Nat
 Xw:Nat
def qD:List Operand→List Nat
 | []=>[]
 | .tmp t::l=>t::qD l
 | _::l=>qD l
def MX:List Edge→List Nat
 | []=>[]
 | x::l=>if Region.binds .any x then x.on::MX l else MX l
def P_(recs:List Rec):List Nat→Nat
 | []=>0
 | i::l=>Nat.lor (Nat.lor (2 ^ i) ((recs[i]?).elim 0 (·.Xw))) (P_ recs l)
def RS(ops:List Oper)(j:Nat):Option Nat:=(ops[j]?).bind (·.dst)
def meets(a b:List Nat):Bool:=match a with | []=>false | x::l=>Mf x b||meets l b
def Rec.conflict(a b:Rec):Bool:=
 (match a.d with | some x=>Mf x b.rs||(match b.d with | some y=>Nat.beq x y | none=>false) | none=>false) ||
 (match b.d with | some y=>Mf y a.rs | none=>false) ||
 meets a.wm b.tm||meets a.wm b.wm||meets b.wm a.tm
def rA(b:Rec):Nat→List Rec→Bool
 | _,[]=>true
 | i,a::l=>(Nat.testBit b.Xw i||!(a.conflict b))&&rA b (i+1) l
def tj(all:List Rec):List Rec→Bool
 | []=>true
 | b::l=>rA b 0 (all.take (all.length - (b::l).length))&&tj all l
def rD:Nat→List Oper→Bool
 | _,[]=>true
 | i,o::l=>(MX o.after.toList).all (λk=>Nat.blt k i)&&rD (i+1) l
section
variable{F:Fam}
def MJ.ids:MJ F→List Nat
 | .ptr id _ | .OV id _ _ _ | .RD id _ _ _ | .Nn id | .Tv id _ _ _ | .Ud id _ _ _ _ _ _ | .Tx id _ | .Sy id=>[id]
 | _=>[]
def xy:List (MJ F)→List Nat
 | []=>[]
 | c::l=>c.ids++xy l
mutual
def Dat.ids:Dat F→List Nat
 | .c x=>x.ids
 | .agg cs=>xy cs
 | .RY _ fs cs=>oX fs++oX cs
 | .gh id=>[id]
 | _=>[]
def oX:List (Dat F)→List Nat
 | []=>[]
 | d::l=>d.ids++oX l
end
def AF(mm:Nat→Option (Mg F)):Nat→Nat→List Nat
 | 0,_=>[]
 | n+1,k=>k::match mm k with | some (.Pq k' _)=>AF mm n k' | _=>[]
def AV(mm:Nat→Option (Mg F)):List Nat→List Nat
 | []=>[]
 | id::l=>id::((match mm id with | some (.Pq k _)=>AF mm 9 k | _=>[])++AV mm l)
def EM(mm:Nat→Option (Mg F)):List Nat→List Nat
 | []=>[]
 | id::l=>(match mm id with | some (.box cs)=>AV mm (xy cs) | some (.Pq k _)=>AF mm 9 k | _=>[])++EM mm l
def reach(mm:Nat→Option (Mg F))(ids:List Nat):List Nat:=ids++EM mm ids
def CP(mm:Nat→Option (Mg F))(o:Op)(vals:List (Dat F)):List Nat:=
 match o with
 | .call _=>reach mm (reach mm (oX vals))
 | .indexAddr _ _ _=>oX vals
 | .load _ _=>AV mm (oX vals)
 | .store _ _ _ | .slice _ _ _ _ _ | .buildSlice _ _ _ | .box _ _ | .convert _ _ _ | .lookup _ _ _ _ | .mapUpdate _ _ _ _=>reach mm (oX vals)
 | _=>[]
def W9(m:Nat→Option (Mg F))(l:List Nat):Nat→Option (Mg F):=λid=>if Mf id l then m id else none
structure TS(F:Fam) where
 E:List (Nat×Dat F)
 M:List (Nat×Mg F)
 c:Nat
 dE:List Nat:=[]
 dM:List Nat:=[]
def U8(E:List (Nat×Dat F))(dst:Option Nat)(d:Dat F):List (Nat×Dat F):=
 match dst with
 | some x=>(x,d)::E
 | none=>E
def R9(M:List (Nat×Mg F)):List (Nat×Option (Mg F))→List (Nat×Mg F)
 | []=>M
 | (id,none)::r=>R9 (M.filter λp=>!(Nat.beq id p.1)) r
 | (id,some B)::r=>R9 ((id,B)::M.filter λp=>!(Nat.beq id p.1)) r
section
variable(T:TypeId→Option (TI F))(Γ : Ctx F)(nv n:Nat)
def dirty(dE:List Nat):Option Nat→List Nat
 | some x=>if Nat.blt x nv then x::dE else dE
 | none=>dE
variable{R:Type}
def Y5(vals:List (Dat F))(mm:Nat→Option (Mg F))(c:Nat)(K:SS F→Option R)(o:Op)(id sz i off:Nat):Option R:=
 match mm id with
 | some (.Nc t l)=>if sz=LY F t then(l[i]?).bind λx=>match(LZ F t x)[off]? with
  | some (.sl t2 l2)=>tOp T Γ (.c (.Nn (c+1))::vals.tail) (Ml mm (Rq id c t l i [off] [.row t2 l2])) (c+2) (λr=>K ⟨r.val,Rq id c t l i [off] [.row t2 l2]++r.mw,2+r.nu⟩) o
  | _=>none
  else none
 | _=>none
def WW(mm:Nat→Option (Mg F))(c:Nat)(K:SS F→Option R)(ty:TypeId)(id sz i off:Nat)(v:Dat F)(t:Ty)(l:List (ET F t))(i0:Nat)(ks:List Nat):Option R:=
 match T ty with
 | none=>none
 | some ti=>match gc mm v.cells with
  | none=>none
  | some (ds,os)=>
   if ds.length=ti.size&&sz == LY F t&&Nat.ble (off+ds.length) (LY F t)&&Nat.blt 0 ds.length&&d9 (id::Mq os)&&ks.all (λq=>Nat.ble off q&&Nat.blt q (off+ds.length))then
    cond (ks.isEmpty||Nat.beq i i0) ((l[i]?).bind λx=>match O4 F t ((LZ F t x).take off++ds++(LZ F t x).drop (off+ds.length))with
     | some y=>K { val:=.c .any,mw:=YI id c l.length os (.Nc t (l.set i y)),nu:=1 }
     | none=>none) none
   else none
def YV(mm:Nat→Option (Mg F))(c:Nat)(K:SS F→Option R)(ty:TypeId)(id sz i off:Nat)(v:Dat F)(t:Ty)(l:List (ET F t))(j:Nat):Option R:=
 match T ty with
 | none=>none
 | some ti=>match gc mm v.cells with
  | none=>none
  | some (ds,os)=>
   if ds.length=ti.size&&sz == LY F t&&Nat.ble (off+ds.length) (LY F t)&&Nat.blt 0 ds.length&&d9 (id::Mq os)then
    cond (Nat.beq i j) ((l[i]?).bind λx=>
     if((LZ F t x).take off++(LZ F t x).drop (off+ds.length)).all TA.flat then
      match O4 F t ((LZ F t x).take off++ds++(LZ F t x).drop (off+ds.length))with
      | some y=>K { val:=.c .any,mw:=YI id c l.length os (.NU t (l.set i y) (j+1)),nu:=1 }
      | none=>none
     else none) none
   else none
def AE(c:Nat)(K:SS F→Option R)(ty:TypeId)(id sz i off:Nat)(t:Ty)(l:List (ET F t)):Option R:=
 match T ty with
 | none=>none
 | some ti=>if sz == LY F t&&fM ti.desc then(l[i]?).bind λx=>
   if(((LZ F t x).drop off).take ti.size).all TA.flat then pK (fS ti ((LZ F t x).map λd=>cond d.flat (.im d) .one) off) (λr=>K r)
   else if(LZ F t x).all TA.okN then match fS ti (takeC F (c+1) (LZ F t x)) off with
    | some d=>K { val:=d,mw:=Rq id c t l i ((b9 F 0 (LZ F t x)).map (·.1)) ((b9 F 0 (LZ F t x)).map (·.2)),nu:=1+(b9 F 0 (LZ F t x)).length }
    | none=>none
   else none
  else none
def zE(K:SS F→Option R)(ty:TypeId)(sz i off:Nat)(t:Ty)(l:List (ET F t))(j:Nat):Option R:=
 match T ty with
 | none=>none
 | some ti=>if sz == LY F t then cond (Nat.ble j i) ((l[i]?).bind λx=>pK (fS ti ((LZ F t x).map .im) off) (λr=>K r)) none else none
def aae(vals:List (Dat F))(mm:Nat→Option (Mg F))(c:Nat)(K:SS F→Option R)(o:Op):Option R:=
 match o,vals with
 | .call ⟨.builtin .append,_,_⟩,.c (.Tv id sz i off)::_=>Y5 T Γ vals mm c K o id sz i off
 | .store ty _ _,[.c (.OV id sz i off),v]=>match mm id with
  | some (.Nc t l)=>WW T mm c K ty id sz i off v t l 0 []
  | some (.Sr t l i0 ks)=>WW T mm c K ty id sz i off v t l i0 ks
  | some (.NU t l j)=>YV T mm c K ty id sz i off v t l j
  | _=>tOp T Γ vals mm c K o
 | .load ty _,[.c (.OV id sz i off)]=>match mm id with
  | some (.Nc t l)=>match T ty with
   | some ti=>if fM ti.desc then AE T c K ty id sz i off t l else tOp T Γ vals mm c K o
   | none=>none
  | some (.NU t l j)=>zE T K ty sz i off t l j
  | _=>tOp T Γ vals mm c K o
 | .indexAddr ty _ _,[.c (.Nn id),.c (.im (.i _ n))]=>match mm id with
  | some (.Pq _ len)=>match T ty with
   | some ⟨.slice e,_,_,_,_,_⟩=>match T e with
    | some te=>(MZ n len).bind λi=>K { val:=.c (.OV id te.size i 0) }
    | none=>none
   | _=>none
  | _=>tOp T Γ vals mm c K o
 | _,_=>tOp T Γ vals mm c K o
def acO(vals:List (Dat F))(mm:Nat→Option (Mg F))(c:Nat)(K:SS F→Option R)(o:Op):Option R:=
 match o with
 | .indexAddr _ _ _=>aae T Γ vals mm c K o
 | o=>aae T Γ (vals.map (aag mm)) mm c K o
def tGo(o:Oper)(gs:List Nat)(s:TS F)(recs:List Rec)(K:TS F→List Rec→Option R):Option R:=
 let vals:=o.op.operands.toList.map (opd (look s.E))
 let tm:=CP (look s.M) o.op vals
 acO T Γ vals (W9 (look s.M) tm) s.c (λres=>
  if(match o.dst with | some d=>Nat.blt d n | none=>true)then
   K ⟨U8 s.E o.dst res.val,R9 s.M res.mw,s.c+res.nu,dirty nv s.dE o.dst,res.mw.map (·.1)++s.dM⟩
    (recs++[⟨gs++qD o.op.operands.toList,o.dst,tm,res.mw.map (·.1),P_ recs (MX o.after.toList)⟩])
  else none) o.op
def VK(o:Oper)(gs:List Nat)(s:TS F)(recs:List Rec)(K:TS F→List Rec→Option R):Option R:=
 if(match o.dst with | some d=>Nat.blt d n | none=>true)then
  K ⟨U8 s.E o.dst (.Pp []),s.M,s.c,dirty nv s.dE o.dst,s.dM⟩ (recs++[⟨gs,o.dst,[],[],P_ recs (MX o.after.toList)⟩])
 else none
def YW(ops:List Oper)(o:Oper)(s:TS F)(recs:List Rec)(K:TS F→List Rec→Option R):Option R:=
 match o.guard with
 | none=>tGo T Γ nv n o [] s recs K
 | some (j,want)=>match RS ops j with
  | none=>none
  | some d=>match look s.E d with
   | some (.c (.im (.b x)))=>
    cond x
     (let s':TS F:=⟨(d,.c (.im (.b true)))::s.E,s.M,s.c,s.dE,s.dM⟩
      if want then tGo T Γ nv n o [d] s' recs K else VK nv n o [d] s' recs K)
     (let s':TS F:=⟨(d,.c (.im (.b false)))::s.E,s.M,s.c,s.dE,s.dM⟩
      if want then VK nv n o [d] s' recs K else tGo T Γ nv n o [d] s' recs K)
   | some (.Pp [])=>VK nv n o [d] s recs K
   | _=>none
def WA(ops:List Oper):List Oper→TS F→List Rec→(TS F→List Rec→Option R)→Option R
 | [],s,recs,K=>K s recs
 | o::l,s,recs,K=>YW T Γ nv n ops o s recs λs' aiy=>WA ops l s' aiy K
def rB(kp:List Nat):List (Nat×Dat F)→List Nat→(List (Nat×Dat F)→Option R)→Option R
 | [],_,K=>K []
 | (x,d)::r,seen,K=>if(Nat.blt x nv||Mf x kp)&&!(Mf x seen)then rB kp r (x::seen) λr'=>K ((x,d)::r')else rB kp r seen K
def xu:List Oper→List Nat
 | []=>[]
 | [o]=>o.dst.toList
 | _::l=>xu l
def Tn(kp:List Nat)(ops:List Oper)(draw:Bool)(s:TS F)(K:TS F→Option R):Option R:=
 WA T Γ nv n ops ops s [] λs' recs=>
  if(if draw then rD 0 ops&&tj recs recs else true)then
   rB nv (xu ops++kp) s'.E [] λE'=>K ⟨E',s'.M,s'.c,s'.dE,s'.dM⟩
  else none
end
abbrev Ks:=List (Nat×Kd)
section
variable(F:Fam)
@[reducible] def TLS:Ks→Type
 | []=>Unit
 | [k]=>k.2.El F
 | k::l::r=>k.2.El F×TLS (l::r)
@[reducible] def ExT:List (Nat×Ks)→Type
 | []=>Empty
 | [x]=>TLS F x.2
 | x::y::r=>TLS F x.2 ⊕ ExT (y::r)
end
inductive Hint where
 | z
 | s (a b:Hint)
 | c (a b:Hint)
 | b (a:Hint)
 | r (kp:List Nat)
 | l (ks:Ks) (dr:List Nat) (xs:List (Nat×Ks)) (a:Hint)
 | j (dr:List Nat) (xs:List (Nat×Ks)) (a:Hint)
 | u (n:Nat) (a:Hint)
 | g (ks:Ks) (dr:List Nat) (a:Hint)
 | p (a b:Hint)
 | m (x ix ex:Nat) (dr:List Nat) (a:Hint)
def Hint.isL:Hint→Bool
 | .l _ _ _ _=>true
 | _=>false
def keysOf(ks:Ks):List Nat:=ks.map (·.1)
def PV(xs:List (Nat×Ks)):List Nat:=xs.flatMap λx=>keysOf x.2
section
variable(T:TypeId→Option (TI F))(Γ : Ctx F)(nv n:Nat)
def Un:List Nat→Option Nat
 | []=>none
 | x::_=>if Nat.ble 5000 x then some (x - 5000)else none
def Yv(ow:List Nat)(id:Nat):Dat F:=match Un ow with | some n=>cond (Nat.beq n 4997) (.gh id) (.c (.Tx id n)) | none=>.c (.ptr id 0)
def VJ:Dat F→Dat F
 | .c (.Tx id _)=>.c (.ptr id 0)
 | .gh id=>.c (.ptr id 0)
 | d=>d
def g_(k:Kd)(d:Option (Dat F)):Option Nat:=
 match k,d with
 | .box _ ow,some (.c (.ptr id 0))=>match Un ow with | none=>some id | some _=>none
 | .box _ ow,some (.c (.Tx id n))=>match Un ow with | some m=>if Nat.beq n m&&!(Nat.beq m 4997)then some id else none | none=>none
 | .box _ ow,some (.gh id)=>match Un ow with | some m=>if Nat.beq m 4997 then some id else none | none=>none
 | .row t arr,some d=>vY t arr d
 | _,_=>none
def v9(s0 s:TS F)(x:Nat)(k:Kd):Option (Pk (k.El F)):=
 match g_ k (look s0.E x)with
 | some id=>match look s.E x with
  | none=>none
  | some d=>match g_ k (some d)with
   | some id'=>if Nat.beq id id' then Rs Γ (look s.M) k (VJ d)else none
   | none=>none
 | none=>match look s.E x with
  | none=>none
  | some d=>Rs Γ (look s.M) k d
def TV(s0 s:TS F):(ks:Ks)→Option (Pk (TLS F ks))
 | []=>some ⟨(),[],[],[]⟩
 | [k]=>v9 Γ s0 s k.1 k.2
 | k::l::r=>match v9 Γ s0 s k.1 k.2 with
   | none=>none
   | some p=>match TV s0 s (l::r)with
    | none=>none
    | some q=>some ⟨(p.x,q.x),p.os++q.os,p.fz++q.fz,p.bx++q.bx⟩
def X3(id:Nat):(k:Kd)→k.El F→Nat→Dat F×List (Nat×Mg F)×Nat
 | .box t ow,x,c=>match OO ow 0 c (LZ F t x)with
  | (cs,bs,c')=>(Yv ow id,(id,.box cs)::bs,c')
 | .row t arr,x,c=>(Pf t arr id,[(id,S_ t x)],c)
 | _,_,c=>(.c .any,[],c)
def Si(E0:List (Nat×Dat F))(x:Nat)(k:Kd)(v:k.El F)(c:Nat):Dat F×List (Nat×Mg F)×Nat:=
 match g_ k (look E0 x)with
 | some id=>X3 id k v c
 | none=>O5 k v c
def M6(E0:List (Nat×Dat F)):(ks:Ks)→TLS F ks→Nat→List (Nat×Dat F)×List (Nat×Mg F)×Nat
 | [],_,c=>([],[],c)
 | [k],a,c=>match Si E0 k.1 k.2 a c with
  | (d,bs,c')=>([(k.1,d)],bs,c')
 | k::l::r,a,c=>match Si E0 k.1 k.2 a.1 c with
  | (d,bs,c')=>match M6 E0 (l::r) a.2 c' with
   | (ds,bs',c'')=>((k.1,d)::ds,bs++bs',c'')
def aS(s:TS F)(xs:List Nat):List Nat:=reach (look s.M) (xs.flatMap λx=>match look s.E x with | some d=>d.ids | none=>[])
def SK(c0:Nat)(kill:List Nat)(l:List Nat):Bool:=l.all λid=>Nat.ble c0 id||Mf id kill
def Om(s0:TS F)(dr:List Nat)(c0:Nat)(kill:List Nat)(ks:Ks)(s:TS F):Option (TLS F ks):=
 if s.dE.all (λx=>Mf x dr)&&SK c0 kill s.dM then
  match TV Γ s0 s ks with
  | none=>none
  | some p=>if d9 (Mq p.os)&&RU (Mq p.os) p.fz&&SK c0 kill (Mq p.os)&&SK c0 kill p.fz then some p.x else none
 else none
def TP(s0:TS F)(dr:List Nat)(c0:Nat)(kill:List Nat):(xs:List (Nat×Ks))→Nat→TS F→Option (ExT F xs)
 | [],_,_=>none
 | [x],e,s=>if Nat.beq x.1 e then Om Γ s0 dr c0 kill x.2 s else none
 | x::y::r,e,s=>if Nat.beq x.1 e then(match Om Γ s0 dr c0 kill x.2 s with | some v=>some (.inl v) | none=>none)else(match TP s0 dr c0 kill (y::r) e s with | some v=>some (.inr v) | none=>none)
def merge(dr:List Nat)(kill:List Nat)(s:TS F)(ks:Ks)(v:TLS F ks):TS F:=
 match M6 s.E ks v s.c with
 | (es,bs,c')=>⟨es++s.E.filter (λp=>Nat.blt p.1 nv&&!(Mf p.1 dr)),bs++s.M.filter (λp=>!(Mf p.1 kill)),c',dr++s.dE,kill++s.dM⟩
def clean(s:TS F):TS F:=⟨s.E,s.M,s.c,[],[]⟩
def Ti{R:Type}(K:(e:Nat)→(ks:Ks)→TLS F ks→Option R):(xs:List (Nat×Ks))→ExT F xs→Option R
 | []=>λ_=>none
 | [x]=>λv=>K x.1 x.2 v
 | x::y::r=>λv=>match v with
  | .inl a=>K x.1 x.2 a
  | .inr b=>Ti K (y::r) b
end
end
def iter{τ σ : Type}(step:τ→Option (τ ⊕ σ)):Nat→τ→Option σ
 | 0,_=>none
 | n+1,t=>match step t with
  | none=>none
  | some (.inl t')=>iter step n t'
  | some (.inr r)=>some r
noncomputable def loop{τ σ : Type}(step:τ→Option (τ ⊕ σ))(t:τ):Option σ:=
 @dite _ (∃r n,iter step n t=some r) (Classical.propDecidable _) (λh=>some h.choose) (λ_=>none)
theorem sU{τ σ : Type}{step:τ→Option (τ ⊕ σ)}{r:σ}:∀{n:Nat}(k:Nat){t:τ},iter step n t=some r→iter step (n+k) t=some r
 | 0,_,_,h=>by simp[iter]at h
 | n+1,k,t,h=>by
  rw[Nat.add_right_comm];simp only[iter]at h ⊢;split at h
  ·cases h
  ·exact sU k h
  ·exact h
theorem qJ{τ σ : Type}{step:τ→Option (τ ⊕ σ)}{t:τ}{r:σ}(h:loop step t=some r):∃n,iter step n t=some r:=by
 unfold loop at h;split at h
 ·rename_i hx;cases h;exact hx.choose_spec
 ·cases h
theorem tL{τ σ : Type}{step:τ→Option (τ ⊕ σ)}{t:τ}{r:σ}{n:Nat}(h:iter step n t=some r):loop step t=some r:=by unfold loop;have hx:∃r n,iter step n t=some r:=⟨r,n,h⟩;rw[dif_pos hx];obtain⟨m,hm⟩:=hx.choose_spec;have h1:=sU m h;have h2:=sU n hm;rw[QfH]at h2;rw[h1]at h2;cases h2;rfl
theorem aX{τ σ : Type}(step:τ→Option (τ ⊕ σ))(t:τ):loop step t=match step t with
  | none=>none
  | some (.inl t')=>loop step t'
  | some (.inr r)=>some r:=by
 cases hl:loop step t with
 | some r=>
  obtain⟨n,hn⟩:=qJ hl
  cases n with
  | zero=>simp[iter]at hn
  | succ n=>
   simp only[iter]at hn;split at hn
   ·cases hn
   ·exact(tL hn).symm
   ·cases hn;rfl
 | none=>
  split
  ·rfl
  ·rename_i t' hs
   cases hl':loop step t' with
   | none=>rfl
   | some r=>
    obtain⟨n,hn⟩:=qJ hl'
    have:iter step (n+1) t=some r:=by simp only[iter,hs];exact hn
    rw[tL this]at hl;cases hl
  ·rename_i r hs
   have:iter step 1 t=some r:=by simp only[iter,hs]
   rw[tL this]at hl;cases hl
def Sj{τ α ω : Type}(step:ω→τ→α→Option τ)(l:List α):Nat→List Nat→τ→τ→Prop
 | 0,_,t,r=>t=r
 | m+1,seen,t,r=>∀k x,k∉seen→l[k]? = some x→∃t',(∀ob,step ob t x=some t')∧Sj step l m (seen++[k]) t' r
noncomputable def rng{τ α ω : Type}(t0:ω→Option τ)(step:ω→τ→α→Option τ)(l:List α):Option τ:=
 @dite _ (∃r t,(∀ob,t0 ob=some t)∧Sj step l l.length [] t r) (Classical.propDecidable _) (λh=>some h.choose) (λ_=>none)
theorem GQ{τ α ω : Type}{t0:ω→Option τ}{step:ω→τ→α→Option τ}{l:List α}{r:τ}(h:rng t0 step l=some r):∃t,(∀ob,t0 ob=some t)∧Sj step l l.length [] t r:=by
 unfold rng at h;split at h
 ·rename_i hx;cases h;exact hx.choose_spec
 ·cases h
structure RgS where
 a:Nat
 b:Nat
 it:Nat
 d1:Nat
 d3:Nat
 ty:TypeId
 rest:List Oper
def wV(n:Nat)(PX OZ Ry:List Oper)(c2:Nat):Option RgS:=
 match PX,OZ,Ry with
 | [⟨some b,.move (.tmp a),_,_,_,none⟩,⟨some it,.range ty (.tmp b'),_,_,_,none⟩],[⟨some d1,.next (.tmp it') false,_,_,_,none⟩,⟨some c2',.extract (.tmp d1') 0,_,_,_,none⟩],⟨some d3,.entry (.tmp it''),_,_,_,none⟩::rest=>
  if Nat.beq b' b&&Nat.beq it' it&&Nat.beq c2' c2&&Nat.beq d1' d1&&Nat.beq it'' it&&Nat.blt b n&&Nat.blt it n&&Nat.blt d1 n&&Nat.blt c2 n&&Nat.blt d3 n&&!(Nat.beq it b)&&!(Nat.beq it d1)&&!(Nat.beq it c2)&&!(Nat.beq it d3)&&!(Nat.beq c2 d1)then some ⟨a,b,it,d1,d3,ty,rest⟩else none
 | _,_,_=>none
structure RgC where
 PX:Array Oper
 OZ:Array Oper
 Ry:Array Oper
 i:Nat
 i':Nat
 j:Nat
 c2:Nat
 body:Code
def A1:Code→Option RgC
 | .seq (.region _ PX false) (.block i (.loop (.seq (.region _ OZ false) (.seq (.cond (.tmp c2) .skip (.exit i')) (.block j (.seq (.region _ Ry false) body))))))=>some ⟨PX,OZ,Ry,i,i',j,c2,body⟩
 | _=>none
section
variable{F:Fam}(T:TypeId→Option (TI F))(Γ : Ctx F)(nv n:Nat)
def Sg(s:TS F)(it:Nat)(ob:Obj):TS F:=⟨(it,.c (.ptr s.c 0))::s.E,(s.c,.it ob)::s.M,s.c+1,[],[]⟩
def itC(s:TS F)(it:Nat):TS F:=⟨(it,.c .any)::s.E,s.M,s.c+1,it::s.dE,s.dM⟩
def zZ(s:TS F)(dr:List Nat)(kill:List Nat)(ks:Ks)(h:RgS)(c2:Nat)(ob:Obj)(t:TLS F ks)(kd:ND F)(d:Dat F):TS F:=
 let m:=merge nv dr kill (Sg s h.it ob) ks t
 ⟨(h.d3,.Pp [.c (.im kd),d])::(c2,.c (.im (.b true)))::(h.d1,.Pp [.c (.im (.b true)),.c (.im kd),d])::m.E,m.M,m.c,[],[]⟩
noncomputable def zU(f:TS F→{R:Type}→(Nat→TS F→Option R)→Option R)(PX OZ Ry:List Oper)(j c2:Nat)(ks:Ks)(dr:List Nat)(s:TS F){R:Type}(K:Nat→TS F→Option R):Option R:=
 match wV n PX OZ Ry c2 with
 | none=>none
 | some h=>match look s.E h.a with
  | some (.c (.Sy mid))=>match look s.M mid with
   | some (.mp tt l)=>match UQ T h.ty with
    | none=>none
    | some _=>
     if Nat.blt mid s.c&&!(Mf mid (aS s dr))&&!(Mf s.c (aS s dr))&&Nat.blt h.it nv&&!(Mf h.it dr) && [h.b,h.d1,c2,h.d3].all (λx=>Nat.ble nv x||Mf x dr) && [h.b,h.d1,c2].all (λx=>!(Mf x (keysOf ks)))&&tt.Ny then
      (rng (λob=>Om Γ (Sg s h.it ob) dr (s.c+1) (aS s dr) ks (Sg s h.it ob))
       (λob t x=>match LZ F tt x,rv tt x with
        | kd::_,some d=>WA T Γ nv n Ry h.rest (zZ nv s dr (aS s dr) ks h c2 ob t kd d) [] λs2 _=>rB nv (xu Ry) s2.E [] λE'=>f ⟨E',s2.M,s2.c,s2.dE,s2.dM⟩ λe s'=>
         if Nat.beq e 0||Nat.beq e (j+2)then Om Γ (Sg s h.it ob) dr (s.c+1) (aS s dr) ks s' else none
        | _,_=>none) l).bind λv=>K 0 (merge nv dr (aS s dr) (itC s h.it) ks v)
     else none
   | _=>none
  | _=>none
def MS:Code→TS F→{R:Type}→(Nat→TS F→Option R)→Option R
 | .skip,s,_,K=>K 0 s
 | .exit i,s,_,K=>K (i+2) s
 | .ret,s,_,K=>K 1 s
 | .region _ ops draw,s,_,K=>Tn T Γ nv n [] ops.toList draw s (K 0)
 | .seq a b,s,_,K=>MS a s λe s'=>match e with | 0=>MS b s' K | e=>K e s'
 | .cond (.tmp t) a b,s,_,K=>match look s.E t with
  | some (.c (.im (.b x)))=>cond x (MS a s K) (MS b s K)
  | _=>none
 | .cond (.const (.bool x)) a b,s,_,K=>cond x (MS a s K) (MS b s K)
 | .block i a,s,_,K=>MS a s λe s'=>if Nat.beq e (i+2)then K 0 s' else K e s'
 | .scope a,s,_,K=>MS a s K
 | .label _,s,_,K=>K 0 s
 | _,_,_,_=>none
def unr(f:TS F→{R:Type}→(Nat→TS F→Option R)→Option R):Nat→TS F→{R:Type}→(Nat→TS F→Option R)→Option R
 | 0,_,_,_=>none
 | n+1,s,_,K=>f s λe s'=>match e with | 0=>unr f n s' K | e=>K e s'
def wD(id:Nat)(s:TS F):TS F:=match look s.M id with
 | some (.Nc t l)=>⟨s.E,R9 s.M [(id,none),(s.c,some (.Nc t l)),(id,some (.Pq s.c l.length))],s.c+1,s.dE,id::s.c::s.dM⟩
 | _=>s
def Xk(x gs:Nat)(s:TS F):TS F:=match look s.E x with
 | some (.RY _ [] [_,.c (.ptr id 0)])=>⟨(gs,.gh id)::s.E,s.M,s.c,gs::s.dE,s.dM⟩
 | _=>s
def np:List Nat→TS F→TS F
 | [],s=>s
 | x::r,s=>np r (cond (Nat.ble 10000 x) (cond (Nat.ble 1000000 x) (Xk (x / 1000 - 1000) (x % 1000) s) (wD (x - 10000) s)) s)
def OI(nv:Nat)(s:TS F)(id ix:Nat)(dr:List Nat)(B:Mg F)(len:Nat)(n:Int):TS F:=
 ⟨(ix,.c (.im (.i .i64 n)))::s.E.filter (λp=>Nat.blt p.1 nv&&!(Mf p.1 (ix::dr))),(id,.Pq s.c len)::(s.c,B)::s.M.filter (λp=>!(Nat.beq id p.1)),s.c+1,ix::(dr++s.dE),id::s.dM⟩
def VG(c0 id ix:Nat)(dr:List Nat)(t:Ty)(s:TS F):Option (List (ET F t)×Nat×Int):=
 if s.dE.all (λx=>Mf x (ix::dr))&&s.dM.all (λy=>Nat.ble c0 y||Nat.beq y id)then
  match look s.E ix with
  | some (.c (.im (.i .i64 n)))=>match look s.M id with
   | some (.Pq k _)=>match look s.M (Tp (look s.M) 8 k)with
    | some (.NU t' l j)=>if h:t'=t then(if Nat.ble c0 (Tp (look s.M) 8 k)then some (h▸l,j,n)else none)else none
    | _=>none
   | _=>none
  | _=>none
 else none
noncomputable def M8:Hint→Code→TS F→{R:Type}→(Nat→TS F→Option R)→Option R
 | .z,c,s,_,K=>MS T Γ nv n c s K
 | .r kp,.region _ ops draw,s,_,K=>Tn T (cond (Mf 9998 kp) (mark Γ) Γ) nv n kp ops.toList draw (np kp s) (K 0)
 | .s h k,.seq a b,s,_,K=>M8 h a s λe s'=>match e with | 0=>M8 k b s' K | e=>K e s'
 | .c h k,.cond (.tmp t) a b,s,_,K=>match look s.E t with
  | some (.c (.im (.b x)))=>cond x (M8 h a s K) (M8 k b s K)
  | _=>none
 | .c h k,.cond (.const (.bool x)) a b,s,_,K=>cond x (M8 h a s K) (M8 k b s K)
 | .b h,.block i a,s,_,K=>M8 h a s λe s'=>if Nat.beq e (i+2)then K 0 s' else K e s'
 | .b h,.scope a,s,_,K=>M8 h a s K
 | .u k h,.loop a,s,_,K=>unr (λs _ K=>M8 h a s K) k s K
 | .p h k,.loop a,s,_,K=>cond k.isL (M8 h a s λe s'=>match e with | 0=>M8 k (.loop a) s' K | e=>K e s') none
 | .j dr xs h,c,s,_,K=>
  let OY:=dr++PV xs
  let kill:=aS s OY
  (M8 h c (clean s) λe s'=>TP Γ s OY s.c kill xs e s').bind λv=>Ti (λe ks x=>K e (merge nv OY kill s ks x)) xs v
 | .l ks dr xs h,.loop a,s,_,K=>
  let OY:=dr++keysOf ks++PV xs
  let kill:=aS s OY
  match Om Γ s OY s.c kill ks (clean s)with
  | none=>none
  | some t0=>(loop (λt:TLS F ks=>M8 h a (clean (merge nv OY kill s ks t)) λe s'=>match e with
    | 0=>(match Om Γ s OY s.c kill ks s' with | some t'=>some (Sum.inl t') | none=>none)
    | e=>(match TP Γ s OY s.c kill xs e s' with | some v=>some (Sum.inr v) | none=>none)) t0).bind λv=>Ti (λe ks x=>K e (merge nv OY kill s ks x)) xs v
 | .m x ix ex dr h,.loop a,s,_,K=>match look s.E x with
  | some (.c (.Nn id))=>match look s.M id with
   | some (.row t l0)=>match look s.E ix with
    | some (.c (.im (.i .i64 n0)))=>if Nat.blt id s.c&&Nat.blt 0 ex then
      (loop (λq:List (ET F t)×Nat×Int=>M8 h a (clean (OI nv s id ix dr (.NU t q.1 q.2.1) q.1.length q.2.2)) λe s'=>match e with
       | 0=>(match VG s.c id ix dr t s' with | some q'=>some (Sum.inl q') | none=>none)
       | e=>if Nat.beq e ex then(match VG s.c id ix dr t s' with | some q'=>some (Sum.inr q') | none=>none)else none) (l0,0,n0)).bind λv=>
        cond (Nat.ble v.1.length v.2.1) (K ex (OI nv s id ix dr (.Nc t v.1) v.1.length v.2.2)) none
     else none
    | _=>none
   | _=>none
  | _=>none
 | .g ks dr h,c,s,_,K=>match A1 c with
  | none=>none
  | some q=>if Nat.beq q.i' q.i then zU T Γ nv n (λs _ K=>M8 h q.body s K) q.PX.toList q.OZ.toList q.Ry.toList q.j q.c2 ks (dr++keysOf ks) s K else none
 | _,_,_,_,_=>none
def params:Nat→List (Dat F)→List (Nat×Dat F)
 | _,[]=>[]
 | k,d::l=>(k,d)::params (k+1) l
def acS(s:TS F):ResultVar→Option (Dat F)
 | .tmp t=>look s.E t
 | .cell a ty=>match T ty with
  | none=>none
  | some ti=>match look s.E a with
   | some (.c (.ptr id off))=>match look s.M id with
    | some (.box cs)=>fS ti cs off
    | _=>none
   | _=>none
def VN(s:TS F):List ResultVar→Option (List (Dat F))
 | []=>some []
 | r::l=>match acS T s r with
  | none=>none
  | some d=>match VN s l with
   | none=>none
   | some ds=>some (d::ds)
def c_(mm:Nat→Option (Mg F)):(ks:List Kd)→List (Dat F)→List Nat→Option (Pk (TL F ks))
 | [],[],[]=>some ⟨(),[],[],[]⟩
 | [.box t ow],[],[b]=>nE mm t (oo ow) (.c (.ptr b 0))
 | .box t ow::l::ks,ds,b::bx=>match nE mm t (oo ow) (.c (.ptr b 0))with
  | none=>none
  | some p=>match c_ mm (l::ks) ds bx with
   | none=>none
   | some q=>some ⟨(p.x,q.x),p.os++q.os,p.fz++q.fz,p.bx++q.bx⟩
 | [.row t _],[],[b]=>rr mm t b
 | .row t _::l::ks,ds,b::bx=>match rr mm t b with
  | none=>none
  | some p=>match c_ mm (l::ks) ds bx with
   | none=>none
   | some q=>some ⟨(p.x,q.x),p.os++q.os,p.fz++q.fz,p.bx++q.bx⟩
 | [k],[d],[]=>Rs Γ mm k d
 | k::l::ks,d::ds,bx=>match Rs Γ mm k d with
  | none=>none
  | some p=>match c_ mm (l::ks) ds bx with
   | none=>none
   | some q=>some ⟨(p.x,q.x),p.os++q.os,p.fz++q.fz,p.bx++q.bx⟩
 | _,_,_=>none
def Tf(fn:Func)(ks rs:List Kd)(a:HL F ks)(s:TS F):Option (TL F (rs++ks.filter Kd.Ni)):=
 match VN T s fn.results.toList with
 | none=>none
 | some rd=>match c_ Γ (look s.M) (rs++ks.filter Kd.Ni) rd (aU ks a 0)with
  | none=>none
  | some p=>if d9 (Mq p.os)&&RU (Mq p.os) p.fz then some p.x else none
noncomputable def WY(fn:Func)(h:Hint)(ks rs:List Kd)(a:HL F ks):Option (TL F (rs++ks.filter Kd.Ni)):=
 match fn.body with
 | none=>none
 | some body=>match NV ks a 0 with
  | (ds,bs,c)=>if zJ ks then M8 T Γ nv fn.ntmps h body ⟨params 0 (TQ ks a ds),bs,c,[],[]⟩ λe s=>
   match e with
   | 0 | 1=>Tf T Γ fn ks rs a s
   | _=>none
   else none
end
set_option linter.unusedVariables false
set_option linter.unusedSimpArgs false
structure aaB(P:Program)(t:TypeId):Prop where
 a:P.stoodInHeld t=false
 b:P.eqGuardType P.depth t=false
section
variable{F:Fam}
def adv:Value→Bool
 | .agg _=>true
 | _=>false
structure Mc(P:Program)(T:TypeId→Option (TI F)):Prop where
 und:∀t i,T t=some i→P.underlying t=some i.desc
 info:∀t i,T t=some i→∃j,P.info? t=some j∧j.size=i.size∧j.bytes=i.bytes∧∃z,j.zero=some z∧z.cells.size=i.size∧i.zero.length=i.size∧
  ∀(w:World)(Li:Nat→Prop)(k:Nat)(d:ND F) (x:Value),i.zero[k]? = some d→z.cells[k]? = some x→L_ w Li d x
 eq:∀t i,T t=some i→i.eq=true→aaB P t
 ty:∀t i tt,T t=some i→i.ty=some tt→LY F tt=i.size
 zag:∀t i j z,T t=some i→P.info? t=some j→j.zero=some z→adv z=fM i.desc
section inv
variable{P:Program}{g:G}{w:World}{v:Value}
theorem cv{k:IntKind}{n:Int}(h:Ma (F:=F) P g w (.c (.im (.i k n))) v):v = .int k n:=by cases h with | c h=>cases h with | im h=>cases h;rfl
theorem pX{x:Bool}(h:Ma (F:=F) P g w (.c (.im (.b x))) v):v = .bool x:=by cases h with | c h=>cases h with | im h=>cases h;rfl
theorem ur{l:List UInt8}(h:Ma (F:=F) P g w (.c (.im (.s l))) v):v = .string ⟨⟨l⟩⟩:=by cases h with | c h=>cases h with | im h=>cases h;rfl
theorem pw(h:Ma (F:=F) P g w (.c (.im .nl)) v):∃p,v = .slice p 0 0:=by cases h with | c h=>cases h with | im h=>cases h;exact⟨_,rfl⟩
theorem IQ{x:Value}(h:Ma (F:=F) P g w (.c (.im (.v x))) v):v=x:=by cases h with | c h=>cases h with | im h=>cases h;rfl
theorem Je{cs:List (ND F)}(h:Ma (F:=F) P g w (.c (.Uz cs)) v):∃(b o b2 o2:Nat)(f:Nat→Value),g.Li b∧w.cell? ⟨b,o,none⟩=some (.pointer (some ⟨b2,o2,none⟩))∧g.Li b2∧v = .pointer (some ⟨b,o,none⟩)∧(∀k d,cs[k]? = some d→w.cell? ⟨b2,o2+k,none⟩=some (f k))∧∀k d,cs[k]? = some d→L_ w g.Li d (f k):=by
 cases h with | c h=>cases h with | Uz _ b o b2 o2 f hb hv hb2 hc hr=>exact⟨b,o,b2,o2,f,hb,hv,hb2,rfl,hc,hr⟩
theorem wX{id n:Nat}(h:Ma (F:=F) P g w (.c (.Tx id n)) v):∃b c,g.ids id=some (some (b,c))∧n≤maxLen∧v = .slice (some ⟨b,0,none⟩) n n:=by
 cases h with | c h=>cases h with | Tx h hm=>exact⟨_,_,h,hm,rfl⟩
theorem bW{id off:Nat}(h:Ma (F:=F) P g w (.c (.ptr id off)) v):∃b c,g.ids id=some (some (b,c))∧v = .pointer (some ⟨b,off,none⟩):=by
 cases h with | c h=>cases h with | ptr h=>exact⟨_,_,h,rfl⟩
theorem ja{id sz i off:Nat}(h:Ma (F:=F) P g w (.c (.OV id sz i off)) v):∃b c,g.ids id=some (some (b,c))∧v = .pointer (some ⟨b,i*sz+off,none⟩):=by
 cases h with | c h=>cases h with | OV h=>exact⟨_,_,h,rfl⟩
theorem Kf{id sz i off:Nat}(h:Ma (F:=F) P g w (.c (.Tv id sz i off)) v):∃(b c:Nat)(n:Nat×NS)(pl:Option (Nat×Nat×Nat)),g.ids id=some (some (b,c,n))∧n.2[i*sz+off]? = some pl∧Ol (Nt pl) v:=by
 cases h with | c h=>cases h with | Tv h h1 h2=>exact⟨_,_,_,_,h,h1,h2⟩
theorem CD{id sz i off sz' j off':Nat}(h:Ma (F:=F) P g w (.c (.Ud id sz i off sz' j off')) v):∃(b c:Nat)(n:Nat×NS)(b':Nat)(c':Nat×Nat),g.ids id=some (some (b,c,n))∧n.2[i*sz+off]? = some (some (b',c'))∧v = .pointer (some ⟨b',j*sz'+off',none⟩):=by
 cases h with | c h=>cases h with | Ud h h1=>exact⟨_,_,_,_,_,h,h1,rfl⟩
theorem rz{cs:List (ND F)}{off:Nat}(h:Ma P g w (.c (.pt cs off)) v):∃(b o:Nat)(f:Nat→Value),g.Li b∧v = .pointer (some ⟨b,o+off,none⟩)∧
  (∀k d,cs[k]? = some d→w.cell? ⟨b,o+k,none⟩=some (f k))∧(∀k d,cs[k]? = some d→L_ w g.Li d (f k)):=by
 cases h with | c h=>cases h with | pt _ _ b o f hb hc hr=>exact⟨b,o,f,hb,rfl,hc,hr⟩
theorem oI{cs:List (MJ F)}(h:Ma P g w (.agg cs) v):∃vs:List Value,v = .agg ⟨vs⟩∧vs.length=cs.length∧∀(k:Nat)(c:MJ F)(x:Value),cs[k]? = some c→vs[k]? = some x→Mh g w c x:=by
 cases h with | agg hl h=>exact⟨_,rfl,hl,h⟩
theorem B5{ds:List (Dat F)}(h:Ma P g w (.Pp ds) v):∃vs:List Value,v = .tuple ⟨vs⟩∧vs.length=ds.length∧∀(k:Nat)(d:Dat F)(x:Value),ds[k]? = some d→vs[k]? = some x→Ma P g w d x:=by
 cases h with | Pp hl h=>exact⟨_,rfl,hl,h⟩
theorem bh{x:MJ F}(h:Ma P g w (.c x) v):Mh g w x v:=by cases h with | c h=>exact h
theorem tI{d:ND F}(h:Ma P g w (.c (.im d)) v):L_ w g.Li d v:=by cases h with | c h=>cases h with | im h=>exact h
theorem tg{t:Ty}{l:List (ET F t)}(h:L_ w g.Li (.sl t l) v):(l = []∧∃p,v = .slice p 0 0)∨
  ∃(b o cap:Nat)(f:Nat→Value),g.Li b∧l.length≤cap∧cap≤maxLen∧v = .slice (some ⟨b,o,none⟩) l.length cap∧
   (∀k d,(cells F t l)[k]? = some d→w.cell? ⟨b,o+k,none⟩=some (f k))∧(∀k d,(cells F t l)[k]? = some d→L_ w g.Li d (f k)):=by
 cases h with
 | sl0 t p=>exact .inl ⟨rfl,p,rfl⟩
 | sl t l b o cap f hb hcap hm hc hr=>exact .inr ⟨b,o,cap,f,hb,hcap,hm,rfl,hc,hr⟩
theorem OD(k:IntKind)(n:Int):Ma (F:=F) P g w (.c (.im (.i k n))) (.int k n):=.c (.im (.i k n))
theorem VD(x:Bool):Ma (F:=F) P g w (.c (.im (.b x))) (.bool x):=.c (.im (.b x))
theorem WE(l:List UInt8):Ma (F:=F) P g w (.c (.im (.s l))) (.string ⟨⟨l⟩⟩):=.c (.im (.s l))
theorem c9{d:ND F}{x:Value}(h:Mh g w (.im d) x):L_ w g.Li d x:=by cases h;assumption
end inv
theorem yh(g:G)(w:World)(v:Value):Mh (F:=F) g w (Xp v) v:=by
 unfold Xp;split
 ·exact .im (.i _ _)
 ·exact .im (.b _)
 ·exact .im (.s _)
 ·exact .im (.nl _)
 ·exact .any
 ·exact .any
 ·refine .im (.v _ ?_)
  cases v<;>simp_all [Value.oneCell']
theorem Eo(P:Program)(g:G)(w:World)(v:Value):Ma (F:=F) P g w (Zf v) v:=by
 unfold Zf;split
 ·rename_i cs
  refine .agg (by simp) ?_
  intro k c x h1 h2;rw[Rf]at h1;rw[h2]at h1;simp only[Xy,NJ]at h1;subst h1;exact yh g w x
 ·exact .c (yh g w v)
theorem Jj{P:Program}{g:G}{w:World}{e:Nat→Option (Dat F)}{a:Act}(h:∀x d,e x=some d→Ma P g w d (a.tmps.getD x undef))(x:Operand) :
  Ma P g w (opd e x) (a.eval x):=by
 cases x with
 | tmp t=>
  simp only[opd]
  cases ht:e t with
  | none=>exact .c .any
  | some d=>exact h t d ht
 | const v=>exact Eo P g w v
 | global gl=>exact .c (.im (.v _ rfl))
 | func f=>exact .c (.im (.v _ rfl))
theorem HE{P:Program}{g:G}{w:World}{e:Nat→Option (Dat F)}{a:Act}(apa:∀x d,e x=some d→Ma P g w d (a.tmps.getD x undef))(l:List Operand):MF P g w (l.map (opd e)) (l.map a.eval):=by
 refine⟨by simp,?_⟩
 intro k d x h1 h2;rw[Rf,Wi]at h1 h2;obtain⟨p,hp,rfl⟩:=h1;obtain⟨q,hq,rfl⟩:=h2;rw[hp]at hq;cases hq;exact Jj apa p
def PY(P:Program)(own:Ow)(m:Nat→Option (Mg F))(u:Nat→Bool)(g:G)(w:World)(o:Oper)(a:Act)(c:Nat)(r:SS F):Prop:=
 ∀(next:Act→World→Prop)(Q:Exit→Act→World→Prop),
  (∀v w' g',Ma P g' w' r.val v→LQ own g' w' (Ml m r.mw)→Stp m g w g' w'→(∀id,u id=false→(id<c∨c+r.nu≤id)→g'.ids id=none)→next (a.put o.dst v) w')→
  o.wp P a w next Q
def P6(mm m:Nat→Option (Mg F)):Prop:=∀id B,mm id=some B→m id=some B
theorem N9.trans{x y:Nat}{p q r:Option Pl}(h:N9 x p q)(k:N9 y q r):N9 x p r:=by
 rcases h with⟨b,c,n,n',rfl,rfl,h3,h3'⟩ | ⟨rfl,rfl,h3⟩
 ·rcases k with⟨b',c',m,m',h4,rfl,h6,_⟩ | ⟨h4,_⟩
  ·cases h4;exact .inl ⟨_,_,_,_,rfl,rfl,h6.trans h3,h3'⟩
  ·cases h4
 ·rcases k with⟨b',c',m,m',h4,_⟩ | ⟨_,rfl,_⟩
  ·cases h4
  ·exact .inr ⟨rfl,rfl,h3⟩
section
variable{F:Fam}{own:Ow}{g:G}{w:World}{m mm:Nat→Option (Mg F)}
theorem tR(hm:LQ own g w m)(hle:P6 mm m):∀(n id:Nat),Tp mm n id=id∨∃k,N9 k (g.ids id) (g.ids (Tp mm n id))
 | 0,id=>.inl rfl
 | n+1,id=>by
  simp only[Tp];split
  ·rename_i k x hk;have h1:N9 x (g.ids id) (g.ids k):=hm.ok id _ (hle _ _ hk);rcases tR hm hle n k with h | ⟨_,h⟩
   ·rw[h];exact .inr ⟨_,h1⟩
   ·exact .inr ⟨_,h1.trans h⟩
  ·exact .inl rfl
theorem s_(hm:LQ own g w m)(hle:P6 mm m)(id:Nat):U7 mm id=id∨∃k,N9 k (g.ids id) (g.ids (U7 mm id)):=by
 unfold U7;split
 ·rename_i k x hk;have h1:N9 x (g.ids id) (g.ids k):=hm.ok id _ (hle _ _ hk);rcases tR hm hle 8 k with h | ⟨_,h⟩
  ·rw[h];exact .inr ⟨_,h1⟩
  ·exact .inr ⟨_,h1.trans h⟩
 ·exact .inl rfl
theorem vE(hm:LQ own g w m)(hle:P6 mm m){x:MJ F}{v:Value}(h:Mh g w x v):Mh g w (WC mm x) v:=by
 cases x with
 | Nn id=>
  simp only[WC];rcases s_ hm hle id with e | ⟨_,hs⟩
  ·rw[e];exact h
  ·rcases hs with⟨b,c,n,n',h1,h2,h3,_⟩ | ⟨h1,h2,_⟩
   ·cases h with
    | PG p hi=>rw[h1]at hi;cases hi
    | Nn hi hl hm=>rw[h1]at hi;cases hi;rw[← h3]at hl ⊢;exact .Nn h2 hl hm
   ·cases h with
    | PG p hi=>exact .PG p h2
    | Nn hi hl hm=>rw[h1]at hi;cases hi
 | OV id sz i off=>
  simp only[WC];rcases s_ hm hle id with e | ⟨_,hs⟩
  ·rw[e];exact h
  ·rcases hs with⟨b,c,n,n',h1,h2,h3,_⟩ | ⟨h1,h2,_⟩
   ·cases h with | OV hi=>rw[h1]at hi;cases hi;exact .OV h2
   ·cases h with | OV hi=>rw[h1]at hi;cases hi
 | RD id sz off len=>
  simp only[WC];rcases s_ hm hle id with e | ⟨_,hs⟩
  ·rw[e];exact h
  ·rcases hs with⟨b,c,n,n',h1,h2,h3,_⟩ | ⟨h1,h2,_⟩
   ·cases h with
    | Tq p hi=>rw[h1]at hi;cases hi
    | RD hi hl hn ho hm=>rw[h1]at hi;cases hi;exact .RD h2 (by rw[h3];exact hl) (by rw[h3];exact hn) ho hm
   ·cases h with
    | Tq p hi=>exact .Tq p h2
    | RD hi hl hn ho hm=>rw[h1]at hi;cases hi
 | _=>exact h
theorem GG{P:Program}(hm:LQ own g w m)(hle:P6 mm m){d:Dat F}{v:Value}(h:Ma P g w d v):Ma P g w (aag mm d) v:=by
 cases h with
 | c h=>exact .c (vE hm hle h)
 | agg h1 h2=>exact .agg h1 h2
 | Pp h1 h2=>exact .Pp h1 h2
 | RY h1 h2 h3 h4=>exact .RY h1 h2 h3 h4
 | fv h=>exact .fv h
 | gh h=>exact .gh h
theorem FZ{P:Program}(hm:LQ own g w m)(hle:P6 mm m){ds:List (Dat F)}{vs:List Value}(h:MF P g w ds vs):MF P g w (ds.map (aag mm)) vs:=by
 refine⟨by rw[Py];exact h.1,λk d x a b=>?_⟩
 rw[Rf]at a;obtain⟨c0,h0,rfl⟩:=Wi.1 a;exact GG hm hle (h.2 k c0 x h0 b)
end
def Does(P:Program)(o:Oper)(vals:List (Dat F))(mm:Nat→Option (Mg F))(c:Nat)(res:SS F):Prop:=
 ∀(own:Ow)(g:G)(w:World)(a:Act) (m:Nat→Option (Mg F)) (u:Nat→Bool),P6 mm m→LQ own g w m→(∀id,u id=false→g.ids id=none)→
  (∀b,w.heap.size≤b→own.o b)→(∀k,k<res.nu→u (c+k)=false)→MF P g w vals (o.op.operands.toList.map a.eval)→PY P own m u g w o a c res
def U0(P:Program)(o:Oper)(vals:List (Dat F))(mm:Nat→Option (Mg F))(d:Dat F):Prop:=
 ∀(own:Ow)(g:G)(w:World)(a:Act) (m:Nat→Option (Mg F)),P6 mm m→LQ own g w m→MF P g w vals (o.op.operands.toList.map a.eval)→
  ∃v,(execOp a.eval o).run P w = .ok (.value v) w∧Ma P g w d v
theorem U0.does{P:Program}{o:Oper}{vals:List (Dat F)}{mm:Nat→Option (Mg F)}{d:Dat F}(h:U0 P o vals mm d)(c:Nat):Does P o vals mm c { val:=d }:=by intro own g w a m u hle hm hd _ _ hr;obtain⟨v,hrun,hv⟩:=h own g w a m hle hm hr;intro next Q hn;unfold Oper.wp;rw[hrun];exact hn v w g hv hm (.refl _ _ _) (λid hu _=>hd id hu)
def Rule(P:Program)(o:Oper)(vals:List (Dat F))(mm:Nat→Option (Mg F))(c:Nat){R:Type}(K:SS F→Option R)(x:Option R):Prop:=
 ∀r,x=some r→∃res,K res=some r∧Does P o vals mm c res
section ops
variable{P:Program}{T:TypeId→Option (TI F)}{o:Oper}{vals:List (Dat F)}{mm:Nat→Option (Mg F)}{c:Nat}{R:Type}{K:SS F→Option R}
theorem af:Rule P o vals mm c K none:=λ_ h=>by cases h
theorem av{d:Dat F}(h:U0 P o vals mm d):Rule P o vals mm c K (K { val:=d }):=λ_ hr=>⟨_,hr,h.does c⟩
theorem aE{α : Type}{x:Option α}{f:α→Option R}(h:∀a,x=some a→Rule P o vals mm c K (f a)):Rule P o vals mm c K (x.bind f):=by intro r hr;rw[ZV]at hr;obtain⟨a,ha,hr⟩:=hr;exact h a ha r hr
theorem aA{p:Prop}[Decidable p]{x y:Option R}(h1:p→Rule P o vals mm c K x)(h2:¬ p→Rule P o vals mm c K y):Rule P o vals mm c K (if p then x else y):=by
 split
 ·exact h1 (by assumption)
 ·exact h2 (by assumption)
theorem Nw{g:G}{w:World}{d:Dat F}{v:Value}(h:MF P g w [d] [v]):Ma P g w d v:=h.2 0 d v rfl rfl
theorem M5{g:G}{w:World}{d e:Dat F}{v x:Value}(h:MF P g w [d,e] [v,x]):Ma P g w d v∧Ma P g w e x:=⟨h.2 0 d v rfl rfl,h.2 1 e x rfl rfl⟩
theorem aZ{g:G}{w:World}{d:Dat F}{ds:List (Dat F)}{v:Value}{vs:List Value}:MF P g w (d::ds) (v::vs)↔Ma P g w d v∧MF P g w ds vs:=by
 constructor
 ·intro h
  refine⟨h.2 0 d v rfl rfl,by simpa using h.1,λk e x h1 h2=>h.2 (k+1) e x (by simpa using h1) (by simpa using h2)⟩
 ·rintro⟨h1,h2,h3⟩
  refine⟨by simp[h2],λk e x a b=>?_⟩
  cases k with
  | zero=>simp at a b;subst a;subst b;exact h1
  | succ k=>exact h3 k e x (by simpa using a) (by simpa using b)
theorem xQ{x:Operand}{d:Dat F}(ho:o.op = .move x∨o.op = .assign x)(hv:vals = [d]):Rule P o vals mm c K (K { val:=d }):=by
 subst hv;refine av ?_;intro own g w a m _ _ hr
 refine⟨a.eval x,by rcases ho with ho | ho<;>simp[execOp,ho],?_⟩
 rcases ho with ho | ho<;>(rw[ho]at hr;exact Nw hr)
theorem F3{x y z:Operand}(ho:o.op = .pick x y z):Rule P o vals mm c K (YX vals K):=by
 unfold YX;split
 ·rename_i b d e
  have key:∀b':Bool,b=b'→U0 P o [.c (.im (.b b)),d,e] mm (if b' then d else e):=by
   rintro b' rfl own g w a m _ _ hr;rw[ho]at hr;simp only[Op.operands,M9,Oi,aZ]at hr
   refine⟨if b then a.eval y else a.eval z,by simp[execOp,ho,pX hr.1,asBool],?_⟩
   cases b
   ·exact hr.2.2.1
   ·exact hr.2.1
  cases b
  ·exact av (key false rfl)
  ·exact av (key true rfl)
 ·exact af
theorem JQ{op:UnOp}{t:TypeId}{x:Operand}(ho:o.op = .unOp op t x):Rule P o vals mm c K (tUn vals K op):=by
 unfold tUn;split
 ·refine av ?_;intro own g w a m _ _ hr;rw[ho]at hr;have hx:=cv (Nw hr)
  exact⟨_,by simp[execOp,ho,hx,Op.unary,Op.intArith],OD _ _⟩
 ·refine av ?_;intro own g w a m _ _ hr;rw[ho]at hr;have hx:=pX (Nw hr)
  exact⟨_,by simp[execOp,ho,hx,Op.unary],VD _⟩
 ·exact af
theorem IL{x:Int}{u:Unit}(h:nz x=some u):x≠0:=by
 unfold nz at h;split at h
 ·assumption
 ·cases h
theorem II{x:Int}{u:Unit}(h:nn x=some u):0≤x:=by
 unfold nn at h;split at h
 ·assumption
 ·cases h
theorem Bs{op:BinOp}{xT yT:TypeId}{x y:Operand}{k:IntKind}{n m:Int}(ho:o.op = .binOp op xT x y yT)(hv:vals = [.c (.im (.i k n)),.c (.im (.i k m))]):Rule P o vals mm c K (xp K op k n m y):=by
 subst hv
 have key:∀(d:ND F)(v:Value),(∀w:World,(binOp op xT (.int k n) (.int k m)).run P w = .ok v w)→(∀(w:World)(g:G),Ma (F:=F) P g w (.c (.im d)) v)→Rule P o [.c (.im (.i k n)),.c (.im (.i k m))] mm c K (K { val:=.c (.im d) }):=by
  intro d v hrun hrep;refine av ?_;intro own g w a m' _ _ hr;rw[ho]at hr;simp only[Op.operands,M9,Oi]at hr;obtain⟨h1,h2⟩:=M5 hr
  exact⟨v,by simp only[execOp,ho,cv h1,cv h2,OA,eqGuard_at_int,PD,OM,hrun w],hrep w g⟩
 have lit:VX y=true→∀(a:Act)(w:World)(g:G),MF (F:=F) P g w [.c (.im (.i k n)),.c (.im (.i k m))] (o.op.operands.toList.map a.eval)→m≠0:=by
  intro hl a w g hr;rw[ho]at hr;simp only[Op.operands,M9,Oi]at hr;have h2:=cv (M5 hr).2;unfold VX at hl;split at hl
  ·simp only[Act.eval,Value.int.injEq]at h2;simp at hl;rw[← h2.2];exact hl
  ·cases hl
 have afq:∀(d:ND F)(v:Value),VX y=true→(m≠0→∀w:World,(binOp op xT (.int k n) (.int k m)).run P w = .ok v w)→(∀(w:World)(g:G),Ma (F:=F) P g w (.c (.im d)) v)→Rule P o [.c (.im (.i k n)),.c (.im (.i k m))] mm c K (K { val:=.c (.im d) }):=by
  intro d v hl hrun hrep;refine av ?_;intro own g w a m' _ _ hr;have hm:=lit hl a w g hr;rw[ho]at hr;simp only[Op.operands,M9,Oi]at hr;obtain⟨h1,h2⟩:=M5 hr
  exact⟨v,by simp only[execOp,ho,cv h1,cv h2,OA,eqGuard_at_int,PD,OM,hrun hm w],hrep w g⟩
 cases op<;>simp only[xp]
 case quo=>
  refine aA (λhl=>?_) (λ_=>aE λu hu=>?_)
  ·exact afq _ _ hl (λhm w=>by simp[binOp,Op.intDiv,hm]) (λ_ _=>OD _ _)
  ·exact key _ _ (λw=>by simp[binOp,Op.intDiv,IL hu]) (λ_ _=>OD _ _)
 case rem=>
  refine aA (λhl=>?_) (λ_=>aE λu hu=>?_)
  ·exact afq _ _ hl (λhm w=>by simp[binOp,Op.intDiv,hm]) (λ_ _=>OD _ _)
  ·exact key _ _ (λw=>by simp[binOp,Op.intDiv,IL hu]) (λ_ _=>OD _ _)
 case add | sub | mul=>exact key _ _ (λw=>by simp[binOp,Op.intArith]) (λ_ _=>OD _ _)
 case and | or | xor=>exact key _ _ (λw=>by simp only[binOp,ne_eq,not_true_eq_false,if_false];rfl) (λ_ _=>OD _ _)
 all_goals first | exact af | exact key _ _ (λw=>by simp[binOp,Op.intCmp]) (λ_ _=>VD _)
end ops
end
set_option linter.unusedVariables false
set_option linter.unusedSimpArgs false
section
variable{F:Fam}{P:Program}{T:TypeId→Option (TI F)}{o:Oper}{vals:List (Dat F)}{mm:Nat→Option (Mg F)}{c:Nat}{R:Type}{K:SS F→Option R}{own:Ow}{g:G}{w:World}{m:Nat→Option (Mg F)}
theorem Kz{l m r:List UInt8}(h:cat l m=some r):(l.length:Int)+m.length≤9223372036854775807∧l++m=r:=by
 unfold cat at h;split at h
 ·rename_i hc;cases h;exact⟨by have:=U4 hc;omega,rfl⟩
 ·cases h
theorem Bn{op:BinOp}{xT yT:TypeId}{x y:Operand}{l m:List UInt8}(ho:o.op = .binOp op xT x y yT)(hv:vals = [.c (.im (.s l)),.c (.im (.s m))]):Rule P o vals mm c K (xk K op l m):=by
 subst hv
 have key:∀(d:ND F)(v:Value),(∀w:World,(binOp op xT (.string ⟨⟨l⟩⟩) (.string ⟨⟨m⟩⟩)).run P w = .ok v w)→(∀(w:World)(g:G),Ma (F:=F) P g w (.c (.im d)) v)→Rule P o [.c (.im (.s l)),.c (.im (.s m))] mm c K (K { val:=.c (.im d) }):=by
  intro d v hrun hrep;refine av ?_;intro own g w a m' _ _ hr;rw[ho]at hr;simp only[Op.operands,M9,Oi]at hr;obtain⟨h1,h2⟩:=M5 hr
  exact⟨v,by simp only[execOp,ho,ur h1,ur h2,OA,eqGuard_at_string,PD,OM,hrun w],hrep w g⟩
 cases op<;>simp only[xk]
 case add=>
  refine aE λr hr=>?_;obtain⟨hm,rfl⟩:=Kz hr
  have e:(⟨⟨l⟩⟩:ByteArray)++⟨⟨m⟩⟩=⟨⟨l++m⟩⟩:=by apply ByteArray.ext;simp
  refine key _ _ (λw=>?_) (λ_ _=>WE _);have hs:∀l:List UInt8,(⟨⟨l⟩⟩:ByteArray).size=l.length:=λ_=>rfl;simp only[binOp,Op.stringOp,hs,e]
  rw[if_neg (by rw[IntKind.max_i64];omega)]
  rfl
 all_goals first | exact af | exact key _ _ (λw=>by simp[binOp,Op.stringOp,SG]) (λ_ _=>VD _)
theorem uS{d:Option TypeDesc}{a b:MJ F}{p:Bool}(h:TY d a b=some p) :
  (∃k0 k n m,d=some (.int k0)∧a = .im (.i k n)∧b = .im (.i k m)∧p=(n == m))∨(∃x y,d=some .bool∧a = .im (.b x)∧b = .im (.b y)∧p=(x == y))∨
  (∃l m,d=some .string∧a = .im (.s l)∧b = .im (.s m)∧p=(l == m)):=by
 unfold TY at h;split at h
 ·split at h
  ·rename_i hk;subst hk;cases h;exact .inl ⟨_,_,_,_,rfl,rfl,rfl,rfl⟩
  ·cases h
 ·cases h;exact .inr (.inl ⟨_,_,rfl,rfl,rfl,rfl⟩)
 ·cases h;exact .inr (.inr ⟨_,_,rfl,rfl,rfl,rfl⟩)
 ·cases h
theorem mN(hT:Mc P T){t:TypeId}{d:TypeDesc}(h:jf T t=some d):P.underlying t=some d:=by
 unfold jf at h;split at h
 ·rename_i ti ht;cases h;exact hT.und _ _ ht
 ·cases h
theorem Bp{f:Field}{fs:List Field}{off:Nat}{cs ds:List (MJ F)}{x:Bool}(h:mX T (f::fs) off cs ds=some x) :
  ∃ a b l r p q,cs = a :: l ∧ ds = b :: r ∧ f.name ≠ "_" ∧ f.offset = off ∧ TY (jf T f.type) a b = some p ∧ mX T fs (off + 1) l r = some q ∧ x = (p && q):=by
 unfold mX at h;split at h
 ·exact absurd (by assumption:f::fs = []) (by simp)
 ·rename_i heq;cases heq;split at h
  ·rename_i hc;simp only[Np,bne_iff_ne,beq_iff_eq]at hc
   exact⟨_,_,[],[],x,true,rfl,rfl,hc.1,hc.2,h,by simp[mX],by simp⟩
  ·cases h
 ·rename_i heq;cases heq;split at h
  ·rename_i hc;simp only[Np,bne_iff_ne,beq_iff_eq]at hc;split at h
   ·cases h
   ·rename_i p hp;split at h
    ·cases h
    ·rename_i q hq;cases h;exact⟨_,_,_,_,p,q,rfl,rfl,hc.1,hc.2,hp,hq,rfl⟩
  ·cases h
 ·cases h
theorem sS(hT:Mc P T){cs ds:List (MJ F)}{xs ys:List Value}(hx:∀(k:Nat)(c:MJ F)(x:Value),cs[k]? = some c→xs[k]? = some x→Mh g w c x)
  (hy:∀(k:Nat)(c:MJ F)(x:Value),ds[k]? = some c→ys[k]? = some x→Mh g w c x) (hlx:xs.length=cs.length) (hly:ys.length=ds.length) (dp:Nat) :
  ∀(fs:List Field)(off:Nat)(cs' ds':List (MJ F)) (b:Bool),(∀k,cs'[k]? = cs[off+k]?)→(∀k,ds'[k]? = ds[off+k]?)→
   mX T fs off cs' ds'=some b→(Op.eqFields (dp+1) ⟨xs⟩ ⟨ys⟩ fs).run P w = .ok b w:=by
 intro fs
 induction fs with
 | nil=>
  intro off cs' ds' b h1 h2 he;unfold mX at he;split at he
  ·cases he;simp[Op.eqFields]
  ·rename_i heq;cases heq
  ·rename_i heq;cases heq
  ·cases he
 | cons f fs ih=>
  intro off cs' ds' b h1 h2 he;obtain⟨c0,d0,cr,dr,p,q,rfl,rfl,hn,rfl,hp,hq,rfl⟩:=Bp he;have ec:=h1 0;have ed:=h2 0;simp only[PW,Vm]at ec ed
  have lx:f.offset<xs.length:=by rw[hlx];exact(K_.1 ec.symm).1
  have ly:f.offset<ys.length:=by rw[hly];exact(K_.1 ed.symm).1
  have vx:=hx _ _ _ ec.symm (K9 lx);have vy:=hy _ _ _ ed.symm (K9 ly)
  have hq':=ih (f.offset+1) cr dr q (λj=>by have:=h1 (j+1);simpa[UA,QfH 1 j]using this) (λj=>by have:=h2 (j+1);simpa[UA,QfH 1 j]using this) hq
  have key:∀(u v:Value),xs[f.offset]=u→ys[f.offset]=v→(isAgg f.type).run P w = .ok false w→(Op.equalIn (dp+1) f.type u v).run P w = .ok p w→(Op.eqFields (dp+1) ⟨xs⟩ ⟨ys⟩ (f::fs)).run P w = .ok (p&&q) w:=by
   intro u v hu hv hag heq
   have px:(part f.type ⟨xs⟩ f.offset).run P w = .ok u w:=by simp[part,hag,lx,hu]
   have py:(part f.type ⟨ys⟩ f.offset).run P w = .ok v w:=by simp[part,hag,ly,hv]
   simp only[Op.eqFields,ne_eq,hn,not_false_eq_true,if_true,OA,px,py,OM,heq];cases p
   ·simp
   ·simpa using hq'
  rcases uS hp with⟨k0,k,n,m',hd,rfl,rfl,rfl⟩ | ⟨x,y,hd,rfl,rfl,rfl⟩ | ⟨l,m',hd,rfl,rfl,rfl⟩
  ·have hk:=mN hT hd
   exact key (.int k n) (.int k m') (by have:=c9 vx;generalize xs[f.offset]=z at this ⊢;cases this;rfl) (by have:=c9 vy;generalize ys[f.offset]=z at this ⊢;cases this;rfl) (by simp[isAgg,run_underlying hk]) (run_equalIn_int w dp f.type k k0 n m' hk)
  ·have hk:=mN hT hd
   exact key (.bool x) (.bool y) (by have:=c9 vx;generalize xs[f.offset]=z at this ⊢;cases this;rfl) (by have:=c9 vy;generalize ys[f.offset]=z at this ⊢;cases this;rfl) (by simp[isAgg,run_underlying hk]) (run_equalIn_bool' w dp f.type x y hk)
  ·have hk:=mN hT hd
   exact key (.string ⟨⟨l⟩⟩) (.string ⟨⟨m'⟩⟩) (by have:=c9 vx;generalize xs[f.offset]=z at this ⊢;cases this;rfl) (by have:=c9 vy;generalize ys[f.offset]=z at this ⊢;cases this;rfl) (by simp[isAgg,run_underlying hk]) (by rw[run_equalIn_string w dp f.type _ _ hk];simp)
theorem BC{f:Field}{cs ds:List (MJ F)}{x:Bool}{n:Nat}(h:V3 T f cs ds=some (x,n)) :
  (∃ti gs,T f.type=some ti∧ti.desc = .struct gs∧ti.size=n∧ti.eq=true∧n≤cs.length∧n≤ds.length∧mX T gs.toList 0 (cs.take n) (ds.take n)=some x)∨
  (∃a l b r,cs=a::l∧ds=b::r∧n=1∧TY (jf T f.type) a b=some x):=by
 unfold V3 at h;split at h
 ·rename_i gs n' _ _ _ ht;split at h
  ·rename_i hc;simp only[Np,Nat.ble_eq]at hc;split at h
   ·rename_i y hy;cases h;exact .inl ⟨_,gs,ht,rfl,rfl,rfl,hc.1,hc.2,hy⟩
   ·cases h
  ·cases h
 ·rename_i ti _ ht;split at h
  ·split at h
   ·rename_i y hy;cases h;refine .inr ⟨_,_,_,_,rfl,rfl,rfl,?_⟩;unfold jf;rw[ht];exact hy
   ·cases h
  ·cases h
 ·cases h
theorem AK{f:Field}{fs:List Field}{off:Nat}{cs ds:List (MJ F)}{x:Bool}(h:oZ T (f::fs) off cs ds=some x) :
  ∃ p n q,f.name ≠ "_" ∧ f.offset = off ∧ V3 T f cs ds = some (p,n) ∧ oZ T fs (off + n) (cs.drop n) (ds.drop n) = some q ∧ x = (p && q):=by
 unfold oZ at h;split at h
 ·exact absurd (by assumption:f::fs = []) (by simp)
 ·rename_i heq;cases heq;split at h
  ·rename_i hc;simp only[Np,bne_iff_ne,beq_iff_eq]at hc;split at h
   ·rename_i p n hp;split at h
    ·rename_i hl;cases h
     refine⟨x,n,true,hc.1,hc.2,hp,?_,by simp⟩
     rw[← hl.1,ZQ,hl.1,← hl.2,ZQ];rfl
    ·cases h
   ·cases h
  ·cases h
 ·rename_i heq;cases heq;split at h
  ·rename_i hc;simp only[Np,bne_iff_ne,beq_iff_eq]at hc;split at h
   ·rename_i p n hp;split at h
    ·rename_i q hq;cases h;exact⟨p,n,q,hc.1,hc.2,hp,hq,rfl⟩
    ·cases h
   ·cases h
  ·cases h
 ·cases h
theorem yL(hT:Mc P T){cs ds:List (MJ F)}{xs ys:List Value}(hx:∀(k:Nat)(c:MJ F)(x:Value),cs[k]? = some c→xs[k]? = some x→Mh g w c x)
  (hy:∀(k:Nat)(c:MJ F)(x:Value),ds[k]? = some c→ys[k]? = some x→Mh g w c x) (hlx:xs.length=cs.length) (hly:ys.length=ds.length) (dp:Nat) :
  ∀(fs:List Field)(off:Nat)(cs' ds':List (MJ F)) (b:Bool),(∀k,cs'[k]? = cs[off+k]?)→(∀k,ds'[k]? = ds[off+k]?)→
   oZ T fs off cs' ds'=some b→(Op.eqFields (dp+2) ⟨xs⟩ ⟨ys⟩ fs).run P w = .ok b w:=by
 intro fs
 induction fs with
 | nil=>
  intro off cs' ds' b h1 h2 he;unfold oZ at he;split at he
  ·cases he;simp[Op.eqFields]
  ·rename_i heq;cases heq
  ·rename_i heq;cases heq
  ·cases he
 | cons f fs ih=>
  intro off cs' ds' b h1 h2 he;obtain⟨p,n,q,hn,rfl,hp,hq,rfl⟩:=AK he
  have hq':=ih (f.offset+n) _ _ q (λj=>by rw[SY,h1,UA]) (λj=>by rw[SY,h2,UA]) hq
  have key:∀(u v:Value),(part f.type ⟨xs⟩ f.offset).run P w = .ok u w→(part f.type ⟨ys⟩ f.offset).run P w = .ok v w→(Op.equalIn (dp+2) f.type u v).run P w = .ok p w→(Op.eqFields (dp+2) ⟨xs⟩ ⟨ys⟩ (f::fs)).run P w = .ok (p&&q) w:=by
   intro u v px py heq;simp only[Op.eqFields,ne_eq,hn,not_false_eq_true,if_true,OA,px,py,OM,heq];cases p
   ·simp
   ·simpa using hq'
  rcases BC hp with⟨ti,gs,ht,hd,rfl,he,lc,ld,hc⟩ | ⟨c0,cr,d0,dr,rfl,rfl,rfl,hp'⟩
  ·have hu:=hT.und _ _ ht;rw[hd]at hu;obtain⟨j,hj,hsz,_⟩:=hT.info _ _ ht
   have hag:(isAgg f.type).run P w = .ok true w:=by simp[isAgg,run_underlying hu]
   have hso:(Go.sizeOf f.type).run P w = .ok ti.size w:=by rw[← hsz];simp[Go.sizeOf,typeInfo,hj]
   have sub:∀{zs:List Value}{es es':List (MJ F)},(∀k,es'[k]? = es[f.offset+k]?)→zs.length=es.length→ti.size≤es'.length→(∀(k:Nat)(c:MJ F)(x:Value),es[k]? = some c→zs[k]? = some x→Mh g w c x)→
     ((zs.take (f.offset+ti.size)).drop f.offset).length=(es'.take ti.size).length∧(∀(k:Nat)(c:MJ F)(x:Value),(es'.take ti.size)[k]? = some c→((zs.take (f.offset+ti.size)).drop f.offset)[k]? = some x→Mh g w c x):=by
    intro zs es es' h hl hle hr
    have hlt:f.offset+ti.size≤es.length∨ti.size=0:=by
     rcases Nat.eq_zero_or_pos ti.size with h0 | h0
     ·exact .inr h0
     ·have:=h (ti.size - 1)
      rw[K9 (by omega)]at this
      have:=(K_.1 this.symm).1
      exact .inl (by omega)
    refine⟨by rw[Ro,Oy,Oy,hl];omega,?_⟩
    intro k c x hc hx;rw[RG]at hc;split at hc
    ·rw[SY,RG]at hx;split at hx
     ·exact hr _ _ _ (by rw[← h];exact hc) hx
     ·cases hx
    ·cases hc
   obtain⟨lx,rx⟩:=sub h1 hlx lc hx;obtain⟨ly,ry⟩:=sub h2 hly ld hy
   refine key (.agg ⟨(xs.take (f.offset+ti.size)).drop f.offset⟩) (.agg ⟨(ys.take (f.offset+ti.size)).drop f.offset⟩) (by simp[part,hag,hso,List.take_drop]) (by simp[part,hag,hso,List.take_drop]) ?_
   have hfs:P.fieldsOf f.type=gs:=by simp only[Program.fieldsOf];rw[hu]
   rw[run_equalIn_struct w (dp+1) f.type _ _ (by rw[hfs];exact hu) (hT.eq _ _ ht he).a,hfs]
   exact sS hT rx ry lx ly dp gs.toList 0 _ _ p (by simp) (by simp) hc
  ·have ec:=h1 0;have ed:=h2 0;simp only[PW,Vm]at ec ed
   have lx:f.offset<xs.length:=by rw[hlx];exact(K_.1 ec.symm).1
   have ly:f.offset<ys.length:=by rw[hly];exact(K_.1 ed.symm).1
   have vx:=hx _ _ _ ec.symm (K9 lx);have vy:=hy _ _ _ ed.symm (K9 ly)
   have key':∀(u v:Value),xs[f.offset]=u→ys[f.offset]=v→(isAgg f.type).run P w = .ok false w→(Op.equalIn (dp+2) f.type u v).run P w = .ok p w→(Op.eqFields (dp+2) ⟨xs⟩ ⟨ys⟩ (f::fs)).run P w = .ok (p&&q) w:=by
    intro u v hu hv hag heq
    exact key u v (by simp[part,hag,lx,hu]) (by simp[part,hag,ly,hv]) heq
   clear hp;rcases uS hp' with⟨k0,k,n,m',hd,rfl,rfl,rfl⟩ | ⟨x,y,hd,rfl,rfl,rfl⟩ | ⟨l,m',hd,rfl,rfl,rfl⟩
   ·have hk:=mN hT hd
    exact key' (.int k n) (.int k m') (by have:=c9 vx;generalize xs[f.offset]=z at this ⊢;cases this;rfl) (by have:=c9 vy;generalize ys[f.offset]=z at this ⊢;cases this;rfl) (by simp[isAgg,run_underlying hk]) (run_equalIn_int w (dp+1) f.type k k0 n m' hk)
   ·have hk:=mN hT hd
    exact key' (.bool x) (.bool y) (by have:=c9 vx;generalize xs[f.offset]=z at this ⊢;cases this;rfl) (by have:=c9 vy;generalize ys[f.offset]=z at this ⊢;cases this;rfl) (by simp[isAgg,run_underlying hk]) (run_equalIn_bool' w (dp+1) f.type x y hk)
   ·have hk:=mN hT hd
    exact key' (.string ⟨⟨l⟩⟩) (.string ⟨⟨m'⟩⟩) (by have:=c9 vx;generalize xs[f.offset]=z at this ⊢;cases this;rfl) (by have:=c9 vy;generalize ys[f.offset]=z at this ⊢;cases this;rfl) (by simp[isAgg,run_underlying hk]) (by rw[run_equalIn_string w (dp+1) f.type _ _ hk];simp)
theorem sO(hT:Mc P T){cs ds:List (MJ F)}{xs ys:List Value}{t:TypeId}{fs:Array Field}{i:TI F}(ht:T t=some i)(hi:i.desc = .struct fs)(he:aaB P t){b:Bool}(hb:Xo T fs.toList cs ds=some b)
  (hx:xs.length=cs.length∧∀(k:Nat)(c:MJ F)(x:Value),cs[k]? = some c→xs[k]? = some x→Mh g w c x)
  (hy:ys.length=ds.length∧∀(k:Nat)(c:MJ F)(x:Value),ds[k]? = some c→ys[k]? = some x→Mh g w c x) :
  (Op.equalIn 10000 t (.agg ⟨xs⟩) (.agg ⟨ys⟩)).run P w = .ok b w:=by
 have hu:=hT.und _ _ ht;rw[hi]at hu
 have hfs:P.fieldsOf t=fs:=by simp only[Program.fieldsOf];rw[hu]
 rw[run_equalIn_struct w 9999 t ⟨xs⟩ ⟨ys⟩ (by rw[hfs];exact hu) he.a,hfs]
 unfold Xo at hb;split at hb
 ·rename_i b' hb';cases hb
  exact sS hT hx.2 hy.2 hx.1 hy.1 9998 fs.toList 0 cs ds b (by simp) (by simp) hb'
 ·exact yL hT hx.2 hy.2 hx.1 hy.1 9997 fs.toList 0 cs ds b (by simp) (by simp) hb
theorem y_(d:Nat){t e:TypeId}(a:Addr)(l c:Nat)(w:World)(h:P.underlying t=some (.slice e)):(Op.equalIn (d+1) t (.slice (some a) l c) (.slice none 0 0)).run P w = .ok false w:=by simp[Op.equalIn,run_underlying h]
theorem Gc(hT:Mc P T){op:BinOp}{xT yT:TypeId}{x y:Operand}(ho:o.op = .binOp op xT x y yT):Rule P o vals mm c K (acQ T vals K op xT y):=by
 unfold acQ;split
 ·rename_i k n k' m'
  have sh:∀(d:ND F)(v:Value),(0≤m'→∀w:World,(do eqGuard op xT x y (.int k n) (.int k' m');binOp op xT (.int k n) (.int k' m'):Sem Value).run P w = .ok v w)→(∀(w:World)(g:G),Ma (F:=F) P g w (.c (.im d)) v)→
    (0≤m'∨Xd y=true)→Rule P o [.c (.im (.i k n)),.c (.im (.i k' m'))] mm c K (K { val:=.c (.im d) }):=by
   intro d v hrun hrep hm;refine av ?_;intro own g w a m _ _ hr;rw[ho]at hr;simp only[Op.operands,M9,Oi]at hr;obtain⟨h1,h2⟩:=M5 hr;have e2:=cv h2
   have hm':0≤m':=by
    rcases hm with hm | hm
    ·exact hm
    ·unfold Xd at hm;split at hm
     ·simp only[Act.eval,Value.int.injEq]at e2;rw[← e2.2];simpa using hm
     ·cases hm
   refine⟨v,?_,hrep w g⟩;have:=hrun hm' w;simp only[execOp,ho,cv h1,e2];rw[OA,this];rfl
  split
  ·refine aA (λhl=>sh _ _ (λhm w=>?_) (λ_ _=>OD _ _) (.inr hl)) (λ_=>aE λu hu=>sh _ _ (λhm w=>?_) (λ_ _=>OD _ _) (.inl (II hu)))
   all_goals (have hm:¬ m'<0:=by omega);simp[binOp,Op.shift,hm,eqGuard_shl]
  ·refine aA (λhl=>sh _ _ (λhm w=>?_) (λ_ _=>OD _ _) (.inr hl)) (λ_=>aE λu hu=>sh _ _ (λhm w=>?_) (λ_ _=>OD _ _) (.inl (II hu)))
   all_goals (have hm:¬ m'<0:=by omega);simp[binOp,Op.shift,hm,eqGuard_shr]
  ·refine aA (λhk=>?_) (λ_=>af);subst hk;exact Bs ho rfl
 ·exact Bn ho rfl
 ·rename_i p q;split
  ·rename_i ht;have hu:=hT.und _ _ ht;refine av ?_;intro own g w a m _ _ hr;rw[ho]at hr;simp only[Op.operands,M9,Oi]at hr;obtain⟨h1,h2⟩:=M5 hr
   exact⟨_,by simp[execOp,ho,pX h1,pX h2,eqGuard_at_bool,binOp,Op.equal,Op.maxDepth,run_equalIn_bool' w 9999 xT p q hu],VD _⟩
  ·rename_i ht;have hu:=hT.und _ _ ht;refine av ?_;intro own g w a m _ _ hr;rw[ho]at hr;simp only[Op.operands,M9,Oi]at hr;obtain⟨h1,h2⟩:=M5 hr
   exact⟨_,by simp[execOp,ho,pX h1,pX h2,eqGuard_at_bool,binOp,Op.equal,Op.maxDepth,run_equalIn_bool' w 9999 xT p q hu],VD _⟩
  ·exact af
 ·rename_i cs ds;split
  ·rename_i ht;split
   ·rename_i b hb;refine av ?_;intro own g w a m _ _ hr;rw[ho]at hr;simp only[Op.operands,M9,Oi]at hr;obtain⟨h1,h2⟩:=M5 hr;obtain⟨xs,ex,hxs⟩:=oI h1;obtain⟨ys,ey,hys⟩:=oI h2;have he:aaB P xT:=hT.eq _ _ ht rfl;have hr:=sO hT ht rfl he hb hxs hys
    exact⟨_,by simp only[execOp,ho,ex,ey,OA,run_eqGuard_agg w .eql xT x y ⟨xs⟩ ⟨ys⟩ he.b,OM,run_eql_struct,hr,PD],VD _⟩
   ·exact af
  ·rename_i ht;split
   ·rename_i b hb;refine av ?_;intro own g w a m _ _ hr;rw[ho]at hr;simp only[Op.operands,M9,Oi]at hr;obtain⟨h1,h2⟩:=M5 hr;obtain⟨xs,ex,hxs⟩:=oI h1;obtain⟨ys,ey,hys⟩:=oI h2;have he:aaB P xT:=hT.eq _ _ ht rfl;have hr:=sO hT ht rfl he hb hxs hys
    exact⟨_,by simp only[execOp,ho,ex,ey,OA,run_eqGuard_agg w .neq xT x y ⟨xs⟩ ⟨ys⟩ he.b,OM,run_neq_struct,hr,PD],VD _⟩
   ·exact af
  ·exact af
 ·rename_i t l
  have nil:∀{op:BinOp}{e:TypeId}{s n bs z eq}(b:Bool),T xT=some ⟨.slice e,s,n,bs,z,eq⟩→(∀w:World,∀(a:Addr)(m c:Nat),l≠[]→(do eqGuard op xT x (.const (.slice none 0 0)) (.slice (some a) m c) (.slice none 0 0);binOp op xT (.slice (some a) m c) (.slice none 0 0):Sem Value).run P w = .ok (.bool b) w)→
    o.op = .binOp op xT x (.const (.slice none 0 0)) yT→Rule P o [.c (.im (.sl t l)),.c (.im .nl)] mm c K (cond l.isEmpty none (kB K b)):=by
   intro op e s n bs z eq b ht hrun ho
   cases hl:l.isEmpty with
   | true=>exact af
   | false=>
    have hne:l≠[]:=by rintro rfl;cases hl
    refine av ?_;intro own g w a m _ _ hr;rw[ho]at hr;simp only[Op.operands,M9,Oi]at hr;obtain⟨h1,h2⟩:=M5 hr;have h1':=bh h1;generalize hv:a.eval x=v at h1'
    cases h1' with
    | im h1'=>
     cases h1' with
     | sl0=>exact absurd rfl hne
     | sl _ _ b' o' cap f hb hcap hm hc hr'=>
      refine⟨.bool b,?_,VD _⟩;have:=hrun w ⟨b',o',none⟩ l.length cap hne;simp only[execOp,ho,hv];rw[OA]
      show(Result.andThen ((do eqGuard op xT x (.const (.slice none 0 0)) (.slice (some ⟨b',o',none⟩) l.length cap) (.slice none 0 0);binOp op xT (.slice (some ⟨b',o',none⟩) l.length cap) (.slice none 0 0):Sem Value).run P w) _)=_
      rw[this];rfl
  split
  ·rename_i e s n bs z eq ht;have hu:=hT.und _ _ ht
   exact nil _ ht (λw a m c _=>by simp[eqGuard_at_slice,binOp,show(Op.equal xT (.slice (some a) m c) (.slice none 0 0)).run P w = .ok false w from y_ 9999 a m c w hu]) ho
  ·rename_i e s n bs z eq ht;have hu:=hT.und _ _ ht
   exact nil _ ht (λw a m c _=>by simp[eqGuard_at_slice,binOp,show(Op.equal xT (.slice (some a) m c) (.slice none 0 0)).run P w = .ok false w from y_ 9999 a m c w hu]) ho
  ·exact af
 ·exact af
end
set_option linter.unusedVariables false
set_option linter.unusedSimpArgs false
section
variable{F:Fam}{P:Program}{T:TypeId→Option (TI F)}{o:Oper}{vals:List (Dat F)}{mm:Nat→Option (Mg F)}{c:Nat}{R:Type}{K:SS F→Option R}{own:Ow}{g:G}{w:World}{m:Nat→Option (Mg F)}
theorem b_(hT:Mc P T){t:TypeId}{ti:TI F}(h:T t=some ti)(w:World):(sizeOf t).run P w = .ok ti.size w:=by obtain⟨j,hj,hs,_⟩:=hT.info t ti h;simp[sizeOf,typeInfo,hj,hs]
theorem pW(hT:Mc P T){t:TypeId}{ti:TI F}(h:T t=some ti)(w:World):(isAgg t).run P w = .ok (fM ti.desc) w:=by
 simp only[isAgg,OA,run_underlying (hT.und t ti h),OM]
 cases ti.desc<;>rfl
theorem DJ(hT:Mc P T){s:TypeId}{x:Operand}{fi:Nat}(ho:o.op = .fieldAddr s x fi):Rule P o vals mm c K (zo T vals K s fi):=by
 unfold zo;split
 ·rename_i hs;split
  ·exact af
  ·rename_i Yt adl;split
   ·exact af
   ·rename_i ti hti;refine aA (λ_=>af) (λhz=>?_)
    have key:∀(w:World)(a:Act)(b q:Nat),a.eval x = .pointer (some ⟨b,q,none⟩)→(execOp a.eval o).run P w = .ok (.value (.pointer (some ⟨b,q+Yt.offset,none⟩))) w:=by intro w a b q e;have hu:=run_underlying (hT.und _ _ hs) w;have hsz:=b_ hT hti w;simp[execOp,ho,e,Instr.fieldAt,hu,adl,Instr.sureAddr,fieldPlace,hsz,hz,Addr.add_lit]
    split
    ·refine av ?_;intro own g w a m _ _ hr;rw[ho]at hr;obtain⟨b,c,hi,e⟩:=bW (Nw hr);exact⟨_,key w a _ _ e,.c (.ptr hi)⟩
    ·refine av ?_;intro own g w a m _ _ hr;rw[ho]at hr;obtain⟨b,c,hi,e⟩:=ja (Nw hr);refine⟨_,key w a _ _ e,?_⟩;rw[UA];exact .c (.OV hi)
    ·refine av ?_;intro own g w a m _ _ hr;rw[ho]at hr;obtain⟨b,q,fn,hb,e,hc,hr⟩:=rz (Nw hr);refine⟨_,key w a _ _ e,?_⟩;rw[UA];exact .c (.pt _ _ b q fn hb hc hr)
    ·refine av ?_;intro own g w a m _ _ hr;rw[ho]at hr;obtain⟨b,c,n,b',c',hi,hk,e⟩:=CD (Nw hr);refine⟨_,key w a _ _ e,?_⟩;rw[UA];exact .c (.Ud hi hk)
    ·exact af
 ·exact af
theorem BD(hT:Mc P T){t:TypeId}{ti:TI F}(ht:T t=some ti){cs:List (MJ F)}{vs:List Value}{off:Nat}{d:Dat F}(h:fS ti cs off=some d)
  (hl:vs.length=cs.length) (hr:∀(k:Nat)(c:MJ F)(x:Value),cs[k]? = some c→vs[k]? = some x→Mh g w c x) :
  ∃v,(part t ⟨vs⟩ off).run P w = .ok v w∧Ma P g w d v:=by
 unfold fS at h;have ha:=pW hT ht w;have hs:=b_ hT ht w;split at h
 ·rename_i hag;split at h
  ·cases h;refine⟨.agg ⟨(vs.drop off).take ti.size⟩,?_,?_⟩
   ·simp only[part,OA,ha,OM,hag,if_true,hs,PD]
    congr 2
    apply Array.ext';simp[List.extract_eq_take_drop]
   ·refine .agg (by simp[hl]) ?_
    intro k c x h1 h2;rw[RG]at h1 h2;split at h1
    ·rename_i hk;rw[if_pos hk]at h2;rw[SY]at h1 h2;exact hr _ _ _ h1 h2
    ·cases h1
  ·cases h
 ·rename_i hag;split at h
  ·rename_i c hc;cases h
   have hlt:off<vs.length:=by rw[hl];exact(K_.1 hc).1
   refine⟨vs[off],?_,.c (hr off c _ hc (K9 hlt))⟩
   have hag':fM ti.desc=false:=by simpa using hag
   simp only[part,OA,ha,OM,hag',RZ,if_false]
   have:(⟨vs⟩:Array Value)[off]? = some vs[off]:=by simp[hlt]
   rw[this];rfl
  ·cases h
theorem nC{od:Option (Dat F)}(h:∀d,od=some d→U0 P o vals mm d):Rule P o vals mm c K (pK od K):=by
 cases od with
 | some d=>exact av (h d rfl)
 | none=>exact af
theorem D9(hT:Mc P T){s:TypeId}{x:Operand}{fi:Nat}(ho:o.op = .field s x fi):Rule P o vals mm c K (YZ T vals K s fi):=by
 unfold YZ;split
 ·rename_i hs;split
  ·exact af
  ·rename_i Yt adl;split
   ·exact af
   ·rename_i ti hti;refine aA (λ_=>nC λd hd=>?_) (λ_=>af);intro own g w a m _ _ hr;rw[ho]at hr;obtain⟨vs,e,hl,hr⟩:=oI (Nw hr);obtain⟨v,hrun,hv⟩:=BD (P:=P) hT hti hd hl hr
    exact⟨v,by simp only[execOp,ho,OA,Instr.field,run_underlying (hT.und _ _ hs),OM,adl,e,asAgg,PD,hrun],hv⟩
 ·exact af
theorem eo(hT:Mc P T){t:TypeId}{ti:TI F}(ht:T t=some ti){cs:List (MJ F)}{off b q:Nat}{d:Dat F}(h:fS ti cs off=some d)
  (hc:∀k c,cs[k]? = some c→∃x,w.cell? ⟨b,q+k,none⟩=some x∧Mh g w c x) :
  ∃v,(loadVar t ⟨b,q+off,none⟩).run P w = .ok v w∧Ma P g w d v:=by
 unfold fS at h;have ha:=pW hT ht w;have hs:=b_ hT ht w;split at h
 ·rename_i hag;split at h
  ·rename_i hle;have hle:=U4 hle;cases h
   have hrun:=run_loadCells (P:=P) w ⟨b,q+off,none⟩ ti.size (λj=>(w.cell? ⟨b,q+off+j,none⟩).getD undef) (by
    intro j hj;rw[Addr.add_lit]
    have hlt:off+j<cs.length:=by omega
    obtain⟨x,hx,_⟩:=hc (off+j) _ (K9 hlt);rw[← UA]at hx;rw[hx];rfl)
   refine⟨.agg ⟨(List.range ti.size).map (λj=>(w.cell? ⟨b,q+off+j,none⟩).getD undef)⟩,by simp only[loadVar,OA,ha,OM,hag,if_true,hs,hrun,PD],?_⟩
   refine .agg (by simp;omega) ?_
   intro k c x h1 h2;rw[RG]at h1;split at h1
   ·rename_i hk;rw[SY]at h1;obtain⟨y,hy,hr⟩:=hc (off+k) c h1;rw[← UA]at hy;simp only[Rf,QgJ hk,Xy,NJ]at h2;rw[hy]at h2;simp only[Ws]at h2;subst h2;exact hr
   ·cases h1
  ·cases h
 ·rename_i hag;split at h
  ·rename_i c hcc;cases h;obtain⟨x,hx,hr⟩:=hc off c hcc
   have hag':fM ti.desc=false:=by simpa using hag
   refine⟨x,?_,.c hr⟩;simp only[loadVar,OA,ha,OM,hag',RZ,if_false,run_load,hx]
  ·cases h
theorem yX{α : Type}{sz:Nat}:∀{es:List (List α)} (_:∀e∈es,e.length=sz) {i k:Nat} {e:List α} {d:α} (_:es[i]? = some e) (_:e[k]? = some d),es.flatten[i*sz+k]? = some d
 | [],_,i,k,e,d,h1,_=>by simp at h1
 | x::es,hsz,0,k,e,d,h1,h2=>by simp only[PW,NJ]at h1;subst h1;simp only[YB,Nat.zero_mul,OW];rw[Rv (K_.1 h2).1];exact h2
 | x::es,hsz,i+1,k,e,d,h1,h2=>by
  simp only[QdK]at h1
  have hx:x.length=sz:=hsz x (by simp)
  have ih:=yX (es:=es) (λe he=>hsz e (by simp[he])) h1 h2
  simp only[YB]
  rw[RF (by rw[hx,TF];omega),hx]
  rw[show(i+1)*sz+k - sz=i*sz+k by rw[TF];omega]
  exact ih
theorem lp{α : Type}{sz:Nat}:∀{es:List (List α)} (_:∀e∈es,e.length=sz),es.flatten.length=es.length*sz
 | [],_=>by simp
 | x::es,h=>by
  have hx:x.length=sz:=h x (by simp)
  have ih:=lp (es:=es) (λe he=>h e (by simp[he]))
  simp only[YB,La,PN,ih,hx,TF];omega
theorem qr{t:Ty}{l:List (ET F t)}:∀e∈l.map (LZ F t),e.length=LY F t:=by intro e he;rw[Ra]at he;obtain⟨x,_,rfl⟩:=he;exact bo F t x
theorem aH{t:Ty}{l:List (ET F t)}:(cells F t l).length=l.length*LY F t:=by unfold cells;rw[lp qr,Py]
theorem a_{t:Ty}{l:List (ET F t)}{i k:Nat}{x:ET F t}{d:ND F}(h:l[i]? = some x)(hk:(LZ F t x)[k]? = some d):(cells F t l)[i*LY F t+k]? = some d:=
 yX qr (by rw[Rf,h];rfl) hk
theorem yA(hm:LQ own g w m){id:Nat}{cs:List (MJ F)}(h:m id=some (.box cs)){b:Nat}{c:Nat×Nat×NS}(hi:g.ids id=some (some (b,c))) :
  ∀k c,cs[k]? = some c→∃x,w.cell? ⟨b,0+k,none⟩=some x∧Mh g w c x:=by
 obtain⟨b',c',arr,t,h1,h2,h3,h4⟩:=hm.ok id _ h;rw[h1]at hi;cases hi;intro k c hk
 have hlt:k<arr.length:=by rw[h3];exact(K_.1 hk).1
 refine⟨arr[k],?_,h4 k c _ hk (K9 hlt)⟩;simp[World.cell?,h2,hlt]
theorem cV(hm:LQ own g w m){id:Nat}{t:Ty}{l:List (ET F t)}(h:m id=some (.row t l)){b c:Nat}{n:Nat×NS}(hi:g.ids id=some (some (b,c,n))) :
  n=(l.length,[])∧l.length≤c∧∀k d,(cells F t l)[k]? = some d→∃x,w.cell? ⟨b,k,none⟩=some x∧L_ w g.Li d x:=by
 rcases hm.ok id _ h with⟨h1,_⟩ | ⟨b',cap,cur,e,h1,h2,h3,h4,h5,h6⟩
 ·rw[h1]at hi;cases hi
 ·rw[h1]at hi;cases hi;refine⟨rfl,h3,?_⟩;intro k d hk
  have hlt:k<cur.length:=by have h7:k<(cells F t l).length:=(K_.1 hk).1;rw[aH]at h7;have:l.length*LY F t≤c*LY F t:=Rp _ h3;omega
  refine⟨cur[k],?_,h6 k d _ hk (K9 hlt)⟩;simp[World.cell?,h2,hlt]
theorem pF(hm:LQ own g w m){id:Nat}{t:Ty}{l:List (ET F t)}(h:m id=some (.Tc t l)){b c:Nat}{n:Nat×NS}(hi:g.ids id=some (some (b,c,n))) :
  ∃ns,n=(l.length,ns)∧l.length≤c∧c≤maxLen∧g.Li b∧∀k d,(cells F t l)[k]? = some d→∃x,w.cell? ⟨b,k,none⟩=some x∧L_ w g.Li d x:=by
 rcases hm.ok id _ h with⟨h1,_⟩ | ⟨b',cap,ns,h1,hn,h2,h3,h4,h5⟩
 ·rw[h1]at hi;cases hi
 ·rw[h1]at hi;cases hi;exact⟨_,rfl,h3,h4,h2,h5⟩
theorem kg(hm:LQ own g w m){id:Nat}{t:Ty}{l:List (ET F t)}(h:m id=some (.Nc t l)){b c:Nat}{n:Nat×NS}(hi:g.ids id=some (some (b,c,n))) :
  n.1=l.length∧l.length≤c∧c≤maxLen∧∀k d,(cells F t l)[k]? = some d→∃x pl,w.cell? ⟨b,k,none⟩=some x∧n.2[k]? = some pl∧Ov w g.Li d x pl:=by
 obtain⟨pl,h1,h2⟩:=hm.ok id _ h;rw[h1]at hi;cases hi;obtain⟨q1,q2,q3,q4,q5,cur,e,q6,q7,q8⟩:=h2;refine⟨q1,q2,q3,?_⟩;intro k d hk;have h7:k<(cells F t l).length:=(K_.1 hk).1
 have hlt:k<cur.length:=by have h8:=h7;rw[aH]at h8;have:l.length*LY F t≤c*LY F t:=Rp _ q2;omega
 refine⟨cur[k],n.2[k],?_,K9 (by omega),q8 k d _ _ hk (K9 hlt) (K9 (by omega))⟩
 simp[World.cell?,q6,hlt]
theorem j6{cs:List (ND F)}{k:Nat}{c:MJ F}(h:(cs.map MJ.im)[k]? = some c):∃d,cs[k]? = some d∧c = .im d:=by rw[Rf,Wi]at h;obtain⟨d,hd,rfl⟩:=h;exact⟨d,hd,rfl⟩
theorem Fh(hT:Mc P T){t:TypeId}{x:Operand}(ho:o.op = .load t x):Rule P o vals mm c K (Y0 T vals mm K t):=by
 unfold Y0
 have key:∀{w:World}{a:Act}{b q:Nat}{v:Value},a.eval x = .pointer (some ⟨b,q,none⟩)→(loadVar t ⟨b,q,none⟩).run P w = .ok v w→(execOp a.eval o).run P w = .ok (.value v) w:=by intro w a b q v e hr;simp[execOp,ho,e,Instr.loadAt,Instr.sureAddr,hr]
 split
 ·exact af
 ·rename_i ti hti;split
  ·refine nC λd hd=>?_;intro own g w a m _ _ hr;rw[ho]at hr;obtain⟨b,q,fn,hb,e,hc,hr⟩:=rz (Nw hr)
   obtain⟨v,hrun,hrep⟩:=eo (P:=P) (g:=g) (w:=w) hT hti hd (b:=b) (q:=q) (by intro k c hk;obtain⟨d',hd',rfl⟩:=j6 hk;exact⟨fn k,hc k d' hd',.im (hr k d' hd')⟩)
   exact⟨v,key e hrun,hrep⟩
  ·rename_i cs;refine aA (λ_=>af) (λhag=>av ?_);intro own g w a m _ _ hr;rw[ho]at hr;obtain⟨b,q,b2,q2,fn,hb,hv,hb2,e,hc,hr⟩:=Je (Nw hr)
   have hd:fS ti [MJ.pt cs 0] 0=some (.c (.pt cs 0)):=by simp[fS,hag]
   obtain⟨v,hrun,hrep⟩:=eo (P:=P) (g:=g) (w:=w) hT hti hd (b:=b) (q:=q) (by
    intro k c hk
    cases k with
    | zero=>simp only[PW,NJ]at hk;subst hk;exact⟨_,hv,.pt cs 0 b2 q2 fn hb2 hc hr⟩
    | succ k=>simp at hk)
   exact⟨v,key e hrun,hrep⟩
  ·split
   ·rename_i Pj;refine nC λd hd=>?_;intro own g w a m hle hm hr;rw[ho]at hr;obtain⟨b,c,hi,e⟩:=bW (Nw hr);obtain⟨v,hrun,hrep⟩:=eo (P:=P) (g:=g) (w:=w) hT hti hd (b:=b) (q:=0) (yA hm (hle _ _ Pj) hi);rw[OW]at hrun;exact⟨v,key e hrun,hrep⟩
   ·rename_i Pj;refine nC λd hd=>?_;intro own g w a m hle hm hr;rw[ho]at hr;obtain⟨b,c,hi,e⟩:=bW (Nw hr);obtain⟨b',c',h1,h2,h3⟩:=hm.ok _ _ (hle _ _ Pj);rw[h1]at hi;cases hi
    obtain⟨v,hrun,hrep⟩:=eo (P:=P) (g:=g) (w:=w) hT hti hd (b:=b) (q:=0) (by
     intro k c hk;obtain⟨d',hd',rfl⟩:=j6 hk;obtain⟨y,k1,k2⟩:=h3 k d' hd'
     exact⟨y,by rw[OW];exact k1,.im k2⟩)
    rw[OW]at hrun;exact⟨v,key e hrun,hrep⟩
   ·exact af
  ·rename_i id sz i off;split
   ·rename_i t' l hrow;refine aA (λhsz=>aE λx hx=>nC λd hd=>?_) (λ_=>af);subst hsz;intro own g w a m hle hm hr;rw[ho]at hr;obtain⟨b,c,hi,e⟩:=ja (Nw hr);obtain⟨_,_,hcell⟩:=cV hm (hle _ _ hrow) (c:=c.1) (n:=c.2) hi
    obtain⟨v,hrun,hrep⟩:=eo (P:=P) (g:=g) (w:=w) hT hti hd (b:=b) (q:=i*LY F t') (by intro k c hk;obtain⟨d',hd',rfl⟩:=j6 hk;obtain⟨y,hy,hr⟩:=hcell _ _ (a_ hx hd');exact⟨y,hy,.im hr⟩)
    exact⟨v,key e hrun,hrep⟩
   ·rename_i t' l hrow;refine aA (λhsz=>aE λx hx=>nC λd hd=>?_) (λ_=>af);subst hsz;intro own g w a m hle hm hr;rw[ho]at hr;obtain⟨b,c,hi,e⟩:=ja (Nw hr);obtain⟨_,_,_,_,_,hcell⟩:=pF hm (hle _ _ hrow) (c:=c.1) (n:=c.2) hi
    obtain⟨v,hrun,hrep⟩:=eo (P:=P) (g:=g) (w:=w) hT hti hd (b:=b) (q:=i*LY F t') (by intro k c hk;obtain⟨d',hd',rfl⟩:=j6 hk;obtain⟨y,hy,hr⟩:=hcell _ _ (a_ hx hd');exact⟨y,hy,.im hr⟩)
    exact⟨v,key e hrun,hrep⟩
   ·rename_i t' l hrow;refine aA (λhsz=>aE λx hx=>?_) (λ_=>af);simp only[Np,decide_eq_true_eq,U3]at hsz;obtain⟨rfl,hag⟩:=hsz
    have one:∀{w:World}{b q:Nat}{v:Value},w.cell? ⟨b,q,none⟩=some v→(loadVar t ⟨b,q,none⟩).run P w = .ok v w:=by intro w b q v h;simp only[loadVar,OA,pW hT hti,OM,hag,RZ,if_false,run_load,h]
    split
    ·rename_i t2 l2 hd;refine av ?_;intro own g w a m hle hm hr;rw[ho]at hr;obtain⟨b,c,hi,e⟩:=ja (Nw hr);obtain⟨_,_,_,hcell⟩:=kg hm (hle _ _ hrow) (c:=c.1) (n:=c.2) hi;obtain⟨y,pl,k1,k2,k3⟩:=hcell _ _ (a_ hx hd);exact⟨y,key e (one k1),.c (.Tv hi k2 k3.2)⟩
    ·rename_i d hns hd;refine aA (λhf=>av ?_) (λ_=>af);intro own g w a m hle hm hr;rw[ho]at hr;obtain⟨b,c,hi,e⟩:=ja (Nw hr);obtain⟨_,_,_,hcell⟩:=kg hm (hle _ _ hrow) (c:=c.1) (n:=c.2) hi;obtain⟨y,pl,k1,k2,k3⟩:=hcell _ _ (a_ hx hd);refine⟨y,key e (one k1),.c (.im ?_)⟩
     cases d with
     | sl t2 l2=>exact absurd rfl (hns t2 l2)
     | _=>exact k3.2.2
    ·exact af
   ·exact af
  ·exact af
end
set_option linter.unusedVariables false
set_option linter.unusedSimpArgs false
section
variable{F:Fam}{P:Program}{T:TypeId→Option (TI F)}{o:Oper}{vals:List (Dat F)}{mm:Nat→Option (Mg F)}{c:Nat}{R:Type}{K:SS F→Option R}{own:Ow}{g:G}{w:World}{m:Nat→Option (Mg F)}
theorem DY{α : Type}{l:List α}{i:Int}{x:α}(h:idx l i=some x):0≤i∧l[i.toNat]? = some x:=by
 unfold idx at h;split at h
 ·exact⟨by assumption,h⟩
 ·cases h
theorem ot{i:Int}{n k:Nat}(h:MZ i n=some k):0≤i∧i.toNat<n∧k=i.toNat:=by
 unfold MZ at h;split at h
 ·rename_i hc;cases h;exact⟨hc.1,hc.2,rfl⟩
 ·cases h
theorem FJ{a b:Int}{n:Nat}{p:Nat×Nat}(h:OQ a b n=some p):0≤a∧a≤b∧b≤n∧p=(a.toNat,b.toNat - a.toNat):=by
 unfold OQ at h;split at h
 ·rename_i hc;cases h;exact⟨hc.1,hc.2.1,hc.2.2,rfl⟩
 ·cases h
theorem vR{α : Type}{l r:List α}{a b:Int}(h:slc l a b=some r):0≤a∧a≤b∧b≤l.length∧r=(l.take b.toNat).drop a.toNat:=by
 unfold slc at h;split at h
 ·rename_i hc;cases h;exact⟨hc.1,hc.2.1,hc.2.2,rfl⟩
 ·cases h
theorem bu{id:Nat}{v:Value}(h:Mh (F:=F) g w (.Nn id) v):(g.ids id=some none∧∃p,v = .slice p 0 0)∨
  ∃(b c:Nat)(n:Nat×NS),g.ids id=some (some (b,c,n))∧n.1≤c∧c≤maxLen∧v = .slice (some ⟨b,0,none⟩) n.1 c:=by
 cases h with
 | PG p h=>exact .inl ⟨h,p,rfl⟩
 | Nn h h1 h2=>exact .inr ⟨_,_,_,h,h1,h2,rfl⟩
theorem oT{id sz off n:Nat}{v:Value}(h:Mh (F:=F) g w (.RD id sz off n) v):(g.ids id=some none∧off=0∧n=0∧∃p,v = .slice p 0 0)∨
  ∃(b c:Nat)(len:Nat×NS)(o:Nat),g.ids id=some (some (b,c,len))∧off+n≤len.1∧len.1≤c∧((off=c∧0<c)∨o=off*sz)∧c≤maxLen∧v = .slice (some ⟨b,o,none⟩) n (c - off):=by
 cases h with
 | Tq p h=>exact .inl ⟨h,rfl,rfl,p,rfl⟩
 | RD h h1 h2 h3 h4=>exact .inr ⟨_,_,_,_,h,h1,h2,h3,h4,rfl⟩
theorem HH{n k:Nat}{y:Operand}(h:TW n y=some k):k<n∧∃kd,y = .const (.int kd (k:Int)):=by
 unfold TW at h;split at h
 ·split at h
  ·rename_i kd k' hk;cases h;simp only[R7]at hk;exact⟨hk,kd,rfl⟩
  ·cases h
 ·cases h
theorem vQ{t':Ty}{l:List (ET F t')}{n:Int}{x:ET F t'}{v:Value}(hx:idx l n=some x)(hv:L_ w g.Li (.sl t' l) v) :
  ∃b q len cap,v = .slice (some ⟨b,q,none⟩) len cap∧0≤n∧n<len∧Mh g w (.pt (LZ F t' x) 0) (.pointer (some ⟨b,q+n.toNat*LY F t'+0,none⟩)):=by
 obtain⟨h0,h1⟩:=DY hx;have hlt:n.toNat<l.length:=(K_.1 h1).1;rcases tg hv with⟨rfl,_⟩ | ⟨b,q,cap,fn,hb,hcap,hmx,e1,hc,hr⟩
 ·simp at hlt
 ·refine⟨b,q,l.length,cap,e1,h0,by omega,.pt _ 0 b (q+n.toNat*LY F t') (λk=>fn (n.toNat*LY F t'+k)) hb ?_ ?_⟩
  ·intro k d hk;rw[UA];exact hc _ d (a_ h1 hk)
  ·intro k d hk;exact hr _ d (a_ h1 hk)
theorem mu{t:Ty}{l:List (ET F t)}{a n:Nat}:cells F t (sub l a n)=((cells F t l).drop (a*LY F t)).take (n*LY F t):=by
 unfold cells sub
 have Yg:∀{es:List (List (ND F))} (_:∀e∈es,e.length=LY F t) (n:Nat),(es.drop n).flatten=es.flatten.drop (n*LY F t):=by
  intro es
  induction es with
  | nil=>intro _ n;simp
  | cons x es ih=>
   intro h n
   cases n with
   | zero=>simp
   | succ n=>
    have hx:x.length=LY F t:=h x (by simp)
    have e1:x.drop (n*LY F t+LY F t) = []:=List.drop_of_length_le (by omega)
    rw[List.drop_succ_cons,ih (λe he=>h e (by simp[he])) n,YB,TF,List.drop_append,hx,e1]
    simp
 have Yf:∀{es:List (List (ND F))} (_:∀e∈es,e.length=LY F t) (n:Nat),(es.take n).flatten=es.flatten.take (n*LY F t):=by
  intro es
  induction es with
  | nil=>intro _ n;simp
  | cons x es ih=>
   intro h n
   cases n with
   | zero=>simp
   | succ n=>
    have hx:x.length=LY F t:=h x (by simp)
    have e1:x.take (n*LY F t+LY F t)=x:=Wv (by omega)
    rw[List.take_succ_cons,YB,ih (λe he=>h e (by simp[he])) n,YB,TF,List.take_append,hx,e1]
    simp
 rw[List.map_take,List.map_drop,Yf (λe he=>qr e (QgC he)),Yg qr]
theorem lK{t:Ty}{l:List (ET F t)}{a n k:Nat}{d:ND F}(h:(cells F t (sub l a n))[k]? = some d):(cells F t l)[a*LY F t+k]? = some d:=by
 rw[mu,RG]at h;split at h
 ·rwa [SY]at h
 ·cases h
theorem qW(hm:LQ own g w m){id:Nat}{t:Ty}{l:List (ET F t)}(h:m id=some (.Tc t l)){v:Value}(hv:Mh (F:=F) g w (.Nn id) v):L_ w g.Li (.sl t l) v:=by
 rcases bu hv with⟨hi,p,rfl⟩ | ⟨b,c,n,hi,h1,h2,rfl⟩
 ·rcases hm.ok id _ h with⟨_,rfl⟩ | ⟨b',cap,_,k1,_⟩
  ·exact .sl0 t p
  ·rw[hi]at k1;cases k1
 ·obtain⟨ns,rfl,h4,h5,h6,h7⟩:=pF hm h hi;refine .sl t l b 0 c (λk=>(w.cell? ⟨b,k,none⟩).getD undef) h6 h4 h5 ?_ ?_
  ·intro k d hk;obtain⟨x,k1,k2⟩:=h7 k d hk;rw[OW,k1];rfl
  ·intro k d hk;obtain⟨x,k1,k2⟩:=h7 k d hk;rw[k1];exact k2
theorem y9(hm:LQ own g w m){id:Nat}{t:Ty}{l:List (ET F t)}(h:m id=some (.Tc t l)){sz off n:Nat}(hsz:sz=LY F t){v:Value}(hv:Mh (F:=F) g w (.RD id sz off n) v):L_ w g.Li (.sl t (sub l off n)) v:=by
 subst hsz;rcases oT hv with⟨hi,rfl,rfl,p,rfl⟩ | ⟨b,c,len,q,hi,h1,h2,h3,h4,rfl⟩
 ·have:sub l 0 0 = []:=by simp[sub]
  rw[this];exact .sl0 t p
 ·obtain⟨ns,rfl,h4,h5,h6,h7⟩:=pF hm h hi
  have hlen:(sub l off n).length=n:=by simp only[sub,Oy,Ro];omega
  have key:∀(k:Nat)(d:ND F),(cells F t (sub l off n))[k]? = some d→∃x,w.cell? ⟨b,q+k,none⟩=some x∧L_ w g.Li d x:=by
   intro k d hk;rcases h3 with⟨h3,_⟩ | h3
   ·have h0:n=0:=by omega
    subst h0;simp[sub,cells]at hk
   ·subst h3;exact h7 _ _ (lK hk)
  have:=L_.sl (F:=F) (w:=w) (Li:=g.Li) t (sub l off n) b q (c - off) (λk=>(w.cell? ⟨b,q+k,none⟩).getD undef) h6 (by omega) (by omega)
   (λk d hk=>by obtain⟨x,k1,k2⟩:=key k d hk;rw[k1];rfl) (λk d hk=>by obtain⟨x,k1,k2⟩:=key k d hk;rw[k1];exact k2)
  rwa [hlen]at this
theorem wQ(hT:Mc P T){t:TypeId}{x ix:Operand}(ho:o.op = .indexAddr t x ix):Rule P o vals mm c K (sa T vals mm K t ix):=by
 unfold sa;split
 ·rename_i e _ _ _ _ _ ht;split
  ·exact af
  ·rename_i te hte
   have run:∀{w:World}{a:Act}{b q len cap:Nat}{k:IntKind} {n:Int},a.eval x = .slice (some ⟨b,q,none⟩) len cap→a.eval ix = .int k n→0≤n→n<len→
     (execOp a.eval o).run P w = .ok (.value (.pointer (some ⟨b,q+n.toNat*te.size,none⟩))) w:=by
    intro w a b q len cap k n e1 e2 h0 h1;have hu:=run_underlying (hT.und _ _ ht) w;have hs:=b_ hT hte w;have h2:0≤n∧n<len:=⟨h0,h1⟩;simp only[execOp,ho,e1,e2,OA,Instr.indexAt,asIntOf,hu,OM,PD,h2,and_self,if_true,hs,Addr.add_lit]
   split
   ·rename_i t' l k n;refine aA (λhsz=>aE λx' hx=>av ?_) (λ_=>af);intro own g w a m hle hm hr;rw[ho]at hr;simp only[Op.operands,M9,Oi]at hr;obtain⟨h1,h2⟩:=M5 hr;obtain⟨b,q,len,cap,e1,h3,h4,h5⟩:=vQ hx (tI h1);rw[hsz]at h5;exact⟨_,run e1 (cv h2) h3 h4,.c h5⟩
   ·rename_i id k n;split
    ·rename_i t' l hrow;refine aA (λhsz=>aE λi hi=>av ?_) (λ_=>af);intro own g w a m hle hm hr;rw[ho]at hr;simp only[Op.operands,M9,Oi]at hr;obtain⟨h1,h2⟩:=M5 hr;obtain⟨h3,h4,rfl⟩:=ot hi;rcases bu (bh h1)with⟨hid,p,ev⟩ | ⟨b,c',len,hid,h5,h6,ev⟩
     ·rcases hm.ok id _ (hle _ _ hrow)with⟨_,rfl⟩ | ⟨_,_,_,_,k1,_⟩
      ·simp at h4
      ·rw[hid]at k1;cases k1
     ·obtain⟨rfl,_,_⟩:=cV hm (hle _ _ hrow) hid
      exact⟨_,run ev (cv h2) h3 (by dsimp only;omega),by rw[OW];exact .c (.OV (off:=0) hid)⟩
    ·rename_i t' l hrow;refine aA (λhsz=>aE λi hi=>av ?_) (λ_=>af);intro own g w a m hle hm hr;rw[ho]at hr;simp only[Op.operands,M9,Oi]at hr;obtain⟨h1,h2⟩:=M5 hr;obtain⟨h3,h4,rfl⟩:=ot hi;rcases bu (bh h1)with⟨hid,p,ev⟩ | ⟨b,c',len,hid,h5,h6,ev⟩
     ·obtain⟨pl,k1,k2⟩:=hm.ok id _ (hle _ _ hrow);rw[hid]at k1;cases k1;have k2:l = []:=k2;subst k2;simp at h4
     ·obtain⟨k1,_⟩:=kg hm (hle _ _ hrow) hid
      exact⟨_,run ev (cv h2) h3 (by omega),by rw[OW];exact .c (.OV (off:=0) hid)⟩
    ·rename_i t' l _ _ hrow;refine aA (λhsz=>aE λi hi=>av ?_) (λ_=>af);intro own g w a m hle hm hr;rw[ho]at hr;simp only[Op.operands,M9,Oi]at hr;obtain⟨h1,h2⟩:=M5 hr;obtain⟨h3,h4,rfl⟩:=ot hi;rcases bu (bh h1)with⟨hid,p,ev⟩ | ⟨b,c',len,hid,h5,h6,ev⟩
     ·obtain⟨pl,k1,k2⟩:=hm.ok id _ (hle _ _ hrow);rw[hid]at k1;cases k1;have k2:l = []:=k2;subst k2;simp at h4
     ·obtain⟨pl,k1,k2⟩:=hm.ok id _ (hle _ _ hrow);rw[hid]at k1;cases k1;have k1:=k2.1
      exact⟨_,run ev (cv h2) h3 (by omega),by rw[OW];exact .c (.OV (off:=0) hid)⟩
    ·rename_i t' l _ hrow;refine aA (λhsz=>aE λi hi=>av ?_) (λ_=>af);intro own g w a m hle hm hr;rw[ho]at hr;simp only[Op.operands,M9,Oi]at hr;obtain⟨h1,h2⟩:=M5 hr;obtain⟨h3,h4,rfl⟩:=ot hi;rcases bu (bh h1)with⟨hid,p,ev⟩ | ⟨b,c',len,hid,h5,h6,ev⟩
     ·obtain⟨pl,k1,k2⟩:=hm.ok id _ (hle _ _ hrow);rw[hid]at k1;cases k1;have k2:l = []:=k2;subst k2;simp at h4
     ·obtain⟨pl,k1,k2⟩:=hm.ok id _ (hle _ _ hrow);rw[hid]at k1;cases k1;have k1:=k2.1
      exact⟨_,run ev (cv h2) h3 (by omega),by rw[OW];exact .c (.OV (off:=0) hid)⟩
    ·rename_i t' l hrow;refine aA (λhsz=>aE λx' hx=>av ?_) (λ_=>af);intro own g w a m hle hm hr;rw[ho]at hr;simp only[Op.operands,M9,Oi]at hr;obtain⟨h1,h2⟩:=M5 hr;obtain⟨b,q,len,cap,e1,h3,h4,h5⟩:=vQ hx (qW hm (hle _ _ hrow) (bh h1));rw[hsz]at h5;exact⟨_,run e1 (cv h2) h3 h4,.c h5⟩
    ·exact af
   ·rename_i id sz i0 off k n;split
    ·rename_i t' l hrow;refine aA (λhsz=>aE λx' hx=>?_) (λ_=>af);subst hsz;split
     ·rename_i t2 l2 hd;refine aA (λhsz=>aE λj hj=>av ?_) (λ_=>af);intro own g w a m hle hm hr;rw[ho]at hr;simp only[Op.operands,M9,Oi]at hr;obtain⟨h1,h2⟩:=M5 hr;obtain⟨h3,h4,rfl⟩:=ot hj;obtain⟨b,c',nn,pl,hid,hk,hv⟩:=Kf h1;obtain⟨_,_,_,hcell⟩:=kg hm (hle _ _ hrow) hid;obtain⟨y,WT,_,k2,k3⟩:=hcell _ _ (a_ hx hd);rw[hk]at k2;cases k2
      cases pl with
      | none=>have k3:l2 = []:=k3.1;subst k3;simp at h4
      | some q=>
       obtain⟨b2,c2,n2⟩:=q;obtain⟨k4,k5,k6,_⟩:=k3.1;simp only[Prod.mk.injEq,and_true]at k4
       refine⟨_,run hv (cv h2) h3 (by dsimp only;omega),?_⟩
       rw[OW];exact .c (.Ud (off':=0) hid hk)
     ·exact af
    ·exact af
   ·rename_i id sz off len k n;refine aA (λhsz=>aE λi hi=>av ?_) (λ_=>af);intro own g w a m hle hm hr;rw[ho]at hr;simp only[Op.operands,M9,Oi]at hr;obtain⟨h1,h2⟩:=M5 hr;obtain⟨h3,h4,rfl⟩:=ot hi;rcases oT (bh h1)with⟨_,_,rfl,_⟩ | ⟨b,c',len',q,hid,h5,h6,h7,h8,ev⟩
    ·omega
    ·have hq:q=off*sz:=by
      rcases h7 with h7 | h7
      ·omega
      ·exact h7
     subst hq
     refine⟨_,run ev (cv h2) h3 (by omega),?_⟩
     rw[← hsz,← Uk];exact .c (.OV (off:=0) hid)
   ·rename_i id len k n;refine aA (λhsz=>aE λi hi=>av ?_) (λ_=>af);intro own g w a m hle hm hr;rw[ho]at hr;simp only[Op.operands,M9,Oi]at hr;obtain⟨h1,h2⟩:=M5 hr;obtain⟨h3,h4,rfl⟩:=ot hi;obtain⟨b,c',hid,_,ev⟩:=wX h1
    refine⟨_,run ev (cv h2) h3 (by omega),?_⟩
    rw[hsz,Nat.mul_one,OW];exact .c (.ptr hid)
   ·exact af
 ·rename_i len e _ _ _ _ _ ht;split
  ·exact af
  ·rename_i te hte
   have run:∀{w:World}{a:Act}{b q:Nat}{k:IntKind} {n:Int},a.eval x = .pointer (some ⟨b,q,none⟩)→a.eval ix = .int k n→0≤n→n<len→
     (execOp a.eval o).run P w = .ok (.value (.pointer (some ⟨b,q+n.toNat*te.size,none⟩))) w:=by
    intro w a b q k n e1 e2 h0 h1;have hu:=run_underlying (hT.und _ _ ht) w;have hs:=b_ hT hte w;have h2:0≤n∧n<len:=⟨h0,h1⟩;simp only[execOp,ho,e1,e2,OA,Instr.indexAt,asIntOf,hu,OM,PD,Instr.sureAddr,h2,and_self,if_true,hs,Addr.add_lit]
   have lit:∀{i:Nat},TW len ix=some i→∀(a:Act),∃k,a.eval ix = .int k (i:Int)∧(0:Int)≤i∧(i:Int)<len:=by
    intro i hi a;obtain⟨h1,kd,rfl⟩:=HH hi
    exact⟨kd,rfl,by omega,by omega⟩
   split
   ·rename_i id off k n;split
    ·rename_i t' l hrow;refine aA (λhsz=>?_) (λ_=>af);split
     ·rename_i i hi;refine av ?_;intro own g w a m hle hm hr;rw[ho]at hr;simp only[Op.operands,M9,Oi]at hr;obtain⟨h1,h2⟩:=M5 hr;obtain⟨b,c',hid,e1⟩:=bW h1;obtain⟨kd,e2,h3,h4⟩:=lit hi a;refine⟨_,run e1 e2 h3 h4,?_⟩;rw[OW,Tz];exact .c (.OV (off:=0) hid)
     ·refine aE λi hi=>av ?_;intro own g w a m hle hm hr;rw[ho]at hr;simp only[Op.operands,M9,Oi]at hr;obtain⟨h1,h2⟩:=M5 hr;obtain⟨b,c',hid,e1⟩:=bW h1;obtain⟨h3,h4,rfl⟩:=ot hi
      refine⟨_,run e1 (cv h2) h3 (by omega),?_⟩
      rw[OW];exact .c (.OV (off:=0) hid)
    ·split
     ·rename_i i hi;refine av ?_;intro own g w a m hle hm hr;rw[ho]at hr;simp only[Op.operands,M9,Oi]at hr;obtain⟨h1,h2⟩:=M5 hr;obtain⟨b,c',hid,e1⟩:=bW h1;obtain⟨kd,e2,h3,h4⟩:=lit hi a;refine⟨_,run e1 e2 h3 h4,?_⟩;rw[Tz];exact .c (.ptr hid)
     ·exact af
    ·exact af
   ·split
    ·rename_i i hi;refine av ?_;intro own g w a m hle hm hr;rw[ho]at hr;simp only[Op.operands,M9,Oi]at hr;obtain⟨h1,h2⟩:=M5 hr;obtain⟨b,c',hid,e1⟩:=ja h1;obtain⟨kd,e2,h3,h4⟩:=lit hi a;refine⟨_,run e1 e2 h3 h4,?_⟩;rw[Tz,UA];exact .c (.OV hid)
    ·exact af
   ·split
    ·rename_i i hi;refine av ?_;intro own g w a m hle hm hr;rw[ho]at hr;simp only[Op.operands,M9,Oi]at hr;obtain⟨h1,h2⟩:=M5 hr;obtain⟨b,q,fn,hb,e1,hc,hr⟩:=rz h1;obtain⟨kd,e2,h3,h4⟩:=lit hi a;refine⟨_,run e1 e2 h3 h4,?_⟩;rw[Tz,UA];exact .c (.pt _ _ b q fn hb hc hr)
    ·exact af
   ·exact af
 ·exact af
theorem yW{x:Operand}{i:Nat}(ho:o.op = .extract x i):Rule P o vals mm c K (match vals with | [.Pp ds]=>(match ds[i]? with | some d=>K { val:=d } | none=>none) | _=>none):=by
 split
 ·split
  ·rename_i ds _ d hd;refine av ?_;intro own g w a m hle hm hr;rw[ho]at hr;obtain⟨vs,e,hl,hr⟩:=B5 (Nw hr)
   have hlt:i<vs.length:=by rw[hl];exact(K_.1 hd).1
   exact⟨vs[i],by simp[execOp,ho,e,Instr.extract,hlt],hr i d _ hd (K9 hlt)⟩
  ·exact af
 ·exact af
theorem yR{x:Operand}(ho:o.op = .nilCheck x):Rule P o vals mm c K (tO vals K):=by
 unfold tO;split
 ·refine av ?_;intro own g w a m hle hm hr;rw[ho]at hr;have h1:=Nw hr;obtain⟨b,c',hid,e1⟩:=bW h1
  exact⟨a.eval x,by simp[execOp,ho,e1],h1⟩
 ·refine av ?_;intro own g w a m hle hm hr;rw[ho]at hr;have h1:=Nw hr;obtain⟨b,c',hid,e1⟩:=ja h1
  exact⟨a.eval x,by simp[execOp,ho,e1],h1⟩
 ·refine av ?_;intro own g w a m hle hm hr;rw[ho]at hr;have h1:=Nw hr;obtain⟨b,q,fn,hb,e1,_⟩:=rz h1
  exact⟨a.eval x,by simp[execOp,ho,e1],h1⟩
 ·exact af
theorem Eh{fn:Fn}{first captured:Array Operand}(ho:o.op = .makeFunc fn first captured):Rule P o vals mm c K (yZ vals K fn first.size captured.size):=by
 unfold yZ
 have ev:∀(a:Act)(w:World),(execOp a.eval o).run P w = .ok (.value (.func fn (first.map a.eval) (captured.map a.eval))) w:=by intro a w;simp only[execOp,ho,Instr.makeFunc,OA,PD,OM]
 refine aA (λhz=>?_) (λ_=>?_)
 ·simp only[Np,decide_eq_true_eq]at hz
  have h1:first = #[]:=QfQ hz.1
  have h2:captured = #[]:=QfQ hz.2;subst h1 h2;refine av ?_;intro own g w a m hle hm hr
  exact⟨.func fn #[] #[],by simpa using ev a w,.c (.im (.v _ rfl))⟩
 ·refine av ?_;intro own g w a m hle hm hr;rw[ho]at hr;simp only[Op.operands,QeO,UD]at hr;obtain⟨hl,hr⟩:=hr;simp only[La,Py]at hl
  have e1:first.map a.eval=⟨first.toList.map a.eval⟩:=by apply Array.ext';simp
  have e2:captured.map a.eval=⟨captured.toList.map a.eval⟩:=by apply Array.ext';simp
  refine⟨_,ev a w,?_⟩;rw[e1,e2]
  have hfl:first.toList.length=first.size:=by simp
  have hcl:captured.toList.length=captured.size:=by simp
  refine .RY (by simp;omega) (by simp;omega) ?_ ?_
  ·intro k d x h1 h2;rw[RG]at h1;split at h1
   ·exact hr k d x h1 (by rw[Rv (by simp;omega)];exact h2)
   ·cases h1
  ·intro k d x h1 h2;rw[SY]at h1;refine hr _ d x h1 ?_
   rw[RF (by simp)]
   simpa using h2
theorem DP(hT:Mc P T){t:TypeId}{x ix:Operand}(ho:o.op = .index t x ix):Rule P o vals mm c K (AN T vals K t):=by
 unfold AN;split
 ·rename_i l k n ht;refine aE λch hch=>av ?_;intro own g w a m hle hm hr;rw[ho]at hr;simp only[Op.operands,M9,Oi]at hr;obtain⟨h1,h2⟩:=M5 hr;obtain⟨h3,h4⟩:=DY hch;have hlt:n.toNat<l.length:=(K_.1 h4).1;have hs:(⟨⟨l⟩⟩:ByteArray).size=l.length:=rfl
  have hg:(⟨⟨l⟩⟩:ByteArray)[n.toNat]? = some ch:=by
   rw[getElem?_pos (⟨⟨l⟩⟩:ByteArray) n.toNat (by rw[hs];exact hlt)]
   congr 1
   exact(K_.1 h4).2
  exact⟨.int .u8 ch.toNat,by simp only[execOp,ho,ur h1,cv h2,OA,Instr.index,asIntOf,PD,OM,run_underlying (hT.und _ _ ht),h3,if_true,hg],OD _ _⟩
 ·exact af
theorem Gi(hT:Mc P T){t:TypeId}{x:Operand}(ho:o.op = .call { callee:=.builtin .len,args:=#[x],argTypes:=#[t] }):Rule P o vals mm c K (acP T vals mm K t):=by
 have key:∀{a:Act}{w:World}(n:Int),(Builtin.len_ #[t] o.type #[a.eval x]).run P w = .ok (.int .i64 n) w→(execOp a.eval o).run P w = .ok (.value (.int .i64 n)) w:=by intro a w n e;simp only[execOp,ho,resolve,invoke,builtin,OA,PD,OM,QgD,M9,Oi,e]
 have one:∀{a:Act}{d:Dat F}{g:G}{w:World},MF P g w [d] (o.op.operands.toList.map a.eval)→Ma P g w d (a.eval x):=by intro a d g w hr;rw[ho]at hr;exact Nw hr
 unfold acP;split
 ·rename_i ht;refine av ?_;intro own g w a m hle hm hr
  exact⟨_,key _ (by simp[Builtin.len_,run_underlying (hT.und _ _ ht),ur (one hr),goInt];rfl),OD _ _⟩
 ·rename_i ht;refine av ?_;intro own g w a m hle hm hr;refine⟨_,key _ ?_,OD _ _⟩;rcases tg (tI (one hr))with⟨rfl,p,e⟩ | ⟨b,q,cap,fn,_,_,_,e,_⟩
  ·simp[Builtin.len_,run_underlying (hT.und _ _ ht),e,goInt]
  ·simp[Builtin.len_,run_underlying (hT.und _ _ ht),e,goInt]
 ·rename_i ht;refine av ?_;intro own g w a m hle hm hr;obtain⟨p,e⟩:=pw (one hr)
  exact⟨_,key _ (by simp[Builtin.len_,run_underlying (hT.und _ _ ht),e,goInt]),OD _ _⟩
 ·rename_i id ht;split
  ·rename_i t' l hrow;refine av ?_;intro own g w a m hle hm hr;refine⟨_,key _ ?_,OD _ _⟩;rcases bu (bh (one hr))with⟨hid,p,e⟩ | ⟨b,c',len,hid,h5,h6,e⟩
   ·rcases hm.ok id _ (hle _ _ hrow)with⟨_,rfl⟩ | ⟨_,_,_,_,k1,_⟩
    ·simp[Builtin.len_,run_underlying (hT.und _ _ ht),e,goInt]
    ·rw[hid]at k1;cases k1
   ·obtain⟨rfl,_,_⟩:=cV hm (hle _ _ hrow) hid;simp[Builtin.len_,run_underlying (hT.und _ _ ht),e,goInt]
  ·rename_i t' l hrow;refine av ?_;intro own g w a m hle hm hr;refine⟨_,key _ ?_,OD _ _⟩;rcases bu (bh (one hr))with⟨hid,p,e⟩ | ⟨b,c',len,hid,h5,h6,e⟩
   ·rcases hm.ok id _ (hle _ _ hrow)with⟨_,rfl⟩ | ⟨_,_,_,k1,_⟩
    ·simp[Builtin.len_,run_underlying (hT.und _ _ ht),e,goInt]
    ·rw[hid]at k1;cases k1
   ·obtain⟨_,rfl,_⟩:=pF hm (hle _ _ hrow) hid;simp[Builtin.len_,run_underlying (hT.und _ _ ht),e,goInt]
  ·rename_i t' l hrow;refine av ?_;intro own g w a m hle hm hr;refine⟨_,key _ ?_,OD _ _⟩;rcases bu (bh (one hr))with⟨hid,p,e⟩ | ⟨b,c',len,hid,h5,h6,e⟩
   ·obtain⟨pl,k1,k2⟩:=hm.ok id _ (hle _ _ hrow);rw[hid]at k1;cases k1;have k2:l = []:=k2;subst k2;simp[Builtin.len_,run_underlying (hT.und _ _ ht),e,goInt]
   ·obtain⟨k1,_⟩:=kg hm (hle _ _ hrow) hid;simp[Builtin.len_,run_underlying (hT.und _ _ ht),e,goInt,k1]
  ·rename_i t' l _ _ hrow;refine av ?_;intro own g w a m hle hm hr;refine⟨_,key _ ?_,OD _ _⟩;rcases bu (bh (one hr))with⟨hid,p,e⟩ | ⟨b,c',len,hid,h5,h6,e⟩
   ·obtain⟨pl,k1,k2⟩:=hm.ok id _ (hle _ _ hrow);rw[hid]at k1;cases k1;have k2:l = []:=k2;subst k2;simp[Builtin.len_,run_underlying (hT.und _ _ ht),e,goInt]
   ·obtain⟨pl,k1,k2⟩:=hm.ok id _ (hle _ _ hrow);rw[hid]at k1;cases k1;have k1:=k2.1;simp[Builtin.len_,run_underlying (hT.und _ _ ht),e,goInt,k1]
  ·rename_i t' l _ hrow;refine av ?_;intro own g w a m hle hm hr;refine⟨_,key _ ?_,OD _ _⟩;rcases bu (bh (one hr))with⟨hid,p,e⟩ | ⟨b,c',len,hid,h5,h6,e⟩
   ·obtain⟨pl,k1,k2⟩:=hm.ok id _ (hle _ _ hrow);rw[hid]at k1;cases k1;have k2:l = []:=k2;subst k2;simp[Builtin.len_,run_underlying (hT.und _ _ ht),e,goInt]
   ·obtain⟨pl,k1,k2⟩:=hm.ok id _ (hle _ _ hrow);rw[hid]at k1;cases k1;have k1:=k2.1;simp[Builtin.len_,run_underlying (hT.und _ _ ht),e,goInt,k1]
  ·exact af
 ·rename_i ht;refine av ?_;intro own g w a m hle hm hr;refine⟨_,key _ ?_,OD _ _⟩;rcases oT (bh (one hr))with⟨_,_,rfl,p,e⟩ | ⟨b,c',len,q,_,_,_,_,_,e⟩
  ·simp[Builtin.len_,run_underlying (hT.und _ _ ht),e,goInt]
  ·simp[Builtin.len_,run_underlying (hT.und _ _ ht),e,goInt]
 ·rename_i ht;refine av ?_;intro own g w a m hle hm hr;obtain⟨b,c',_,_,e⟩:=wX (one hr)
  exact⟨_,key _ (by simp[Builtin.len_,run_underlying (hT.und _ _ ht),e,goInt]),OD _ _⟩
 ·rename_i ht;refine av ?_;intro own g w a m hle hm hr
  exact⟨_,key _ (by simp[Builtin.len_,run_underlying (hT.und _ _ ht),goInt]),OD _ _⟩
 ·rename_i id ht;split
  ·rename_i t' l hrow;refine av ?_;intro own g w a m hle hm hr;refine⟨_,key _ ?_,OD _ _⟩;obtain⟨b,h1,es,h2,h3,h4⟩:=hm.ok id _ (hle _ _ hrow)
   obtain⟨b',c',h5,e⟩:∃b c,g.ids id=some (some (b,c))∧a.eval x = .map (some b):=by
    have h0:=bh (one hr);revert h0;generalize a.eval x=v;intro h0
    cases h0 with | Sy h=>exact⟨_,_,h,rfl⟩
   rw[h1]at h5;cases h5;simp[Builtin.len_,run_underlying (hT.und _ _ ht),e,goInt,MapKept.run_getObj_map h2,h3]
  ·exact af
 ·exact af
theorem xY:∀(l:List Int)(a:List UInt8),l.foldl (λr n=>r.push (UInt8.ofNat n.toNat)) (⟨⟨a⟩⟩:ByteArray)=⟨⟨a++l.map toB⟩⟩
 | [],a=>by simp
 | n::l,a=>by
  have h:(⟨⟨a⟩⟩:ByteArray).push (UInt8.ofNat n.toNat)=⟨⟨a++[toB n]⟩⟩:=by simp[ByteArray.push,toB]
  rw[TG,h,xY l];simp
theorem xJ{b q cap:Nat}{l:List Int}(hc:∀k,(h:k<l.length)→w.cell? ⟨b,q+k,none⟩=some (.int .u8 l[k])) :
  (Conv.bytesToString (.slice (some ⟨b,q,none⟩) l.length cap)).run P w = .ok (.string ⟨⟨l.map toB⟩⟩) w:=by
 have hrun:=run_loadCells (P:=P) w ⟨b,q,none⟩ l.length (λj=>.int .u8 (l.getD j 0)) (by intro j hj;rw[Addr.add_lit,hc j hj];simp[hj])
 have hl:(List.range l.length).map (λj=>Value.int .u8 (l.getD j 0))=l.map (Value.int .u8):=by
  apply List.ext_getElem
  ·simp
  ·intro i h1 h2;simp at h1;simp[h1]
 rw[hl]at hrun;rw[run_bytesToString w ⟨b,q,none⟩ l.length cap l hrun];have e0:ByteArray.empty=(⟨⟨[]⟩⟩:ByteArray):=rfl;rw[e0,xY];simp
theorem E9(hT:Mc P T){s d:TypeId}{x:Operand}(ho:o.op = .convert s d x):Rule P o vals mm c K (Y3 T vals mm K s d):=by
 have key:∀{e:TypeId}{a:Act}{w:World}{p:Option Addr} {n cap:Nat} {v:Value},P.underlying s=some (.slice e)→P.underlying e=some (.int .u8)→P.underlying d=some .string→a.eval x = .slice p n cap→
   (Conv.bytesToString (.slice p n cap)).run P w = .ok v w→(execOp a.eval o).run P w = .ok (.value v) w:=by
  intro e a w p n cap v h1 h2 h3 h4 h5;simp only[execOp,ho,h4,OA,run_convert_bytes_string w s d e p n cap h1 h2 h3,h5,OM,PD]
 have nil:∀{w:World}{p:Option Addr}{cap:Nat},(Conv.bytesToString (.slice p 0 cap)).run P w = .ok (.string ⟨⟨[]⟩⟩) w:=by
  intro w p cap
  cases p<;>simp[Conv.bytesToString,loadCells,loadCellsFrom,PD,OA]<;>rfl
 unfold Y3;split
 ·rename_i hs hd;refine av ?_;intro own g w a m _ _ hr;rw[ho]at hr;have e:=cv (Nw hr)
  exact⟨_,by simp[execOp,ho,e,convert,run_underlying (hT.und _ _ hs),run_underlying (hT.und _ _ hd),Conv.intToInt],OD _ _⟩
 ·rename_i hs hd;refine av ?_;intro own g w a m _ _ hr;rw[ho]at hr;have e:=ur (Nw hr)
  exact⟨_,by simp[execOp,ho,e,convert,run_underlying (hT.und _ _ hs),run_underlying (hT.und _ _ hd)],WE _⟩
 ·rename_i id hs hd;split
  ·rename_i he;split
   ·rename_i l hrow;refine av ?_;intro own g w a m hle hm hr;rw[ho]at hr;have hr:=bh (Nw hr);rcases bu hr with⟨hid,p,e⟩ | ⟨b,c',len,hid,h5,h6,e⟩
    ·rcases hm.ok id _ (hle _ _ hrow)with⟨_,rfl⟩ | ⟨_,_,_,_,k1,_⟩
     ·exact⟨_,key (hT.und _ _ hs) (hT.und _ _ he) (hT.und _ _ hd) e nil,WE _⟩
     ·rw[hid]at k1;cases k1
    ·obtain⟨rfl,_,hcell⟩:=cV hm (hle _ _ hrow) hid;refine⟨_,key (hT.und _ _ hs) (hT.und _ _ he) (hT.und _ _ hd) e (xJ λk hk=>?_),WE _⟩;have h1:(cells F (.int .u8) l)[k*LY F (.int .u8)+0]? = some (.i .u8 l[k]):=a_ (K9 hk) rfl
     have h1:(cells F (.int .u8) l)[k]? = some (.i .u8 l[k]):=by simpa[LY]using h1
     obtain⟨x,hx,hrep⟩:=hcell k _ h1;cases hrep;rw[OW];exact hx
   ·exact af
  ·exact af
 ·rename_i l hs hd;split
  ·rename_i he;refine av ?_;intro own g w a m hle hm hr;rw[ho]at hr;rcases tg (tI (Nw hr))with⟨rfl,p,e⟩ | ⟨b,q,cap,f,_,_,_,e,hcell,hrep⟩
   ·exact⟨_,key (hT.und _ _ hs) (hT.und _ _ he) (hT.und _ _ hd) e nil,WE _⟩
   ·refine⟨_,key (hT.und _ _ hs) (hT.und _ _ he) (hT.und _ _ hd) e (xJ λk hk=>?_),WE _⟩;have h1:(cells F (.int .u8) l)[k*LY F (.int .u8)+0]? = some (.i .u8 l[k]):=a_ (K9 hk) rfl
    have h1:(cells F (.int .u8) l)[k]? = some (.i .u8 l[k]):=by simpa[LY]using h1
    rw[hcell k _ h1];have hk2:=hrep k _ h1;generalize f k=v at hk2;cases hk2;rfl
  ·exact af
 ·exact af
end
set_option linter.unusedVariables false
set_option linter.unusedSimpArgs false
section
variable{F:Fam}{P:Program}{T:TypeId→Option (TI F)}{o:Oper}{vals:List (Dat F)}{mm:Nat→Option (Mg F)}{c:Nat}{R:Type}{K:SS F→Option R}{own:Ow}{g:G}{w:World}{m:Nat→Option (Mg F)}
theorem A2(fn:Int→Int→Int)(step:Value→Value→Sem Value)(hs:∀(k:IntKind)(x y:Int)(w:World),(step (.int k x) (.int k y)).run P w = .ok (.int k (fn x y)) w) :
  ∀(l:List (Dat F)) (vs:List Value) (k:IntKind) (n r:Int),rL fn k n l=some r→vs.length=l.length→(∀(j:Nat)(d:Dat F)(x:Value),l[j]? = some d→vs[j]? = some x→Ma P g w d x)→
   (vs.foldlM step (.int k n)).run P w = .ok (.int k r) w:=by
 intro l
 induction l with
 | nil=>
  intro vs k n r h hl _
  have:vs = []:=Ui (by simpa using hl)
  subst this;simp only[rL,NJ]at h;subst h;simp
 | cons d l ih=>
  intro vs k n r h hl hr;unfold rL at h;split at h
  ·rename_i heq;cases heq
  ·rename_i k' m' l' heq;simp only[QgN]at heq;obtain⟨rfl,rfl⟩:=heq;split at h
   ·rename_i hk;subst hk
    match vs,hl with
    | v::vs,hl=>
     have hv:=cv (hr 0 _ v rfl rfl);subst hv;simp only[List.foldlM_cons,OA,hs,OM]
     exact ih vs k (fn n m') r h (by simpa using hl) (λj d x h1 h2=>hr (j+1) d x (by simpa using h1) (by simpa using h2))
   ·cases h
  ·cases h
theorem x_{mx:Bool}{args:Array Operand}{ats:Array TypeId}(ho:o.op = .call { callee:=.builtin (if mx then .max else .min),args,argTypes:=ats }) :
  Rule P o vals mm c K (WZ vals K (if mx then imax else Mj)):=by
 unfold WZ;split
 ·rename_i k n0 l;split
  ·rename_i n hn;refine av ?_;intro own g w a m hle hm hr;rw[ho]at hr
   have hargs:(Op.call { callee:=.builtin (if mx then .max else .min),args,argTypes:=ats }).operands.toList.map a.eval=(args.map a.eval).toList:=by simp[Op.operands,Call.operands]
   rw[hargs]at hr
   cases hvs:(args.map a.eval).toList with
   | nil=>rw[hvs]at hr;have:=hr.1;simp at this
   | cons v vs=>
    rw[hvs,aZ]at hr;have hv:=cv hr.1;subst hv;obtain⟨hl,hr'⟩:=hr.2;refine⟨.int k n,?_,OD _ _⟩
    cases mx with
    | true=>
     have:=A2 (P:=P) (g:=g) (w:=w) imax Builtin.max2 (λk x y w=>by simp[Builtin.max2,imax]) l vs k n0 n hn hl hr'
     simp only[execOp,ho,resolve,invoke,builtin,OA,PD,OM,if_true,Builtin.max_,hvs,this]
    | false=>
     have:=A2 (P:=P) (g:=g) (w:=w) Mj Builtin.min2 (λk x y w=>by simp[Builtin.min2,Mj]) l vs k n0 n hn hl hr'
     simp only[execOp,ho,resolve,invoke,builtin,OA,PD,OM,RZ,if_false,Builtin.min_,hvs,this]
  ·exact af
 ·exact af
theorem n6(isSlice:Bool)(len cap:Nat)(lo hi:Option Value)(x y:Int)(hlo:(lo=none∧x=0)∨∃k,lo=some (.int k x))(hhi:(hi=none∧y=len)∨∃k,hi=some (.int k y))
  (h0:0≤x) (hxy:x≤y) (hy:y≤cap):(Instr.sliceBounds isSlice len cap lo hi none).run P w = .ok (x.toNat,y.toNat,cap) w:=by
 have hb:∀(k:IntKind)(n:Int)(c:Nat)(code:BoundsCode),0≤n→n≤c→(Instr.sliceBound (.int k n) c code).run P w = .ok n.toNat w:=by intro k n c code h1 h2;simp[Instr.sliceBound,asIntOf,h1,h2]
 have hyn:(y.toNat:Int)=y:=QgK (by omega)
 rcases hlo with⟨rfl,rfl⟩ | ⟨k,rfl⟩<;>rcases hhi with⟨rfl,rfl⟩ | ⟨k',rfl⟩
 ·simp[Instr.sliceBounds]
 ·simp[Instr.sliceBounds,hb k' y cap _ (by omega) hy]
 ·simp only[Instr.sliceBounds,OA,PD,OM];rw[hb k x len _ h0 hxy];simp
 ·simp only[Instr.sliceBounds,OA,PD,OM]
  rw[hb k' y cap _ (by omega) hy]
  simp only[OM]
  rw[hb k x y.toNat _ h0 (by rw[hyn];exact hxy)]
  simp
theorem C7(l:List UInt8)(i j:Nat):(⟨⟨l⟩⟩:ByteArray).extract i j=⟨⟨(l.take j).drop i⟩⟩:=by apply ByteArray.ext;apply Array.ext';simp[List.extract_eq_take_drop,List.drop_take]
theorem Ch{α : Type}{l r:List α}{a b:Int}(h:slc l a b=some r):r=sub l a.toNat (b.toNat - a.toNat):=by obtain⟨_,_,_,rfl⟩:=vR h;simp[sub,List.drop_take]
theorem wd{t:Ty}{l:List (ET F t)}{v:Value}(hv:L_ w g.Li (.sl t l) v){p q:Nat}(hpq:p≤q)(hq:q≤l.length) :
  ∃ptr cap,v = .slice ptr l.length cap∧q≤cap∧L_ w g.Li (.sl t (sub l p (q - p))) (.slice (if cap=p then ptr else ptr.map (·.add (p*LY F t))) (q - p) (cap - p)):=by
 rcases tg hv with⟨rfl,ptr,rfl⟩ | ⟨b,o,cap,f,hb,hcap,hmx,rfl,hc,hr⟩
 ·refine⟨ptr,0,rfl,by simpa using hq,?_⟩
  simp only[WV]at hq
  have h1:p=0:=by omega
  have h2:q=0:=by omega
  subst h1 h2;simp only[sub,List.drop_nil,List.take_nil,Nat.sub_self,if_true];exact .sl0 t ptr
 ·refine⟨_,cap,rfl,by omega,?_⟩
  have hlen:(sub l p (q - p)).length=q - p:=by simp only[sub,Oy,Ro];omega
  have mk:∀(b' o':Nat)(f':Nat→Value),g.Li b'→(∀k d,(cells F t (sub l p (q - p)))[k]? = some d→w.cell? ⟨b',o'+k,none⟩=some (f' k))→(∀k d,(cells F t (sub l p (q - p)))[k]? = some d→L_ w g.Li d (f' k))→
    L_ w g.Li (.sl t (sub l p (q - p))) (.slice (some ⟨b',o',none⟩) (q - p) (cap - p)):=by
   intro b' o' f' h1 h2 h3
   have:=L_.sl (F:=F) (w:=w) (Li:=g.Li) t (sub l p (q - p)) b' o' (cap - p) f' h1 (by omega) (by omega) h2 h3
   rwa [hlen]at this
  split
  ·refine mk b o f hb ?_ ?_
   all_goals
    intro k d hk
    have h0:q - p=0:=by omega
    rw[h0]at hk;simp[sub,cells]at hk
  ·simp only[Xy,Addr.add_lit];refine mk b (o+p*LY F t) (λk=>f (p*LY F t+k)) hb ?_ ?_
   ·intro k d hk;rw[UA];exact hc _ d (lK hk)
   ·intro k d hk;exact hr _ d (lK hk)
theorem Ds(hT:Mc P T){t:TypeId}{x:Operand}{lo hi:Option Operand}(ho:o.op = .slice t x lo hi none) :
  Rule P o vals mm c K (z6 T vals mm K t (ob lo 1) (ob hi (Xh lo))):=by
 have hops:∀a:Act,o.op.operands.toList.map a.eval=a.eval x::((lo.map a.eval).toList++(hi.map a.eval).toList):=by
  intro a;rw[ho]
  cases lo<;>cases hi<;>simp[Op.operands]
 have hlo:∀{dflt n:Int}{a:Act}{g:G}{w:World},MF P g w vals (o.op.operands.toList.map a.eval)→bound vals (ob lo 1) dflt=some n→(lo.map a.eval=none∧n=dflt)∨∃k,lo.map a.eval=some (.int k n):=by
  intro dflt n a g w hr hh;rw[hops]at hr
  cases lo with
  | none=>simp only[ob,bound,NJ]at hh;exact .inl ⟨rfl,hh.symm⟩
  | some l=>
   simp only[ob,bound]at hh;split at hh
   ·rename_i k n' hq;cases hh
    have:=hr.2 1 _ (a.eval l) hq (by simp)
    exact .inr ⟨k,by rw[Xy,cv this]⟩
   ·cases hh
 have hhi:∀{dflt n:Int}{a:Act}{g:G}{w:World},MF P g w vals (o.op.operands.toList.map a.eval)→bound vals (ob hi (Xh lo)) dflt=some n→(hi.map a.eval=none∧n=dflt)∨∃k,hi.map a.eval=some (.int k n):=by
  intro dflt n a g w hr hh;rw[hops]at hr
  cases hi with
  | none=>simp only[ob,bound,NJ]at hh;exact .inl ⟨rfl,hh.symm⟩
  | some l=>
   simp only[ob,bound]at hh;split at hh
   ·rename_i k n' hq;cases hh
    have:=hr.2 _ _ (a.eval l) hq (by cases lo<;>simp[Xh])
    exact .inr ⟨k,by rw[Xy,cv this]⟩
   ·cases hh
 have hx0:∀{d:Dat F}{a:Act}{g:G}{w:World},MF P g w vals (o.op.operands.toList.map a.eval)→vals[0]? = some d→Ma P g w d (a.eval x):=by intro d a g w hr hd;rw[hops]at hr;exact hr.2 0 d _ hd rfl
 have run:∀{w:World}{a:Act}{e:TypeId}{i te:TI F} {ptr:Option Addr} {len cap:Nat} {p q:Int},T t=some i→i.desc = .slice e→T e=some te→a.eval x = .slice ptr len cap→
   ((lo.map a.eval=none∧p=0)∨∃k,lo.map a.eval=some (.int k p))→((hi.map a.eval=none∧q=len)∨∃k,hi.map a.eval=some (.int k q))→0≤p→p≤q→q≤cap→
   (execOp a.eval o).run P w = .ok (.value (.slice (if cap=p.toNat then ptr else ptr.map (·.add (p.toNat*te.size))) (q.toNat - p.toNat) (cap - p.toNat))) w:=by
  intro w a e i te ptr len cap p q hi' hd hte e1 h1 h2 h3 h4 h5;have hu:=hT.und _ _ hi';rw[hd]at hu;have hr:=n6 (P:=P) (w:=w) true len cap (lo.map a.eval) (hi.map a.eval) p q h1 h2 h3 h4 h5;simp only[execOp,ho,Instr.sliceAt,Instr.slice,OA,run_underlying hu,OM,e1,Option.map_none];rw[hr];simp only[OM,b_ hT hte,PD]
 unfold z6;split
 ·rename_i l ht h0;split
  ·rename_i p q hp hq;refine aE λr hr=>av ?_;intro own g w a m hle hm hrep;obtain⟨c1,c2,c3,rfl⟩:=vR hr;have hs:(⟨⟨l⟩⟩:ByteArray).size=l.length:=rfl;have hb:=n6 (P:=P) (w:=w) false l.length l.length (lo.map a.eval) (hi.map a.eval) p q (hlo hrep hp) (hhi hrep hq) c1 c2 c3;refine⟨_,?_,WE _⟩;simp only[execOp,ho,Instr.sliceAt,Instr.slice,OA,run_underlying (hT.und _ _ ht),OM,ur (hx0 hrep h0),Option.map_none,Option.isSome_none,RZ,if_false,hs,PD];rw[hb];simp only[OM,C7]
  ·exact af
 ·rename_i e _ _ _ _ _ y ht h0;split
  ·exact af
  ·rename_i te hte;split
   ·rename_i t' l;refine aA (λhsz=>?_) (λ_=>af);split
    ·rename_i p q hp hq;refine aE λr hr=>av ?_;intro own g w a m hle hm hrep;obtain⟨c1,c2,c3,_⟩:=vR hr;rw[Ch hr]
     obtain⟨ptr,cap,ev,h5,h6⟩:=wd (tI (hx0 hrep h0)) (p:=p.toNat) (q:=q.toNat) (by omega) (by omega)
     rw[hsz]at h6
     exact⟨_,run ht rfl hte ev (hlo hrep hp) (hhi hrep hq) c1 c2 (by omega),.c (.im h6)⟩
    ·exact af
   ·rename_i id;split
    ·rename_i t' l hrow;refine aA (λhsz=>?_) (λ_=>af);split
     ·rename_i p q hp hq;refine aE λpr hr=>av ?_;intro own g w a m hle hm hrep;obtain⟨c1,c2,c3,rfl⟩:=FJ hr;rcases bu (bh (hx0 hrep h0))with⟨hid,ptr,ev⟩ | ⟨b,c',len,hid,h5,h6,ev⟩
      ·rcases hm.ok id _ (hle _ _ hrow)with⟨_,rfl⟩ | ⟨_,_,_,_,k1,_⟩
       ·simp only[WV]at c3 hq
        have hp0:p=0:=by omega
        have hq0:q=0:=by omega
        have hr:=run (w:=w) ht rfl hte ev (hlo hrep hp) (hhi hrep hq) c1 c2 (by omega)
        subst hp0 hq0
        exact⟨_,hr,by simpa using .c (.Tq ptr hid)⟩
       ·rw[hid]at k1;cases k1
      ·obtain⟨rfl,h7,_⟩:=cV hm (hle _ _ hrow) hid
       have hr:=run (w:=w) ht rfl hte ev (hlo hrep hp) (hhi hrep hq) c1 c2 (by omega)
       refine⟨_,hr,.c ?_⟩;by_cases hpc:c'=p.toNat
       ·rw[if_pos hpc]
        refine .RD hid (by omega) h7 ?_ h6
        by_cases h0:c'=0
        ·right;rw[← hpc,h0];simp
        ·left;omega
       ·rw[if_neg hpc,Xy,Addr.add_lit,OW]
        exact .RD hid (by omega) h7 (.inr rfl) h6
     ·exact af
    ·rename_i t' l hrow;refine aA (λhsz=>?_) (λ_=>af);split
     ·rename_i p q hp hq;refine aE λr hr=>av ?_;intro own g w a m hle hm hrep;obtain⟨c1,c2,c3,_⟩:=vR hr;rw[Ch hr]
      obtain⟨ptr,cap,ev,h5,h6⟩:=wd (qW hm (hle _ _ hrow) (bh (hx0 hrep h0))) (p:=p.toNat) (q:=q.toNat) (by omega) (by omega)
      rw[hsz]at h6
      exact⟨_,run ht rfl hte ev (hlo hrep hp) (hhi hrep hq) c1 c2 (by omega),.c (.im h6)⟩
     ·exact af
    ·exact af
   ·exact af
 ·exact af
theorem F8{v:Value}(h:v.oneCell'=true):v.cells = #[v]:=by
 cases v<;>first | rfl | simp[Value.oneCell']at h
theorem mz{d:Dat F}{v:Value}(h:Ma P g w d v)(hn:d.cells.all MJ.RO=true)(hne:0<d.cells.length) :
  v.cells.toList.length=d.cells.length∧(∀(k:Nat)(c:MJ F)(x:Value),d.cells[k]? = some c→v.cells.toList[k]? = some x→Mh g w c x)∧∀x∈v.cells.toList,x.oneCell'=true:=by
 cases d with
 | c x=>
  cases h with
  | c h=>
   have hx:x≠.any:=by rintro rfl;simp[Dat.cells,MJ.RO]at hn
   have h1:=h.oneCell hx;rw[F8 h1]
   refine⟨rfl,?_,by simpa using h1⟩
   intro k c y h2 h3
   cases k with
   | zero=>simp only[Dat.cells,PW,NJ]at h2 h3;subst h2 h3;exact h
   | succ k=>simp[Dat.cells]at h2
 | agg cs=>
  obtain⟨vs,rfl,hl,hr⟩:=oI h
  refine⟨by simpa[Value.cells,Dat.cells]using hl,by simpa[Value.cells,Dat.cells]using hr,?_⟩
  intro x hx;simp only[Value.cells]at hx;obtain⟨k,hk⟩:=XT hx
  have hlt:k<cs.length:=by rw[← hl];exact(K_.1 hk).1
  have hc:=hr k _ x (K9 hlt) hk;refine hc.oneCell ?_;intro e
  have:=Td.1 hn cs[k] (by simp[Dat.cells])
  rw[e]at this;simp[MJ.RO]at this
 | Pp ds=>simp[Dat.cells]at hne
 | RY fn fs cs=>simp[Dat.cells]at hne
 | gh id=>simp[Dat.cells]at hne
 | fv ks r φ=>simp[Dat.cells]at hne
theorem zD(off:Nat):∀(l:List Value)(i:Nat)(arr:List Value),off+i+l.length≤arr.length→
  (l.zipIdx i).foldl (λ(cs:Array Value)(p:Value×Nat)=>cs.setIfInBounds (off+p.2) p.1) ⟨arr⟩=⟨arr.take (off+i)++l++arr.drop (off+i+l.length)⟩
 | [],i,arr,_=>by simp
 | v::l,i,arr,h=>by
  simp only[List.zipIdx_cons,TG]
  have e:(⟨arr⟩:Array Value).setIfInBounds (off+i) v=⟨arr.set (off+i) v⟩:=by apply Array.ext';simp
  rw[e,zD off l (i+1) (arr.set (off+i) v) (by simp at h ⊢;omega)]
  congr 1
  have e2:=list_seg_step arr (off+i) v l (by simp at h;omega)
  simpa[UA]using e2
theorem EF(off:Nat)(v:Value)(arr:List Value)(h:off+v.cells.size≤arr.length) :
  v.cells.zipIdx.foldl (λ(cs:Array Value)(p:Value×Nat)=>cs.setIfInBounds (off+p.2) p.1) ⟨arr⟩=⟨arr.take off++v.cells.toList++arr.drop (off+v.cells.size)⟩:=by
 have:=zD off v.cells.toList 0 arr (by simpa using h)
 rw[← Array.foldl_toList];simpa using this
theorem BM{cs ds:List (MJ F)}{xs ys:List Value}{off:Nat}(hl:xs.length=cs.length)(hr:∀(k:Nat)(c:MJ F)(x:Value),cs[k]? = some c→xs[k]? = some x→Mh g w c x)
  (kl:ys.length=ds.length) (kr:∀(k:Nat)(c:MJ F)(x:Value),ds[k]? = some c→ys[k]? = some x→Mh g w c x) :
  (xs.take off++ys++xs.drop (off+ys.length)).length=(cs.take off++ds++cs.drop (off+ds.length)).length∧
  ∀(k:Nat)(c:MJ F)(x:Value),(cs.take off++ds++cs.drop (off+ds.length))[k]? = some c→(xs.take off++ys++xs.drop (off+ys.length))[k]? = some x→Mh g w c x:=by
 constructor
 ·simp[hl,kl]
 ·intro k c x h1 h2
  have e1:(xs.take off).length=(cs.take off).length:=by simp[hl]
  rw[P5]at h1 h2;by_cases hk:k<(cs.take off).length
  ·rw[Rv hk]at h1
   rw[Rv (by rw[e1];exact hk)]at h2
   rw[RG]at h1 h2;split at h1
   ·rename_i hk2;rw[if_pos hk2]at h2;exact hr k c x h1 h2
   ·cases h1
  ·rw[RF (by omega)]at h1
   rw[RF (by omega)]at h2
   rw[e1]at h2;by_cases hk2:k - (cs.take off).length<ds.length
   ·rw[Rv hk2]at h1
    rw[Rv (by rw[kl];exact hk2)]at h2
    exact kr _ c x h1 h2
   ·rw[RF (by omega)]at h1
    rw[RF (by omega)]at h2
    rw[SY]at h1 h2;rw[kl]at h2;exact hr _ c x h1 h2
theorem u5(place:Nat→Option (Nat×Nat)):∀(ps:List (Nat×Dat F)) (vs:List (Nat×Value)) (cs cs':List (MJ F)) (arr:List Value),lay place cs ps=some cs'→
  vs.map (·.1)=ps.map (·.1)→(∀(k:Nat)(d:Nat×Dat F)(x:Nat×Value),ps[k]? = some d→vs[k]? = some x→Ma P g w d.2 x.2)→
  arr.length=cs.length→(∀(k:Nat)(c:MJ F)(x:Value),cs[k]? = some c→arr[k]? = some x→Mh g w c x)→
  ∃arr':List Value,Instr.fill place ⟨arr⟩ vs=some ⟨arr'⟩∧arr'.length=cs'.length∧cs'.length=cs.length∧∀(k:Nat)(c:MJ F)(x:Value),cs'[k]? = some c→arr'[k]? = some x→Mh g w c x
 | [],vs,cs,cs',arr,h,hv,_,hl,hr=>by
  have:vs = []:=by simpa using hv
  subst this;simp only[lay,NJ]at h;subst h;exact⟨arr,rfl,hl,rfl,hr⟩
 | (i,d)::ps,vs,cs,cs',arr,h,hv,hd,hl,hr=>by
  match vs,hv with
  | (j,v)::vs,hv=>
   simp only[M9,QgN]at hv;obtain⟨rfl,hv2⟩:=hv;unfold lay at h
   cases hp:place j with
   | none=>rw[hp]at h;cases h
   | some q=>
    obtain⟨off,size⟩:=q;rw[hp]at h;dsimp only at h;split at h
    ·rename_i hc;simp only[Np,decide_eq_true_eq,R7]at hc;obtain⟨⟨⟨h1,h2⟩,h3⟩,h4⟩:=hc;have h2:=U4 h2;have hvd:=hd 0 (j,d) (j,v) rfl rfl
     obtain⟨c1,c2,c3⟩:=mz (d:=d) (v:=v) hvd h3 (by omega)
     have hsz:v.cells.size=size:=by rw[← Wt,c1,h1]
     have hle:off+size≤arr.length:=by omega
     have hseg:=BM (off:=off) hl hr c1 c2;have e1:v.cells.toList.length=v.cells.size:=Wt;rw[h1]at hseg;rw[e1,hsz]at hseg;obtain⟨arr',r1,r2,r3,r4⟩:=u5 place ps vs _ cs' (arr.take off++v.cells.toList++arr.drop (off+size)) h hv2 (λk d x a b=>hd (k+1) d x a b) hseg.1 hseg.2;refine⟨arr',?_,r2,?_,r4⟩
     ·unfold Instr.fill;rw[hp];dsimp only
      rw[if_neg (by simp[hsz];omega)]
      have:=EF off v arr (by omega)
      rw[hsz]at this;rw[this];exact r1
     ·rw[r3];simp[h1];omega
    ·cases h
theorem sE(hT:Mc P T):∀(fs:List Field)(pl:List (Nat×Nat)),qo T fs=some pl→fs.mapM (λf=>(P.info? f.type).map λi=>(f.offset,i.size))=some pl
 | [],pl,h=>by simp only[qo,NJ]at h;subst h;rfl
 | f::fs,pl,h=>by
  simp only[qo]at h;split at h
  ·cases h
  ·rename_i ti hti;split at h
   ·cases h
   ·rename_i r hr;cases h;obtain⟨j,hj,hs,_⟩:=hT.info _ _ hti;simp[List.mapM_cons,hj,hs,sE hT fs r hr]
theorem wJ(hT:Mc P T){t:TypeId}{ti:TI F}(ht:T t=some ti):∃(j:TypeInfo)(z:Value),P.info? t=some j∧j.zero=some z∧z.cells.toList.length=(ti.zero.map (MJ.im (F:=F))).length∧
  ∀(w:World)(g:G)(k:Nat)(c:MJ F) (x:Value),(ti.zero.map MJ.im)[k]? = some c→z.cells.toList[k]? = some x→Mh g w c x:=by
 obtain⟨j,hj,hs,hb,z,hz,hzs,hzl,hr⟩:=hT.info t ti ht
 refine⟨j,z,hj,hz,by rw[Wt,hzs,Py,hzl],?_⟩
 intro w g k c x h1 h2;obtain⟨d,hd,rfl⟩:=j6 h1
 exact .im (hr w g.Li k d x hd (by simpa using h2))
theorem tJ{a:Act}:∀(parts:List (Nat×Operand)) (vals:List (Dat F)),MF P g w vals (parts.map λp=>a.eval p.2)→
  (parts.map λ(i,x)=>(i,a.eval x)).map (·.1)=((parts.map (·.1)).zip vals).map (·.1)∧
  ∀(k:Nat)(d:Nat×Dat F)(x:Nat×Value),((parts.map (·.1)).zip vals)[k]? = some d→(parts.map λ(i,x)=>(i,a.eval x))[k]? = some x→Ma P g w d.2 x.2
 | [],vals,h=>by simp
 | p::l,vals,h=>by
  match vals,h with
  | [],h=>have:=h.1;simp at this
  | v::vals,h=>
   simp only[M9,aZ]at h;obtain⟨h1,h2⟩:=tJ l vals h.2
   refine⟨by simpa using h1,?_⟩
   intro k d x h3 h4
   cases k with
   | zero=>simp only[M9,List.zip_cons_cons,PW,NJ]at h3 h4;subst h3 h4;exact h.1
   | succ k=>simp only[M9,List.zip_cons_cons,QdK]at h3 h4;exact h2 k d x h3 h4
theorem Dj(hT:Mc P T){t:TypeId}{parts:Array (Nat×Operand)}(ho:o.op = .build t parts):Rule P o vals mm c K (Al T vals K t (parts.toList.map (·.1))):=by
 have fin:∀(place:Nat→Option (Nat×Nat)) (ti:TI F) (cs:List (MJ F)),T t=some ti→(∀cells vs z j,P.info? t=some j→j.zero=some z→Instr.fill place z.cells vs=some cells→P.built t vs=some cells)→
   lay place (ti.zero.map .im) ((parts.toList.map (·.1)).zip vals)=some cs→U0 P o vals mm (.agg cs):=by
  intro place ti cs hti hb hcs own g w a m hle hm hr;rw[ho]at hr
  have hr':MF P g w vals (parts.toList.map λp=>a.eval p.2):=by
   have:(Op.build t parts).operands.toList.map a.eval=parts.toList.map λp=>a.eval p.2:=by simp[Op.operands,Function.comp_def]
   rwa [this]at hr
  obtain⟨p1,p2⟩:=tJ parts.toList vals hr';obtain⟨j,z,hj,hz,hzl,hzr⟩:=wJ hT hti;obtain⟨arr,r1,r2,r3,r4⟩:=u5 (P:=P) (g:=g) (w:=w) place _ (parts.toList.map λ(i,x)=>(i,a.eval x)) _ cs z.cells.toList hcs p1 p2 hzl (hzr w g)
  have hbt:=hb ⟨arr⟩ (parts.map λ(i,x)=>(i,a.eval x)).toList z j hj hz (by simpa using r1)
  refine⟨.agg ⟨arr⟩,?_,.agg r2 r4⟩;simp only[execOp,ho,OA,run_build w t _ _ hbt,OM,PD]
 unfold Al;split
 ·rename_i fs sz bt zero _ _ ht;split
  ·exact af
  ·rename_i pl hpl;split
   ·exact af
   ·rename_i cs hcs;refine av (fin _ _ cs ht ?_ hcs);intro cells vs z j hj hz hf;have hu:=hT.und _ _ ht;simp only[Program.built,hj,hu,hz,sE hT _ _ hpl];simpa using hf
 ·rename_i n e' sz bt zero _ _ ht;split
  ·exact af
  ·rename_i te hte;split
   ·exact af
   ·rename_i cs hcs;refine av (fin _ _ cs ht ?_ hcs);intro cells vs z j hj hz hf;have hu:=hT.und _ _ ht;obtain⟨j',hj',hs',_⟩:=hT.info _ _ hte;simp only[Program.built,hj,hu,hz,hj',hs'];exact hf
 ·exact af
end
end Go.Fx
