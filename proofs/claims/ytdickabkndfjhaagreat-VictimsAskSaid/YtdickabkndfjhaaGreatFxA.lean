/-
  The framework, first part: what is known of a frame as typed data;that each operation that makes no call does what the evaluator says. Conditions: none.
-/
import Derived.Calls
import Derived.Orders
import Derived.Below
import Derived.Laws.MakeOwn
import Derived.Laws.Rows
import Derived.Laws.CopyRow
import Derived.Laws.CopyOwn
import Derived.Tactics
import Derived.KernelRfl
import Derived.Laws.StructEq
import Derived.Laws.Strings
import Derived.Laws.BytesString
namespace Go.Fx
open Go
set_option linter.unusedVariables false
set_option linter.unusedSimpArgs false
abbrev Ng:=@Bool.and_eq_true
abbrev Nq:=@List.getElem_mem
abbrev MO:=@Nat.le_refl
abbrev NI:=@Option.some.injEq
abbrev Nr:=@List.map_cons
abbrev Ra:=@List.take_succ_eq_append_getElem
abbrev NH:=@List.mem_cons
abbrev N_:=@List.mem_append
abbrev Ox:=@List.length_take
abbrev OO:=@Result.andThen_ok
abbrev RD:=@List.getElem?_append_right
abbrev Ru:=@List.getElem?_append_left
abbrev Rh:=@List.getElem?_cons_zero
abbrev Q_:=@Nat.eq_of_beq_eq_true
abbrev Oj:=@List.map_nil
abbrev Ro:=@Nat.mul_le_mul_right
abbrev PS:=@List.append_assoc
abbrev OB:=@Sem.run_bind
abbrev PI:=@List.length_map
abbrev P5:=@List.length_cons
abbrev TQ:=@List.eq_nil_of_length_eq_zero
abbrev Rf:=@List.getElem?_map
abbrev OY:=@Nat.zero_add
abbrev PX:=@List.nil_append
abbrev RF:=@List.getElem?_take
abbrev R3:=@Bool.false_eq_true
abbrev Rn:=@List.length_drop
abbrev PG:=@Bool.not_true
abbrev RB:=@List.take_length
abbrev PL:=@Sem.run_pure
abbrev UM:=@Array.getD_eq_getD_getElem?
abbrev SY:=@List.pairwise_cons
abbrev P6:=@Nat.le_trans
abbrev Tc:=@List.getElem?_drop
abbrev TP:=@List.length_filter_le
abbrev RA:=@List.mem_map
abbrev Ws:=@Array.getElem?_eq_some_iff
abbrev Tg:=@List.all_eq_true
abbrev TG:=@Int.toNat_natCast
abbrev Ta:=@List.mem_filter
abbrev Wq:=@List.drop_eq_getElem_cons
abbrev Va:=@Nat.le_of_ble_eq_true
abbrev U_:=@List.mem_cons_of_mem
abbrev UL:=@List.getElem_of_mem
abbrev UK:=@Nat.lt_of_lt_of_le
abbrev Wp:=@Option.map_eq_some_iff
abbrev TN:=@List.foldl_cons
abbrev UJ:=@Bool.not_eq_true'
abbrev R6:=@Nat.blt_eq
abbrev WC:=@List.take_of_length_le
abbrev UH:=@List.cons_append
abbrev Uo:=@List.map_append
abbrev Un:=@List.nodup_cons
abbrev UG:=@Bool.or_eq_true
abbrev Wx:=@List.mem_of_getElem?
abbrev Xe:=@List.take_append_drop
abbrev WA:=@Array.length_toList
abbrev TM:=@Nat.succ_mul
abbrev UF:=@Nat.add_assoc
abbrev Ye:=@List.getElem?_of_mem
abbrev YI:=@List.contains_iff_mem
abbrev Wz:=@Option.getD_some
abbrev Wo:=@List.append_nil
abbrev Xd:=@List.nodup_append
abbrev VD:=@Option.none_or
abbrev Um:=@Nat.add_mul
abbrev QcL:=@Option.bind_eq_some_iff
abbrev U9:=@Nat.add_zero
abbrev QcN:=@Array.getElem?_setIfInBounds
abbrev Xc:=@List.filter_cons
abbrev Yd:=@Nat.le_succ_of_le
abbrev YT:=@Bool.or_eq_false_iff
abbrev Xb:=@List.length_nil
abbrev QcS:=@List.mem_append_right
abbrev QcT:=@List.length_singleton
abbrev Wy:=@Bool.not_false
abbrev Wn:=@List.sum_cons
abbrev QcW:=@List.mem_append_left
abbrev QcX:=@List.pairwise_append
abbrev YS:=@List.mem_cons_self
abbrev YR:=@List.filter_append
abbrev Ya:=@Option.map_some
abbrev Yc:=@List.length_set
abbrev Yb:=@Bool.eq_iff_iff
abbrev QdC:=@List.filter_sublist
abbrev QdD:=@List.perm_append_comm
abbrev YQ:=@List.flatten_cons
abbrev YP:=@List.getElem_zip
abbrev QdG:=@List.map_congr_left
abbrev QdH:=@List.length_reverse
abbrev QdI:=@Option.isSome_iff_exists
abbrev QdJ:=@List.find?_eq_none
abbrev QdK:=@List.getElem?_cons_succ
abbrev QdL:=@List.drop_length
abbrev QdM:=@List.mem_of_mem_take
abbrev YH:=@Bool.true_and
abbrev QdO:=@List.takeWhile_cons_of_neg
abbrev QdP:=@List.takeWhile_cons_of_pos
abbrev QdQ:=@List.dropWhile_cons_of_pos
abbrev QdR:=@List.takeWhile_append_dropWhile
abbrev QdS:=@List.filter_eq_nil_iff
abbrev QdT:=@Array.getElem?_toList
abbrev QdU:=@Bool.not_eq_false'
abbrev QdV:=@Nat.pow_le_pow_right
abbrev QdW:=@List.filter_cons_of_neg
abbrev QdX:=@List.mem_map_of_mem
abbrev YO:=@Nat.beq_refl
abbrev YG:=@Int.le_refl
abbrev Qe_:=@List.dropWhile_cons_of_neg
abbrev QeA:=@Int.tdiv_eq_ediv_of_nonneg
abbrev QeB:=@List.nodup_nil
abbrev QeC:=@List.drop_zero
abbrev QeD:=@List.Perm.append_left
abbrev QeE:=@List.Pairwise.of_cons
abbrev QeF:=@Array.getElem?_eq_getElem
abbrev QeG:=@List.mem_of_find?_eq_some
abbrev QeH:=@List.pairwise_iff_getElem
abbrev QeI:=@List.ext_getElem?
abbrev QeJ:=@List.all_cons
abbrev QeK:=@Array.toList_append
abbrev QeL:=@Nat.add_sub_cancel'
abbrev QeM:=@List.reverse_append
abbrev QeN:=@List.filter_eq_self
abbrev QeO:=@Nat.mul_le_mul
abbrev QeP:=@List.getElem_map
abbrev QeQ:=@Nat.zero_le
abbrev QeR:=@List.length_pos_of_mem
abbrev QeS:=@Nat.mul_min_mul_right
abbrev QeT:=@Bool.and_eq_false_iff
abbrev QeU:=@List.getElem?_eq_none
abbrev QeV:=@List.dropWhile_suffix
abbrev QeW:=@List.length_zip
abbrev QeX:=@Array.getElem?_append_left
abbrev QeY:=@List.range_eq_range'
abbrev QeZ:=@List.mem_or_eq_of_mem_set
abbrev Qf_:=@List.getElem_append_right
abbrev QfA:=@List.map_id
abbrev QfB:=@Nat.add_comm
abbrev QfC:=@List.not_mem_nil
abbrev QfD:=@Nat.le_of_eq
abbrev QfE:=@Bool.eq_false_or_eq_true
abbrev QfF:=@List.any_eq_true
abbrev QfG:=@List.getElem_append_left
abbrev QfH:=@Nat.min_self
abbrev QfI:=@List.prefix_of_prefix_length_le
abbrev QfJ:=@Nat.add_sub_cancel_left
abbrev QfK:=@List.filter_cons_of_pos
abbrev QfL:=@List.length_eq_zero_iff
abbrev QfM:=@Bool.false_or
abbrev QfN:=@Array.eq_empty_of_size_eq_zero
abbrev QfO:=@Nat.min_eq_left
abbrev QfP:=@List.set_cons_zero
abbrev QfQ:=@List.prefix_append
abbrev QfR:=@Nat.le_succ
abbrev QfS:=@List.take_append_of_le_length
abbrev QfT:=@List.pairwise_map
abbrev QfU:=@List.flatMap_cons
abbrev QfV:=@List.foldl_append
abbrev QfW:=@List.find?_append
abbrev QfX:=@List.singleton_append
abbrev QfY:=@List.drop_drop
abbrev QfZ:=@List.mem_range
abbrev Qg_:=@Int.toNat_zero
abbrev QgA:=@List.set_append_right
abbrev QgB:=@List.mem_of_mem_drop
abbrev QgC:=@List.map_toArray
abbrev QgD:=@List.isEmpty_iff
abbrev QgE:=@List.mem_reverse
abbrev QgF:=@Bool.and_true
abbrev QgG:=@List.isPrefixOf_iff_prefix
abbrev QgH:=@List.getElem?_range
abbrev QgI:=@Int.toNat_of_nonneg
abbrev QgJ:=@List.replicate_succ
abbrev QgK:=@List.length_pos_iff
abbrev QgL:=@List.cons.injEq
abbrev QgM:=@List.find?_some
abbrev QgN:=@List.length_erase_of_mem
abbrev QgO:=@List.filter_filter
abbrev QgP:=@Array.size_setIfInBounds
abbrev QgQ:=@List.head?_dropWhile_not
abbrev QgR:=@Int.add_zero
abbrev QgS:=@Nat.lt_of_le_of_lt
abbrev QgT:=@List.count_append
abbrev QgU:=@List.Perm.append_right
abbrev QgV:=@List.find?_cons_of_pos
abbrev QgW:=@List.getElem_cons_zero
abbrev QgX:=@Bool.or_false
abbrev QgY:=@List.countP_cons
abbrev QgZ:=@List.nodup_range
abbrev Qh_:=@Nat.lt_succ_self
abbrev QhA:=@List.mem_flatMap
theorem K_.{u, v} {α : Type u} {β : Type v} (a:α) (f:α→Option β):(some a).bind f=f a:= rfl
theorem La.{u} {α : Type u} {l:List α} {i:Nat} (h:i<l.length):l[i]? = some l[i]:= List.getElem?_eq_getElem h
theorem Lb.{u} {α : Type u} {l:List α} {i:Nat} {a:α}:l[i]? = some a↔∃h:i<l.length, l[i]=a:= List.getElem?_eq_some_iff
theorem Lc.{u} {α : Type u} {as bs:List α}:(as++bs).length=as.length+bs.length:= List.length_append
theorem Ld.{u} {α : Type u} {a b:α}:a∈[b]↔a=b:= List.mem_singleton
inductive Ty where
 | int (k:IntKind)
 | bool
 | str
 | slice (t:Ty)
 | st (n:Nat)
 deriving DecidableEq
def Ty.Nz:Ty→Bool
 | .st n=>Nat.ble 500 n
 | _=>false
def Ty.Wv:Ty→Bool
 | .st n=>Nat.beq (n % 2) 1
 | _=>false
@[reducible] def El(S:Nat→Type):Ty→Type
 | .int _=>Int
 | .bool=>Bool
 | .str=>List UInt8
 | .slice t=>List (El S t)
 | .st n=>S n
inductive TH(S:Nat→Type) where
 | i (k:IntKind) (n:Int)
 | b (x:Bool)
 | s (l:List UInt8)
 | nl
 | sl (t:Ty) (l:List (El S t))
 | v (x:Value)
@[reducible] def R9(S:Nat→Type):List Ty→Type
 | []=>Unit
 | t::r=>El S t×R9 S r
structure Fam where
 S:Nat→Type
 fs:Nat→List Ty
 un:(n:Nat)→S n→R9 S (fs n)
 up:(n:Nat)→R9 S (fs n)→S n
 um:∀n a,un n (up n a)=a
abbrev ND(F:Fam):=TH F.S
abbrev ET(F:Fam)(t:Ty):=El F.S t
abbrev M7(F:Fam)(ts:List Ty):=R9 F.S ts
def enc1(F:Fam):(t:Ty)→ET F t→ND F
 | .int k,n=>.i k n
 | .bool,x=>.b x
 | .str,l=>.s l
 | .slice t,l=>.sl t l
 | .st _,_=>.nl
def Vl(F:Fam):(t:Ty)→ND F→Option (ET F t)
 | .int k,.i k' n=>if k'=k then some n else none
 | .bool,.b x=>some x
 | .str,.s l=>some l
 | .slice t,.sl t' l=>if h:t'=t then some (h▸l)else none
 | .slice t,.nl=>cond t.Nz none (some [])
 | _,_=>none
def OW(F:Fam):(ts:List Ty)→M7 F ts→List (ND F)
 | [],_=>[]
 | t::r,a=>enc1 F t a.1::OW F r a.2
def Vk(F:Fam):(ts:List Ty)→List (ND F)→Option (M7 F ts)
 | [],[]=>some ()
 | t::r,c::cs=>match Vl F t c with
  | none=>none
  | some x=>match Vk F r cs with
   | none=>none
   | some y=>some (x,y)
 | _,_=>none
def LZ(F:Fam):(t:Ty)→ET F t→List (ND F)
 | .st n,x=>OW F (F.fs n) (F.un n x)
 | .int k,n=>[.i k n]
 | .bool,x=>[.b x]
 | .str,l=>[.s l]
 | .slice t,l=>[.sl t l]
def LV(F:Fam):Ty→Nat
 | .st n=>(F.fs n).length
 | _=>1
def Ty.OU:Ty→Bool
 | .st _=>true
 | _=>false
def O7(F:Fam):(t:Ty)→List (ND F)→Option (ET F t)
 | .st n,cs=>match Vk F (F.fs n) cs with
  | none=>none
  | some a=>some (F.up n a)
 | .int k,[c]=>Vl F (.int k) c
 | .bool,[c]=>Vl F .bool c
 | .str,[c]=>Vl F .str c
 | .slice t,[c]=>Vl F (.slice t) c
 | _,_=>none
inductive Vb{S:Nat→Type}:TH S→TH S→Prop where
 | refl (d:TH S):Vb d d
 | nl (t:Ty) (h:t.Nz=false):Vb .nl (.sl t [])
def Tt{S:Nat→Type}(cs ds:List (TH S)):Prop:=cs.length=ds.length∧∀(k:Nat)(c d:TH S),cs[k]? = some c→ds[k]? = some d→Vb c d
theorem AZ(F:Fam):∀(ts:List Ty)(a:M7 F ts),(OW F ts a).length=ts.length
 | [],_=>rfl
 | t::r,a=>by simp[OW,AZ F r a.2]
theorem bC(F:Fam)(t:Ty)(x:ET F t):(LZ F t x).length=LV F t:=by
 cases t<;>simp[LZ,LV,AZ]
theorem qL(F:Fam){t:Ty}{c:ND F}{x:ET F t}(h:Vl F t c=some x):Vb c (enc1 F t x):=by
 unfold Vl at h;split at h
 ·split at h
  ·rename_i hk;cases h;subst hk;exact .refl _
  ·cases h
 ·cases h;exact .refl _
 ·cases h;exact .refl _
 ·split at h
  ·rename_i hk;cases h;subst hk;exact .refl _
  ·cases h
 ·rename_i t
  cases ht:t.Nz with
  | true=>rw[ht]at h;cases h
  | false=>rw[ht]at h;cases h;exact .nl _ ht
 ·cases h
theorem zx(F:Fam):∀{ts:List Ty}{cs:List (ND F)} {a:M7 F ts},Vk F ts cs=some a→Tt cs (OW F ts a)
 | [],cs,a,h=>by
  cases cs with
  | nil=>exact⟨rfl,by simp⟩
  | cons c cs=>simp[Vk]at h
 | t::r,cs,a,h=>by
  cases cs with
  | nil=>simp[Vk]at h
  | cons c cs=>
   simp only[Vk]at h;split at h
   ·cases h
   ·rename_i x hx;split at h
    ·cases h
    ·rename_i y hy;cases h;obtain⟨h1,h2⟩:=zx F hy
     refine⟨by simp[OW,h1],?_⟩
     intro k c' d' hc hd
     cases k with
     | zero=>simp only[OW,Rh,NI]at hc hd;subst hc;subst hd;exact qL F hx
     | succ k=>simp only[OW,QdK]at hc hd;exact h2 k c' d' hc hd
theorem vc{S:Nat→Type}{c d:TH S}(h:Vb c d):Tt [c] [d]:=by
 refine⟨rfl,?_⟩;intro k c' d' hc hd
 cases k with
 | zero=>simp only[Rh,NI]at hc hd;subst hc;subst hd;exact h
 | succ k=>simp at hc
theorem cK(F:Fam){t:Ty}{cs:List (ND F)}{x:ET F t}(h:O7 F t cs=some x):Tt cs (LZ F t x):=by
 unfold O7 at h;split at h
 ·split at h
  ·cases h
  ·rename_i a ha;cases h;simp only[LZ,F.um];exact zx F ha
 ·exact vc (qL F h)
 ·exact vc (qL F h)
 ·exact vc (qL F h)
 ·exact vc (qL F h)
 ·cases h
def cells(F:Fam)(t:Ty)(l:List (ET F t)):List (ND F):=(l.map (LZ F t)).flatten
inductive Md{F:Fam}(w:World)(Lj:Nat→Prop):ND F→Value→Prop where
 | i (k:IntKind) (n:Int):Md w Lj (.i k n) (.int k n)
 | b (x:Bool):Md w Lj (.b x) (.bool x)
 | s (l:List UInt8):Md w Lj (.s l) (.string ⟨⟨l⟩⟩)
 | nl (p:Option Addr):Md w Lj .nl (.slice p 0 0)
 | v (x:Value) (h:x.oneCell'=true):Md w Lj (.v x) x
 | sl0 (t:Ty) (p:Option Addr):Md w Lj (.sl t []) (.slice p 0 0)
 | sl (t:Ty) (l:List (ET F t)) (b o cap:Nat) (f:Nat→Value) (hb:Lj b) (hcap:l.length≤cap) (hm:cap≤maxLen)
   (hc:∀k d,(cells F t l)[k]? = some d→w.cell? ⟨b,o+k,none⟩=some (f k))
   (hr:∀k d,(cells F t l)[k]? = some d→Md w Lj d (f k)) :
   Md w Lj (.sl t l) (.slice (some ⟨b,o,none⟩) l.length cap)
theorem Nf{w w':World}{a:Addr}(h:w'.heap[a.block]? = w.heap[a.block]?):w'.cell? a=w.cell? a:=by simp[World.cell?,h]
section
variable{F:Fam}
theorem Md.mono{w w':World}{Lj LU:Nat→Prop}(hi:∀b,Lj b→LU b)(hw:∀b,Lj b→w'.heap[b]? = w.heap[b]?)
  {d:ND F} {x:Value} (h:Md w Lj d x):Md w' LU d x:=by
 induction h with
 | i=>exact .i _ _
 | b=>exact .b _
 | s=>exact .s _
 | nl=>exact .nl _
 | v x h=>exact .v x h
 | sl0=>exact .sl0 _ _
 | sl t l b o cap f hb hcap hm hc hr ih=>
  exact .sl t l b o cap f (hi b hb) hcap hm (λk d hk=>by rw[Nf (hw b hb)];exact hc k d hk) ih
theorem Md.X8{w:World}{Lj:Nat→Prop}{d d':ND F}{x:Value}(hl:Vb d d')(h:Md w Lj d x):Md w Lj d' x:=by
 cases hl with
 | refl=>exact h
 | nl t ht=>cases h with | nl p=>exact .sl0 t p
theorem Md.oneCell{w:World}{Lj:Nat→Prop}{d:ND F}{x:Value}(h:Md w Lj d x):x.oneCell'=true:=by
 cases h<;>first | rfl | assumption
def TH.flat:TH F.S→Bool
 | .i _ _ | .b _ | .s _ | .v _=>true
 | _=>false
theorem Md.flat{w w':World}{Lj LU:Nat→Prop}{d:ND F}{x:Value}(hf:d.flat=true)(h:Md w Lj d x):Md w' LU d x:=by
 cases h with
 | i=>exact .i _ _
 | b=>exact .b _
 | s=>exact .s _
 | v x h=>exact .v x h
 | _=>simp[TH.flat]at hf
def SQ(F:Fam):(ts:List Ty)→M7 F ts→List (List (ND F)×Bool)
 | [],_=>[]
 | t::r,x=>(LZ F t x.1,t.OU)::SQ F r x.2
inductive Pw(w:World)(Lj:Nat→Prop):List (ND F)×Bool→Value→Prop where
 | one {d:ND F} {v:Value} (h:Md w Lj d v):Pw w Lj ([d],false) v
 | agg {cs:List (ND F)} {vs:List Value} (hl:vs.length=cs.length) (h:∀(k:Nat)(c:ND F)(x:Value),cs[k]? = some c→vs[k]? = some x→Md w Lj c x):Pw w Lj (cs,true) (.agg ⟨vs⟩)
theorem Pw.mono{w w':World}{Lj LU:Nat→Prop}(hi:∀b,Lj b→LU b)(hw:∀b,Lj b→w'.heap[b]? = w.heap[b]?)
  {d:List (ND F)×Bool} {x:Value} (h:Pw w Lj d x):Pw w' LU d x:=by
 cases h with
 | one h=>exact .one (h.mono hi hw)
 | agg hl h=>exact .agg hl (λk c x a b=>(h k c x a b).mono hi hw)
def U6(w:World)(Lj:Nat→Prop)(ds:List (List (ND F)×Bool))(vs:List Value):Prop:=
 vs.length=ds.length∧∀(k:Nat)(d:List (ND F)×Bool) (x:Value),ds[k]? = some d→vs[k]? = some x→Pw w Lj d x
def jM (P : Program) (f : FuncId) : Prop:=∃ fn,P.funcs[f]? = some fn ∧ (fn.name == "runtime.NumGoroutine") = false ∧ fn.body.isNone = false
def Vm(P:Program)(F:Fam)(w:World)(Lj:Nat→Prop)(ks:List Ty)(r:Ty)(φ : M7 F ks→Option (ET F r))(v:Value):Prop:=
 ∃fid bound captured,v = .func (.func fid) ⟨bound⟩ ⟨captured⟩∧(bound = []∨ks.length=1)∧jM P fid∧
  ∀(w':World)(LU:Nat→Prop),(∀b,Lj b→LU b∧w'.heap[b]? = w.heap[b]?)→(∀b,LU b→b<w'.heap.size)→∀a x vs,φ a=some x→U6 w' LU (SQ F ks a) vs→
   Calls P fid ⟨bound++vs++captured⟩ w' λe w''=>∃v,e = .returned v∧RowKit.Below w'.heap.size w' w''∧Pw w'' LU (LZ F r x,r.OU) v∧w'.drawn≤w''.drawn
inductive MK(F:Fam) where
 | im (d:ND F)
 | pt (cs:List (ND F)) (off:Nat)
 | ptr (id off:Nat)
 | OX (id sz i off:Nat)
 | Nl (id:Nat)
 | Rz (id sz off len:Nat)
 | TB (id sz i off:Nat)
 | Uj (id sz i off sz' j off':Nat)
 | TF (id n:Nat)
 | Sz (id:Nat)
 | UE (cs:List (ND F))
 | ln (d:ND F)
 | Yz (cs:List (ND F)) (off:Nat)
 | any
 | one
abbrev NS:=List (Option (Nat×Nat×Nat))
def MP:NS→List Nat
 | []=>[]
 | some (b,_)::l=>b::MP l
 | none::l=>MP l
abbrev Pl:=Option (Nat×Nat×Nat×NS)
structure G where
 ids:Nat→Option Pl
 Lj:Nat→Prop
 len:Nat→Prop
abbrev G.al(g:G)(b:Nat):Prop:=g.Lj b∨g.len b
def G.blk(g:G)(id b:Nat):Prop:=∃b0 c,g.ids id=some (some (b0,c))∧b∈b0::MP c.2.2
theorem G.MI{g:G}{id b:Nat}{c:Nat×Nat×NS}(h:g.ids id=some (some (b,c))):g.blk id b:=⟨b,c,h,YS⟩
theorem G.SV{g:G}{id b b':Nat}{x y:Nat}(h:g.ids id=some (some (b,x,y,[])))(hb:g.blk id b'):b'=b:=by obtain⟨b0,c,h1,h2⟩:=hb;rw[h]at h1;cases h1;simpa[MP]using h2
theorem G.Vp{g:G}{id b':Nat}(h:g.ids id=some none)(hb:g.blk id b'):False:=by obtain⟨b0,c,h1,h2⟩:=hb;rw[h]at h1;cases h1
def dD(w:World)(Lj:Nat→Prop)(t:Ty)(l:List (ET F t)):Pl→Prop
 | none=>l = []
 | some (b,cap,n)=>n=(l.length,[])∧l.length≤cap∧cap≤maxLen∧∃cur e,w.heap[b]? = some (.cells ⟨cur⟩ e (0,0))∧cur.length=cap*LV F t∧
   ∀(k:Nat)(d:ND F)(x:Value),(cells F t l)[k]? = some d→cur[k]? = some x→Md w Lj d x
def Oo:Pl→Value→Prop
 | none,v=>∃p,v = .slice p 0 0
 | some (b,cap,n),v=>v = .slice (some ⟨b,0,none⟩) n.1 cap
def Nv:Option (Nat×Nat×Nat)→Pl
 | none=>none
 | some (b,cap,n)=>some (b,cap,n,[])
def Oz(w:World)(Lj:Nat→Prop):ND F→Value→Option (Nat×Nat×Nat)→Prop
 | .sl t l,x,pl=>dD w Lj t l (Nv pl)∧Oo (Nv pl) x
 | d,x,pl=>pl=none∧d.flat=true∧Md w Lj d x
def P8(w:World)(Lj:Nat→Prop)(t:Ty)(l:List (ET F t)):Pl→Prop
 | none=>l = []
 | some (b,cap,n)=>n.1=l.length∧l.length≤cap∧cap≤maxLen∧n.2.length=(cells F t l).length∧(b::MP n.2).Nodup∧∃cur e,w.heap[b]? = some (.cells ⟨cur⟩ e (0,0))∧cur.length=cap*LV F t∧
   ∀(k:Nat)(d:ND F)(x:Value)(pl:Option (Nat×Nat×Nat)),(cells F t l)[k]? = some d→cur[k]? = some x→n.2[k]? = some pl→Oz w Lj d x pl
def MapAt(w:World)(Lj:Nat→Prop)(t:Ty)(l:List (ET F t))(b:Nat):Prop:=
 ∃es:List MapEntry,w.heap[b]? = some (.map ⟨es⟩ es.length)∧es.length=l.length∧
  ∀(k:Nat)(x:ET F t)(e:MapEntry),l[k]? = some x→es[k]? = some e→e.born=k∧∃kd Rk,LZ F t x=kd::Rk∧Md w Lj kd e.key∧Pw w Lj (Rk,t.Wv) e.val
def OD(w:World)(Lj:Nat→Prop)(t:Ty)(l:List (ET F t))(pl:Pl):Prop:=
 if t.Nz=true then∃b,pl=some (b,0,0,[])∧MapAt w Lj t l b else dD w Lj t l pl
def Ug(t:Ty)(pl:Pl)(v:Value):Prop:=
 if t.Nz=true then∃b,pl=some (b,0,0,[])∧v = .map (some b)else Oo pl v
theorem kc{b:Nat}{c:Nat×Nat}:∀{ns:NS}{k:Nat},ns[k]? = some (some (b,c))→b∈MP ns
 | [],k,h=>by simp at h
 | q::ns,0,h=>by simp at h;subst h;simp[MP]
 | q::ns,k+1,h=>by
  have:=kc (ns:=ns) (k:=k) (by simpa using h)
  cases q with
  | none=>exact this
  | some q=>exact U_ _ this
inductive Mj(g:G)(w:World):MK F→Value→Prop where
 | im {d:ND F} {x:Value} (h:Md w g.Lj d x):Mj g w (.im d) x
 | pt (cs:List (ND F)) (off b o:Nat) (f:Nat→Value) (hb:g.Lj b)
   (hc:∀k d,cs[k]? = some d→w.cell? ⟨b,o+k,none⟩=some (f k))
   (hr:∀k d,cs[k]? = some d→Md w g.Lj d (f k)) :
   Mj g w (.pt cs off) (.pointer (some ⟨b,o+off,none⟩))
 | ptr {id off b:Nat} {c:Nat×Nat×NS} (h:g.ids id=some (some (b,c))):Mj g w (.ptr id off) (.pointer (some ⟨b,off,none⟩))
 | OX {id sz i off b:Nat} {c:Nat×Nat×NS} (h:g.ids id=some (some (b,c))):Mj g w (.OX id sz i off) (.pointer (some ⟨b,i*sz+off,none⟩))
 | PN {id:Nat} (p:Option Addr) (h:g.ids id=some none):Mj g w (.Nl id) (.slice p 0 0)
 | Nl {id b c:Nat} {n:Nat×NS} (h:g.ids id=some (some (b,c,n))) (hl:n.1≤c) (hm:c≤maxLen):Mj g w (.Nl id) (.slice (some ⟨b,0,none⟩) n.1 c)
 | Tx {id sz:Nat} (p:Option Addr) (h:g.ids id=some none):Mj g w (.Rz id sz 0 0) (.slice p 0 0)
 | Rz {id sz off len b c o:Nat} {n:Nat×NS} (h:g.ids id=some (some (b,c,n))) (hl:off+len≤n.1) (hn:n.1≤c) (ho:(off=c∧0<c)∨o=off*sz) (hm:c≤maxLen):Mj g w (.Rz id sz off len) (.slice (some ⟨b,o,none⟩) len (c - off))
 | TB {id sz i off b c:Nat} {n:Nat×NS} {pl:Option (Nat×Nat×Nat)} {v:Value} (h:g.ids id=some (some (b,c,n))) (hk:n.2[i*sz+off]? = some pl) (hv:Oo (Nv pl) v):Mj g w (.TB id sz i off) v
 | Uj {id sz i off sz' j off' b c b':Nat} {c':Nat×Nat} {n:Nat×NS} (h:g.ids id=some (some (b,c,n))) (hk:n.2[i*sz+off]? = some (some (b',c'))):Mj g w (.Uj id sz i off sz' j off') (.pointer (some ⟨b',j*sz'+off',none⟩))
 | TF {id n b:Nat} {c:Nat×Nat×NS} (h:g.ids id=some (some (b,c))) (hm:n≤maxLen):Mj g w (.TF id n) (.slice (some ⟨b,0,none⟩) n n)
 | Sz {id b:Nat} {c:Nat×Nat×NS} (h:g.ids id=some (some (b,c))):Mj g w (.Sz id) (.map (some b))
 | UE (cs:List (ND F)) (b o b2 o2:Nat) (f:Nat→Value) (hb:g.Lj b) (hv:w.cell? ⟨b,o,none⟩=some (.pointer (some ⟨b2,o2,none⟩))) (hb2:g.Lj b2)
   (hc:∀k d,cs[k]? = some d→w.cell? ⟨b2,o2+k,none⟩=some (f k))
   (hr:∀k d,cs[k]? = some d→Md w g.Lj d (f k)) :
   Mj g w (.UE cs) (.pointer (some ⟨b,o,none⟩))
 | ln {d:ND F} {x:Value} (h:Md w g.al d x):Mj g w (.ln d) x
 | Yz (cs:List (ND F)) (off b o:Nat) (f:Nat→Value) (hb:g.al b)
   (hc:∀k d,cs[k]? = some d→w.cell? ⟨b,o+k,none⟩=some (f k))
   (hr:∀k d,cs[k]? = some d→Md w g.al d (f k)) :
   Mj g w (.Yz cs off) (.pointer (some ⟨b,o+off,none⟩))
 | any {x:Value}:Mj g w .any x
 | one {x:Value} (h:x.oneCell'=true):Mj g w .one x
structure Le(g:G)(w:World)(g':G)(w':World):Prop where
 ids:∀id r,g.ids id=some r→g'.ids id=some r
 Lj:∀b,g.Lj b→g'.Lj b
 heap:∀b,g.Lj b→w'.heap[b]? = w.heap[b]?
 len:∀b,g.len b→g'.len b
 Xw:∀b,g.len b→w'.heap[b]? = w.heap[b]?
theorem Le.refl(g:G)(w:World):Le g w g w:=⟨λ_ _ h=>h,λ_ h=>h,λ_ _=>rfl,λ_ h=>h,λ_ _=>rfl⟩
theorem Le.trans{g g' g'':G}{w w' w'':World}(h:Le g w g' w')(k:Le g' w' g'' w''):Le g w g'' w'':=
 ⟨λ_ _ x=>k.ids _ _ (h.ids _ _ x),λ_ x=>k.Lj _ (h.Lj _ x),λb x=>(k.heap b (h.Lj b x)).trans (h.heap b x),λ_ x=>k.len _ (h.len _ x),λb x=>(k.Xw b (h.len b x)).trans (h.Xw b x)⟩
theorem Le.al{g g':G}{w w':World}(hl:Le g w g' w'){b:Nat}(h:g.al b):g'.al b:=h.imp (hl.Lj b) (hl.len b)
theorem Le.acs{g g':G}{w w':World}(hl:Le g w g' w'){b:Nat}(h:g.al b):w'.heap[b]? = w.heap[b]?:=h.elim (hl.heap b) (hl.Xw b)
theorem Md.leL{g g':G}{w w':World}(hl:Le g w g' w'){d:ND F}{x:Value}(h:Md w g.al d x):Md w' g'.al d x:=
 h.mono (λ_=>hl.al) (λ_=>hl.acs)
theorem Md.le{g g':G}{w w':World}(hl:Le g w g' w'){d:ND F}{x:Value}(h:Md w g.Lj d x):Md w' g'.Lj d x:=
 h.mono hl.Lj hl.heap
theorem Mj.le{g g':G}{w w':World}(hl:Le g w g' w'){c:MK F}{x:Value}(h:Mj g w c x):Mj g' w' c x:=by
 cases h with
 | im h=>exact .im (h.le hl)
 | pt cs off b o f hb hc hr=>
  exact .pt cs off b o f (hl.Lj b hb) (λk d hk=>by rw[Nf (hl.heap b hb)];exact hc k d hk) (λk d hk=>(hr k d hk).le hl)
 | ptr h=>exact .ptr (hl.ids _ _ h)
 | OX h=>exact .OX (hl.ids _ _ h)
 | PN p h=>exact .PN p (hl.ids _ _ h)
 | Nl h h1 h2=>exact .Nl (hl.ids _ _ h) h1 h2
 | Tx p h=>exact .Tx p (hl.ids _ _ h)
 | Rz h h1 h2 h3 h4=>exact .Rz (hl.ids _ _ h) h1 h2 h3 h4
 | TB h h1 h2=>exact .TB (hl.ids _ _ h) h1 h2
 | Uj h h1=>exact .Uj (hl.ids _ _ h) h1
 | TF h hm=>exact .TF (hl.ids _ _ h) hm
 | Sz h=>exact .Sz (hl.ids _ _ h)
 | UE cs b o b2 o2 f hb hv hb2 hc hr=>
  exact .UE cs b o b2 o2 f (hl.Lj b hb) (by rw[Nf (hl.heap b hb)];exact hv) (hl.Lj b2 hb2) (λk d hk=>by rw[Nf (hl.heap b2 hb2)];exact hc k d hk) (λk d hk=>(hr k d hk).le hl)
 | ln h=>exact .ln (h.leL hl)
 | Yz cs off b o f hb hc hr=>
  exact .Yz cs off b o f (hl.al hb) (λk d hk=>by rw[Nf (hl.acs hb)];exact hc k d hk) (λk d hk=>(hr k d hk).leL hl)
 | any=>exact .any
 | one h=>exact .one h
theorem Mj.oneCell{g:G}{w:World}{c:MK F}{x:Value}(h:Mj g w c x)(hc:c≠.any):x.oneCell'=true:=by
 cases h with
 | TB h hk hv=>
  rename_i pl
  cases pl with
  | none=>obtain⟨p,rfl⟩:=hv;rfl
  | some q=>simp only[Nv,Oo]at hv;subst hv;rfl
 | im h=>exact h.oneCell
 | ln h=>exact h.oneCell
 | any=>exact absurd rfl hc
 | one h=>exact h
 | _=>rfl
inductive Dat(F:Fam) where
 | c (x:MK F)
 | agg (cs:List (MK F))
 | Pt (ds:List (Dat F))
 | RZ (fn:Fn) (fs cs:List (Dat F))
 | fv (ks:List Ty) (r:Ty) (φ : M7 F ks→Option (ET F r))
 | gh (id:Nat)
inductive Me(P:Program)(g:G)(w:World):Dat F→Value→Prop where
 | c {x:MK F} {v:Value} (h:Mj g w x v):Me P g w (.c x) v
 | agg {cs:List (MK F)} {vs:List Value} (hl:vs.length=cs.length) (h:∀(k:Nat)(c:MK F)(x:Value),cs[k]? = some c→vs[k]? = some x→Mj g w c x):Me P g w (.agg cs) (.agg ⟨vs⟩)
 | Pt {ds:List (Dat F)} {vs:List Value} (hl:vs.length=ds.length) (h:∀(k:Nat)(d:Dat F)(x:Value),ds[k]? = some d→vs[k]? = some x→Me P g w d x):Me P g w (.Pt ds) (.tuple ⟨vs⟩)
 | RZ {fn:Fn} {fs cs:List (Dat F)} {vs us:List Value} (h1:vs.length=fs.length) (h2:us.length=cs.length)
   (hf:∀(k:Nat)(c:Dat F)(x:Value),fs[k]? = some c→vs[k]? = some x→Me P g w c x)
   (hc:∀(k:Nat)(c:Dat F)(x:Value),cs[k]? = some c→us[k]? = some x→Me P g w c x):Me P g w (.RZ fn fs cs) (.func fn ⟨vs⟩ ⟨us⟩)
 | fv {ks:List Ty} {r:Ty} {φ : M7 F ks→Option (ET F r)} {v:Value} (h:Vm P F w g.Lj ks r φ v):Me P g w (.fv ks r φ) v
 | gh {id b:Nat} {c:Nat×Nat×NS} {v:Value} (h:g.ids id=some (some (b,c))):Me P g w (.gh id) v
theorem Vm.le{P:Program}{g g':G}{w w':World}(hl:Le g w g' w'){ks:List Ty}{r:Ty}{φ : M7 F ks→Option (ET F r)}{v:Value}(h:Vm P F w g.Lj ks r φ v):Vm P F w' g'.Lj ks r φ v:=by obtain⟨fid,bound,captured,h1,h0,h2,h3⟩:=h;refine⟨fid,bound,captured,h1,h0,h2,λw2 adn k1 k2 a x vs k3 k4=>h3 w2 adn (λb hb=>⟨(k1 b (hl.Lj b hb)).1,((k1 b (hl.Lj b hb)).2).trans (hl.heap b hb)⟩) k2 a x vs k3 k4⟩
theorem Me.le{P:Program}{g g':G}{w w':World}(hl:Le g w g' w'){d:Dat F}{x:Value}(h:Me P g w d x):Me P g' w' d x:=by
 induction h with
 | c h=>exact .c (h.le hl)
 | agg h1 h2=>exact .agg h1 (λk c x a b=>(h2 k c x a b).le hl)
 | Pt h1 _ ih=>exact .Pt h1 ih
 | RZ h1 h2 _ _ i1 i2=>exact .RZ h1 h2 i1 i2
 | fv h=>exact .fv (h.le hl)
 | gh h=>exact .gh (hl.ids _ _ h)
inductive Mi(F:Fam) where
 | box (cs:List (MK F))
 | row (t:Ty) (l:List (ET F t))
 | Nb (t:Ty) (l:List (ET F t))
 | Tf (t:Ty) (l:List (ET F t))
 | Z8 (cs:List (ND F))
 | mp (t:Ty) (l:List (ET F t))
 | it (ob:Obj)
 | Pv (k n:Nat)
 | Sq (t:Ty) (l:List (ET F t)) (i:Nat) (ks:List Nat)
 | NQ (t:Ty) (l:List (ET F t)) (j:Nat)
def Mi.owned:Mi F→Bool
 | .box _ | .row _ _ | .Nb _ _ | .mp _ _ | .it _ | .Sq _ _ _ _ | .NQ _ _ _=>true
 | _=>false
def Mi.aci:Mi F→Bool
 | .Pv _ _=>true
 | _=>false
theorem Mi.PV{B:Mi F}(h:B.owned=true):B.aci=false:=by cases B<;>first | rfl | cases h
def Ri(w:World)(t:Ty)(l:List (ET F t))(C:Nat→ND F→Value→Option (Nat×Nat×Nat)→Prop):Pl→Prop
 | none=>l = []
 | some (b,cap,n)=>n.1=l.length∧l.length≤cap∧cap≤maxLen∧n.2.length=(cells F t l).length∧(b::MP n.2).Nodup∧∃cur e,w.heap[b]? = some (.cells ⟨cur⟩ e (0,0))∧cur.length=cap*LV F t∧
   ∀(k:Nat)(d:ND F)(x:Value)(pl:Option (Nat×Nat×Nat)),(cells F t l)[k]? = some d→cur[k]? = some x→n.2[k]? = some pl→C k d x pl
def r8(w:World)(Lj:Nat→Prop)(sz i:Nat)(ks:List Nat)(k:Nat)(d:ND F)(x:Value)(pl:Option (Nat×Nat×Nat)):Prop:=
 ((∃q∈ks,k=i*sz+q)→pl=none∧x.oneCell'=true)∧((¬ ∃q∈ks,k=i*sz+q)→Oz w Lj d x pl)
def Vn(w:World)(Lj:Nat→Prop)(sz j:Nat)(k:Nat)(d:ND F)(x:Value)(pl:Option (Nat×Nat×Nat)):Prop:=
 (k<j*sz→Oz w Lj d x pl)∧(¬ k<j*sz→pl=none∧Md w Lj d x)
def N7(k:Nat)(p q:Option Pl):Prop:=(∃b c n n',p=some (some (b,c,n))∧q=some (some (b,c,n'))∧n'.1=n.1∧n.1=k)∨(p=some none∧q=some none∧k=0)
def M_(g:G)(w:World)(id:Nat):Mi F→Prop
 | .box cs=>∃(b:Nat)(c:Nat×Nat)(arr:List Value)(t:TypeId),g.ids id=some (some (b,c.1,c.2,[]))∧w.heap[b]? = some (.cells ⟨arr⟩ t (0,0))∧arr.length=cs.length∧
   ∀(k:Nat)(c:MK F)(x:Value),cs[k]? = some c→arr[k]? = some x→Mj g w c x
 | .row t l=>(g.ids id=some none∧l = [])∨
   ∃b cap cur e,g.ids id=some (some (b,cap,l.length,[]))∧w.heap[b]? = some (.cells ⟨cur⟩ e (0,0))∧l.length≤cap∧cap≤maxLen∧cur.length=cap*LV F t∧
    ∀(k:Nat)(d:ND F)(x:Value),(cells F t l)[k]? = some d→cur[k]? = some x→Md w g.Lj d x
 | .Nb t l=>∃pl,g.ids id=some pl∧P8 w g.Lj t l pl
 | .Tf t l=>(g.ids id=some none∧l = [])∨
   ∃b cap ns,g.ids id=some (some (b,cap,l.length,ns))∧(∀b'∈MP ns,g.Lj b')∧g.Lj b∧l.length≤cap∧cap≤maxLen∧
    ∀(k:Nat)(d:ND F),(cells F t l)[k]? = some d→∃x,w.cell? ⟨b,k,none⟩=some x∧Md w g.Lj d x
 | .Z8 cs=>∃(b:Nat)(c:Nat×Nat),g.ids id=some (some (b,c.1,c.2,[]))∧g.Lj b∧∀(k:Nat)(d:ND F),cs[k]? = some d→∃x,w.cell? ⟨b,k,none⟩=some x∧Md w g.Lj d x
 | .mp t l=>∃b,g.ids id=some (some (b,0,0,[]))∧MapAt w g.Lj t l b
 | .it ob=>∃b,g.ids id=some (some (b,0,0,[]))∧w.heap[b]? = some ob
 | .Pv k n=>N7 n (g.ids id) (g.ids k)
 | .Sq t l i ks=>∃pl,g.ids id=some pl∧Ri w t l (r8 w g.Lj (LV F t) i ks) pl
 | .NQ t l j=>∃pl,g.ids id=some pl∧Ri w t l (Vn w g.Lj (LV F t) j) pl
theorem MapAt.Pd{w w':World}{Lj LU:Nat→Prop}(hi:∀b,Lj b→LU b)(hw:∀b,Lj b→w'.heap[b]? = w.heap[b]?){t:Ty}{l:List (ET F t)}{b:Nat}(hb:w'.heap[b]? = w.heap[b]?)(h:MapAt w Lj t l b):MapAt w' LU t l b:=by obtain⟨es,h1,h2,h3⟩:=h;refine⟨es,hb.trans h1,h2,λk x e a a'=>?_⟩;obtain⟨q1,kd,Rk,q2,q3,q4⟩:=h3 k x e a a';exact⟨q1,kd,Rk,q2,q3.mono hi hw,q4.mono hi hw⟩
theorem dD.Pd{w w':World}{Lj LU:Nat→Prop}(hi:∀b,Lj b→LU b)(hw:∀b,Lj b→w'.heap[b]? = w.heap[b]?){t:Ty}{l:List (ET F t)}{pl:Pl}(hb:∀b c,pl=some (b,c)→w'.heap[b]? = w.heap[b]?)(h:dD w Lj t l pl):dD w' LU t l pl:=by
 cases pl with
 | none=>exact h
 | some q=>obtain⟨b,cap,n⟩:=q;obtain⟨q1,q2,q3,cur,e,q4,q5,q6⟩:=h;exact⟨q1,q2,q3,cur,e,(hb b _ rfl).trans q4,q5,λk d x a b=>(q6 k d x a b).mono hi hw⟩
theorem OD.Pd{w w':World}{Lj LU:Nat→Prop}(hi:∀b,Lj b→LU b)(hw:∀b,Lj b→w'.heap[b]? = w.heap[b]?){t:Ty}{l:List (ET F t)}{pl:Pl}(hb:∀b c,pl=some (b,c)→w'.heap[b]? = w.heap[b]?)(h:OD w Lj t l pl):OD w' LU t l pl:=by
 unfold OD at h ⊢;split
 ·rename_i hm;rw[if_pos hm]at h;obtain⟨b,rfl,h⟩:=h;exact⟨b,rfl,h.Pd hi hw (hb b _ rfl)⟩
 ·rename_i hm;rw[if_neg hm]at h;exact h.Pd hi hw hb
theorem nW{w:World}{Lj:Nat→Prop}{t:Ty}{l:List (ET F t)}{pl:Pl}(h:t.Nz=false):OD w Lj t l pl=dD w Lj t l pl:=by unfold OD;rw[if_neg (by simp[h])]
theorem qf{t:Ty}{pl:Pl}{v:Value}(h:t.Nz=false):Ug t pl v=Oo pl v:=by unfold Ug;rw[if_neg (by simp[h])]
theorem Oz.Pd{w w':World}{Lj LU:Nat→Prop}(hi:∀b,Lj b→LU b)(hw:∀b,Lj b→w'.heap[b]? = w.heap[b]?){d:ND F}{x:Value}{pl:Option (Nat×Nat×Nat)}(hb:∀b c,pl=some (b,c)→w'.heap[b]? = w.heap[b]?)(h:Oz w Lj d x pl):Oz w' LU d x pl:=by
 cases d with
 | sl t l=>
  refine⟨h.1.Pd hi hw ?_,h.2⟩;intro b c e
  cases pl with
  | none=>cases e
  | some q=>obtain⟨b',c',n'⟩:=q;simp only[Nv,NI,Prod.mk.injEq]at e;exact hb b (c',n') (by rw[← e.1])
 | _=>exact⟨h.1,h.2.1,h.2.2.mono hi hw⟩
theorem P8.Pd{w w':World}{Lj LU:Nat→Prop}(hi:∀b,Lj b→LU b)(hw:∀b,Lj b→w'.heap[b]? = w.heap[b]?){t:Ty}{l:List (ET F t)}{pl:Pl}(hb:∀b0 c,pl=some (b0,c)→∀b∈b0::MP c.2.2,w'.heap[b]? = w.heap[b]?)(h:P8 w Lj t l pl):P8 w' LU t l pl:=by
 cases pl with
 | none=>exact h
 | some q=>obtain⟨b,cap,n⟩:=q;obtain⟨q1,q2,q3,q4,q5,cur,e,q6,q7,q8⟩:=h;have hb:=hb b _ rfl;refine⟨q1,q2,q3,q4,q5,cur,e,(hb b YS).trans q6,q7,λk d x pl h1 h2 h3=>(q8 k d x pl h1 h2 h3).Pd hi hw ?_⟩;rintro b' c' rfl;exact hb b' (U_ _ (kc h3))
theorem Ri.Pd{w w':World}{t:Ty}{l:List (ET F t)}{C C':Nat→ND F→Value→Option (Nat×Nat×Nat)→Prop}{pl:Pl}(hb:∀b0 c,pl=some (b0,c)→∀b∈b0::MP c.2.2,w'.heap[b]? = w.heap[b]?)
  (hC:∀k d x p,(∀b c,p=some (b,c)→w'.heap[b]? = w.heap[b]?)→C k d x p→C' k d x p) (h:Ri w t l C pl):Ri w' t l C' pl:=by
 cases pl with
 | none=>exact h
 | some q=>obtain⟨b,cap,n⟩:=q;obtain⟨q1,q2,q3,q4,q5,cur,e,q6,q7,q8⟩:=h;have hb:=hb b _ rfl;refine⟨q1,q2,q3,q4,q5,cur,e,(hb b YS).trans q6,q7,λk d x pl h1 h2 h3=>hC k d x pl ?_ (q8 k d x pl h1 h2 h3)⟩;rintro b' c' rfl;exact hb b' (U_ _ (kc h3))
theorem r8.Pd{w w':World}{Lj LU:Nat→Prop}(hi:∀b,Lj b→LU b)(hw:∀b,Lj b→w'.heap[b]? = w.heap[b]?){sz i:Nat}{ks:List Nat}{k:Nat}{d:ND F}{x:Value}{p:Option (Nat×Nat×Nat)}(hb:∀b c,p=some (b,c)→w'.heap[b]? = w.heap[b]?)(h:r8 w Lj sz i ks k d x p):r8 w' LU sz i ks k d x p:=
 ⟨h.1,λhn=>(h.2 hn).Pd hi hw hb⟩
theorem Vn.Pd{w w':World}{Lj LU:Nat→Prop}(hi:∀b,Lj b→LU b)(hw:∀b,Lj b→w'.heap[b]? = w.heap[b]?){sz j:Nat}{k:Nat}{d:ND F}{x:Value}{p:Option (Nat×Nat×Nat)}(hb:∀b c,p=some (b,c)→w'.heap[b]? = w.heap[b]?)(h:Vn w Lj sz j k d x p):Vn w' LU sz j k d x p:=
 ⟨λhn=>(h.1 hn).Pd hi hw hb,λhn=>⟨(h.2 hn).1,(h.2 hn).2.mono hi hw⟩⟩
theorem N7.mono{k:Nat}{p q p' q':Option Pl}(hp:∀r,p=some r→p'=some r)(hq:∀r,q=some r→q'=some r)(h:N7 k p q):N7 k p' q':=by
 rcases h with⟨b,c,n,n',h1,h2,h3⟩ | ⟨h1,h2,h3⟩
 ·exact .inl ⟨b,c,n,n',hp _ h1,hq _ h2,h3⟩
 ·exact .inr ⟨hp _ h1,hq _ h2,h3⟩
theorem M_.le{g g':G}{w w':World}(hl:Le g w g' w'){id:Nat}{B:Mi F}(h:M_ g w id B)
  (hb:B.owned=true→∀b,g.blk id b→w'.heap[b]? = w.heap[b]?):M_ g' w' id B:=by
 cases B with
 | box cs=>obtain⟨b,c,arr,t,h1,h2,h3,h4⟩:=h;exact⟨b,c,arr,t,hl.ids _ _ h1,(hb rfl b (G.MI h1)).trans h2,h3,λk c x a b=>(h4 k c x a b).le hl⟩
 | row t l=>
  rcases h with⟨h1,h2⟩ | ⟨b,cap,cur,e,h1,h2,h3,h4,h5,h6⟩
  ·exact .inl ⟨hl.ids _ _ h1,h2⟩
  ·exact .inr ⟨b,cap,cur,e,hl.ids _ _ h1,(hb rfl b (G.MI h1)).trans h2,h3,h4,h5,λk d x a b=>(h6 k d x a b).le hl⟩
 | Nb t l=>obtain⟨pl,h1,h2⟩:=h;refine⟨pl,hl.ids _ _ h1,h2.Pd hl.Lj hl.heap ?_⟩;rintro b0 c rfl b hbb;exact hb rfl b ⟨b0,c,h1,hbb⟩
 | Tf t l=>
  rcases h with⟨h1,h2⟩ | ⟨b,cap,ns,h1,hn,h2,h3,h4,h5⟩
  ·exact .inl ⟨hl.ids _ _ h1,h2⟩
  ·refine .inr ⟨b,cap,ns,hl.ids _ _ h1,λb' hb'=>hl.Lj b' (hn b' hb'),hl.Lj b h2,h3,h4,λk d hk=>?_⟩;obtain⟨x,k1,k2⟩:=h5 k d hk
   exact⟨x,by rw[Nf (hl.heap b h2)];exact k1,k2.le hl⟩
 | Z8 cs=>
  obtain⟨b,c,h1,h2,h5⟩:=h;refine⟨b,c,hl.ids _ _ h1,hl.Lj b h2,λk d hk=>?_⟩;obtain⟨x,k1,k2⟩:=h5 k d hk
  exact⟨x,by rw[Nf (hl.heap b h2)];exact k1,k2.le hl⟩
 | mp t l=>obtain⟨b,h1,h2⟩:=h;exact⟨b,hl.ids _ _ h1,h2.Pd hl.Lj hl.heap (hb rfl b (G.MI h1))⟩
 | it ob=>obtain⟨b,h1,h2⟩:=h;exact⟨b,hl.ids _ _ h1,(hb rfl b (G.MI h1)).trans h2⟩
 | Pv k n=>exact N7.mono (λr=>hl.ids _ r) (λr=>hl.ids _ r) h
 | Sq t l i ks=>obtain⟨pl,h1,h2⟩:=h;refine⟨pl,hl.ids _ _ h1,h2.Pd ?_ λk d x p hp hc=>hc.Pd hl.Lj hl.heap hp⟩;rintro b0 c rfl b hbb;exact hb rfl b ⟨b0,c,h1,hbb⟩
 | NQ t l j=>obtain⟨pl,h1,h2⟩:=h;refine⟨pl,hl.ids _ _ h1,h2.Pd ?_ λk d x p hp hc=>hc.Pd hl.Lj hl.heap hp⟩;rintro b0 c rfl b hbb;exact hb rfl b ⟨b0,c,h1,hbb⟩
theorem uR{b:Nat}:∀{ns:NS},b∈MP ns→∃(k:Nat)(c:Nat×Nat),ns[k]? = some (some (b,c))
 | [],h=>by simp[MP]at h
 | none::ns,h=>by
  obtain⟨k,c,hk⟩:=uR (ns:=ns) h
  exact⟨k+1,c,by simpa using hk⟩
 | some (b',c')::ns,h=>by
  rcases NH.1 h with rfl | h
  ·exact⟨0,c',rfl⟩
  ·obtain⟨k,c,hk⟩:=uR (ns:=ns) h
   exact⟨k+1,c,by simpa using hk⟩
theorem iU(t:Ty)(l:List (ET F t)):(cells F t l).length=l.length*LV F t:=by
 unfold cells
 induction l with
 | nil=>simp
 | cons a l ih=>simp only[Nr,YQ,Lc,bC,P5,TM,ih];omega
theorem Ri.at{w:World}{t:Ty}{l:List (ET F t)}{C:Nat→ND F→Value→Option (Nat×Nat×Nat)→Prop}{b cap:Nat}{n:Nat×NS}(h:Ri w t l C (some (b,cap,n))){k:Nat}{pl:Option (Nat×Nat×Nat)}(hk:n.2[k]? = some pl) :
  ∃d x,(cells F t l)[k]? = some d∧C k d x pl:=by
 obtain⟨q1,q2,q3,q4,q5,cur,e,q6,q7,q8⟩:=h;have hlt:k<n.2.length:=(Lb.1 hk).1
 have h1:k<(cells F t l).length:=by omega
 have h2:(cells F t l).length≤cur.length:=by rw[q7,iU];exact Ro _ q2
 exact⟨_,_,La h1,q8 k _ _ _ (La h1) (La (by omega:k<cur.length)) hk⟩
theorem yK{w:World}{Lj:Nat→Prop}{d:ND F}{x:Value}{q:Nat×Nat×Nat}(h:Oz w Lj d x (some q)):∃t' l',d = .sl t' l'∧dD w Lj t' l' (some (q.1,q.2.1,q.2.2,[])):=by
 cases d with
 | sl t' l'=>exact⟨t',l',rfl,h.1⟩
 | _=>exact absurd h.1 (by simp)
theorem P8.sub{w:World}{Lj:Nat→Prop}{t:Ty}{l:List (ET F t)}{b cap:Nat}{n:Nat×NS}(h:P8 w Lj t l (some (b,cap,n))){k b':Nat}{c':Nat×Nat}(hk:n.2[k]? = some (some (b',c'))) :
  ∃t' l',(cells F t l)[k]? = some (.sl t' l')∧dD w Lj t' l' (some (b',c'.1,c'.2,[])):=by
 obtain⟨d,x,h1,h2⟩:=Ri.at (C:=λ_=>Oz w Lj) h hk;obtain⟨t',l',rfl,h3⟩:=yK h2;exact⟨t',l',h1,h3⟩
theorem Ri.blk{w:World}{t:Ty}{l:List (ET F t)}{C:Nat→ND F→Value→Option (Nat×Nat×Nat)→Prop}{b cap:Nat}{n:Nat×NS}(h:Ri w t l C (some (b,cap,n)))(hC:∀k d x q,C k d x (some q)→∃Lj,Oz w Lj d x (some q)){b':Nat}(hb:b'∈b::MP n.2):b'<w.heap.size:=by
 have key:∀{b:Nat}{o:Obj},w.heap[b]? = some o→b<w.heap.size:=λh=>(Ws.1 h).1;rcases NH.1 hb with rfl | h4
 ·obtain⟨_,_,_,_,_,cur,e,q6,_⟩:=h;exact key q6
 ·obtain⟨k,c',hk⟩:=uR h4;obtain⟨d,x,_,h2⟩:=Ri.at h hk;obtain⟨Lj,h3⟩:=hC _ _ _ _ h2;obtain⟨t',l',_,_,_,_,cur,e,q,_⟩:=yK h3;exact key q
theorem r8.some{w:World}{Lj:Nat→Prop}{sz i:Nat}{ks:List Nat}{k:Nat}{d:ND F}{x:Value}{q:Nat×Nat×Nat}(h:r8 w Lj sz i ks k d x (some q)):Oz w Lj d x (some q):=by
 by_cases hn:∃q∈ks,k=i*sz+q
 ·exact absurd (h.1 hn).1 (by simp)
 ·exact h.2 hn
theorem Vn.some{w:World}{Lj:Nat→Prop}{sz j:Nat}{k:Nat}{d:ND F}{x:Value}{q:Nat×Nat×Nat}(h:Vn w Lj sz j k d x (some q)):Oz w Lj d x (some q):=by
 by_cases hn:k<j*sz
 ·exact h.1 hn
 ·exact absurd (h.2 hn).1 (by simp)
theorem M_.place{g:G}{w:World}(hi:∀b,g.Lj b→b<w.heap.size){id:Nat}{B:Mi F}(ho:B.aci=false)(h:M_ g w id B){b:Nat}(hb:g.blk id b) :
  b<w.heap.size:=by
 have key:∀{b:Nat}{o:Obj},w.heap[b]? = some o→b<w.heap.size:=λh=>(Ws.1 h).1
 cases B with
 | box cs=>obtain⟨b',c',arr,t,h1,h2,_⟩:=h;rw[G.SV h1 hb];exact key h2
 | row t l=>
  rcases h with⟨h1,h2⟩ | ⟨b',cap,cur,e,h1,h2,_⟩
  ·exact(G.Vp h1 hb).elim
  ·rw[G.SV h1 hb];exact key h2
 | Nb t l=>
  obtain⟨pl,h1,h2⟩:=h;obtain⟨b0,c,h3,h4⟩:=hb;rw[h1]at h3;cases h3;rcases NH.1 h4 with rfl | h4
  ·obtain⟨_,_,_,_,_,cur,e,q6,_⟩:=h2;exact key q6
  ·obtain⟨k,c',hk⟩:=uR h4;obtain⟨t',l',_,_,_,_,cur,e,q,_⟩:=P8.sub (n:=c.2) h2 hk;exact key q
 | Tf t l=>
  rcases h with⟨h1,h2⟩ | ⟨b',cap,ns,h1,hn,h2,_⟩
  ·exact(G.Vp h1 hb).elim
  ·obtain⟨b0,c,h3,h4⟩:=hb;rw[h1]at h3;cases h3;rcases NH.1 h4 with rfl | h4
   ·exact hi _ h2
   ·exact hi _ (hn _ h4)
 | Z8 cs=>obtain⟨b',c',h1,h2,_⟩:=h;rw[G.SV h1 hb];exact hi _ h2
 | mp t l=>obtain⟨b',h1,es,h2,_⟩:=h;rw[G.SV h1 hb];exact key h2
 | it ob=>obtain⟨b',h1,h2⟩:=h;rw[G.SV h1 hb];exact key h2
 | Pv k n=>cases ho
 | Sq t l i ks=>obtain⟨pl,h1,h2⟩:=h;obtain⟨b0,c,h3,h4⟩:=hb;rw[h1]at h3;cases h3;exact Ri.blk (n:=c.2) h2 (λ_ _ _ _ hc=>⟨_,hc.some⟩) h4
 | NQ t l j=>obtain⟨pl,h1,h2⟩:=h;obtain⟨b0,c,h3,h4⟩:=hb;rw[h1]at h3;cases h3;exact Ri.blk (n:=c.2) h2 (λ_ _ _ _ hc=>⟨_,hc.some⟩) h4
structure Ow where
 o:Nat→Prop
 i:Nat→Prop
 nm:Nat→Option Pl
structure LQ(ow:Ow)(g:G)(w:World)(m:Nat→Option (Mi F)):Prop where
 ok:∀id B,m id=some B→M_ g w id B
 S_:∀id id' B B' b,m id=some B→m id'=some B'→B.owned=true→B'.owned=true→g.blk id b→g.blk id' b→id=id'
 own:∀id B b,m id=some B→B.owned=true→g.blk id b→ow.o b∧¬ g.Lj b
 Lj:∀b,g.Lj b→b<w.heap.size
 io:∀b,g.Lj b→ow.i b∨ow.o b
 len:∀b,g.len b→¬ ow.o b∧b<w.heap.size
structure Stp(m:Nat→Option (Mi F))(g:G)(w:World)(g':G)(w':World):Prop where
 le:Le g w g' w'
 os:w'.os=w.os
 tape:w'.tape=w.tape
 output:w'.output=w.output
 size:w.heap.size≤w'.heap.size
 frame:∀b,b<w.heap.size→(∀id B,m id=some B→B.owned=true→¬ g.blk id b)→w'.heap[b]? = w.heap[b]?
 drawn:w.drawn≤w'.drawn
theorem Stp.refl(m:Nat→Option (Mi F))(g:G)(w:World):Stp m g w g w:=⟨.refl _ _,rfl,rfl,rfl,MO _,λ_ _ _=>rfl,MO _⟩
structure Vs(own:Ow)(W0 w:World):Prop where
 os:w.os=W0.os
 tape:w.tape=W0.tape
 output:w.output=W0.output
 size:W0.heap.size≤w.heap.size
 fresh:∀b,W0.heap.size≤b→own.o b
 block:∀b,b<W0.heap.size→¬ own.o b→w.heap[b]? = W0.heap[b]?
 drawn:W0.drawn≤w.drawn
theorem Vs.stp{own:Ow}{W0 w w':World}{g g':G}{m:Nat→Option (Mi F)}(h:Vs own W0 w)(hm:LQ own g w m)(hs:Stp m g w g' w'):Vs own W0 w':=by refine⟨hs.os.trans h.os,hs.tape.trans h.tape,hs.output.trans h.output,P6 h.size hs.size,h.fresh,λb hb ho=>?_,P6 h.drawn hs.drawn⟩;rw[← h.block b hb ho];exact hs.frame b (UK hb h.size) (λid B hB hw hi=>ho (hm.own id B b hB hw hi).1)
structure St(F:Fam) where
 e:Nat→Option (Dat F)
 m:Nat→Option (Mi F)
 u:Nat→Bool
structure Good(P:Program)(own:Ow)(W0:World)(n:Nat)(s:St F)(g:G)(a:Act)(w:World):Prop where
 Uk:a.defers = []
 Tq:a.tmps.size=n
 env:∀x d,s.e x=some d→Me P g w d (a.tmps.getD x undef)
 mem:LQ own g w s.m
 dom:∀id,s.u id=false→g.ids id=none
 TD:∀b,own.i b→g.Lj b
 NT:Vs own W0 w
 Sn:∀id p,own.nm id=some p→g.ids id=some p
def MG(P:Program)(g:G)(w:World)(ds:List (Dat F))(vs:List Value):Prop:=
 vs.length=ds.length∧∀(k:Nat)(d:Dat F)(x:Value),ds[k]? = some d→vs[k]? = some x→Me P g w d x
end
set_option linter.unusedVariables false
set_option linter.unusedSimpArgs false
structure TI(F:Fam) where
 desc:TypeDesc
 size:Nat
 bytes:Nat
 zero:List (ND F)
 ty:Option Ty
 eq:Bool:=false
def gu:TypeDesc→Bool
 | .struct _ | .array _ _=>true
 | _=>false
def look{α : Type}:List (Nat×α)→Nat→Option α
 | [],_=>none
 | (y,a)::r,x=>if Nat.beq y x then some a else look r x
def Mh(x:Nat):List Nat→Bool
 | []=>false
 | y::l=>if Nat.beq y x then true else Mh x l
structure SX(F:Fam) where
 val:Dat F
 mw:List (Nat×Option (Mi F)):=[]
 nu:Nat:=0
inductive Kd where
 | v (t:Ty) (ow:List Nat)
 | box (t:Ty) (ow:List Nat)
 | rp (t:Ty)
 | fn (ks:List Ty) (r:Ty)
 | row (t:Ty) (arr:Bool)
 | TK (t:Ty)
 | pk (k:Nat) (t:Ty)
 | ln (t:Ty)
 | nb (t:Ty) (ow:List Nat)
 | cl (f n:Nat)
section
variable(F:Fam)
@[reducible] def Kd.El:Kd→Type
 | .v t _=>ET F t
 | .box t _=>ET F t
 | .rp t=>ET F t
 | .fn ks r=>M7 F ks→Option (ET F r)
 | .row t _=>List (ET F t)
 | .TK t=>ET F t
 | .pk _ t=>ET F t
 | .ln t=>ET F t
 | .nb t _=>ET F t
 | .cl _ _=>Unit
@[reducible] def HL:List Kd→Type
 | []=>Unit
 | k::r=>k.El F×HL r
@[reducible] def TL:List Kd→Type
 | []=>Unit
 | [k]=>k.El F
 | k::l::r=>k.El F×TL (l::r)
end
def Kd.Ym:Kd→Bool
 | .ln _=>true
 | _=>false
def Kd.ach:Kd→Bool
 | .v _ []=>true
 | .rp _=>true
 | .fn _ _=>true
 | .TK _=>true
 | .pk _ _=>true
 | .ln _=>true
 | _=>false
def AO(ks:List Kd):Bool:=ks.all (λk=>!k.Ym)||ks.all Kd.ach
def Kd.Uv:Kd→Bool
 | .cl _ _=>true
 | _=>false
def Kd.Ni:Kd→Bool
 | .box _ _=>true
 | .row _ _=>true
 | _=>false
structure Spec(F:Fam) where
 ks:List Kd
 rs:List Kd
 D:HL F ks→Option (TL F (rs++ks.filter Kd.Ni))
def Oi{α : Type}(p:α→Bool)(l:List α)(z:α):α:=(l.find? p).getD z
def O6{α : Type}(p:α→Bool)(l:List α):Bool:=l.any p
def OQ{α : Type}(p:α→Bool)(l:List α)(y:α):List α:=match l with
 | []=>[y]
 | x::r=>cond (p x) (y::r) (x::OQ p r y)
def nz(x:Int):Option Unit:=if x≠0 then some ()else none
def nn(x:Int):Option Unit:=if 0≤x then some ()else none
def idx{α : Type}(l:List α)(i:Int):Option α:=if 0≤i then l[i.toNat]? else none
def MZ(i:Int)(n:Nat):Option Nat:=if 0≤i∧i.toNat<n then some i.toNat else none
def OV(a b:Int)(n:Nat):Option (Nat×Nat):=if 0≤a∧a≤b∧b≤n then some (a.toNat,b.toNat - a.toNat)else none
def slc{α : Type}(l:List α)(a b:Int):Option (List α):=if 0≤a∧a≤b∧b≤l.length then some ((l.take b.toNat).drop a.toNat)else none
def cat(l m:List UInt8):Option (List UInt8):=if Nat.ble (l.length+m.length) 9223372036854775807 then some (l++m)else none
def app{α : Type}(b:Nat)(l m:List α):Option (List α):=if(l++m).length≤maxLen∧(l++m).length*b≤140737488355328 then some (l++m)else none
def Wh{α : Type}(b:Nat)(n m:Int)(z:α):Option (List α):=if 0≤n∧n≤m∧m.toNat≤maxLen∧b*m.toNat≤281474976710656 then some (List.replicate n.toNat z)else none
def sub{α : Type}(l:List α)(a n:Nat):List α:=(l.drop a).take n
def Rm{α : Type}(l:List α)(a n:Nat)(ys:List α):List α:=l.take a++ys.take n++l.drop (a+min n ys.length)
def Nh(x y:Int):Int:=if y<x then y else x
def imax(x y:Int):Int:=if y>x then y else x
abbrev LC(x:Int):Int:=IntKind.i64.wrap x
abbrev Rv(k:IntKind)(a b:Int):Int:=k.wrap (a*2 ^ min b.toNat k.bits)
abbrev Pj(_k:IntKind)(a b:Int):Int:=a.fdiv (2 ^ min b.toNat _k.bits)
abbrev RH(k:IntKind)(a b:Int):Int:=k.wrap ((BitVec.ofInt k.bits a &&& BitVec.ofInt k.bits b).toNat)
abbrev orK(k:IntKind)(a b:Int):Int:=k.wrap ((BitVec.ofInt k.bits a ||| BitVec.ofInt k.bits b).toNat)
abbrev amx(k:IntKind)(a b:Int):Int:=k.wrap ((BitVec.ofInt k.bits a ^^^ BitVec.ofInt k.bits b).toNat)
def SH(l m:List UInt8):Bool:=Op.bytesLess l m||l == m
section
variable{F:Fam}
def X5:Value→MK F
 | .int k n=>.im (.i k n)
 | .bool b=>.im (.b b)
 | .string s=>.im (.s s.data.toList)
 | .slice none 0 0=>.im .nl
 | .agg _ | .tuple _=>.any
 | x=>.im (.v x)
def Zx:Value→Dat F
 | .agg cs=>.agg (cs.toList.map X5)
 | x=>.c (X5 x)
def opd(e:Nat→Option (Dat F)):Operand→Dat F
 | .tmp t=>(e t).getD (.c .any)
 | .const v=>Zx v
 | .global g=>.c (.im (.v (.pointer (some ⟨g,0,none⟩))))
 | .func f=>.c (.im (.v (.func (.func f) #[] #[])))
def Dat.cells:Dat F→List (MK F)
 | .c x=>[x]
 | .agg cs=>cs
 | _=>[]
def MK.RP:MK F→Bool
 | .any=>false
 | _=>true
def adL(t:Ty)(x:ET F t):Dat F:=
 match t,x with
 | .st n,x=>.agg ((LZ F (.st n) x).map .im)
 | .int k,n=>.c (.im (.i k n))
 | .bool,b=>.c (.im (.b b))
 | .str,l=>.c (.im (.s l))
 | .slice t,l=>.c (.im (.sl t l))
def Ms(m:Nat→Option (Mi F)):List (Nat×Option (Mi F))→Nat→Option (Mi F)
 | []=>m
 | (id,B)::r=>Ms (λx=>if Nat.beq id x then B else m x) r
def Tw(mm:Nat→Option (Mi F)):Nat→Nat→Nat
 | 0,id=>id
 | n+1,id=>match mm id with
  | some (.Pv k _)=>Tw mm n k
  | _=>id
def Ve(mm:Nat→Option (Mi F))(id:Nat):Nat:=match mm id with
 | some (.Pv k _)=>Tw mm 8 k
 | _=>id
def WI(mm:Nat→Option (Mi F)):MK F→MK F
 | .Nl id=>.Nl (Ve mm id)
 | .OX id sz i off=>.OX (Ve mm id) sz i off
 | .Rz id sz off n=>.Rz (Ve mm id) sz off n
 | c=>c
def aaz(mm:Nat→Option (Mi F)):Dat F→Dat F
 | .c x=>.c (WI mm x)
 | d=>d
def Za(mm:Nat→Option (Mi F))(id:Nat):Option (ND F×List Nat):=match mm id with
 | some (.row t l)=>some (.sl t l,[id])
 | some (.Nb t l)=>some (.sl t l,[id])
 | some (.Tf t l)=>some (.sl t l,[])
 | _=>none
def Sl(mm:Nat→Option (Mi F)):MK F→Option (ND F×List Nat)
 | .im d=>some (d,[])
 | .Nl id=>Za mm (Ve mm id)
 | .Rz id sz off n=>match mm id with
  | some (.row t l)=>if sz=LV F t then some (.sl t (sub l off n),[id])else none
  | some (.Tf t l)=>if sz=LV F t then some (.sl t (sub l off n),[])else none
  | _=>none
 | _=>none
def cS(mm:Nat→Option (Mi F)):List (MK F)→Option (List (ND F)×List Nat)
 | []=>some ([],[])
 | c::r=>match Sl mm c with
  | none=>none
  | some (d,i)=>match cS mm r with
   | none=>none
   | some (ds,j)=>some (d::ds,i++j)
def UA(mm:Nat→Option (Mi F))(ids:List Nat)(id:Nat):Option (Mi F):=
 match mm id with
 | some (.row t l)=>some (.Tf t l)
 | some (.Nb t l)=>some (.Tf t l)
 | some (.box cs)=>match cS mm cs with
  | some (ds,fz)=>cond (fz.all (λx=>Mh x ids)) (some (.Z8 ds)) none
  | none=>none
 | b=>b
def Ww(mm:Nat→Option (Mi F))(ids:List Nat):List (Nat×Option (Mi F)):=ids.map λid=>(id,UA mm ids id)
def tW(mm:Nat→Option (Mi F)):MK F→Option (ND F×Option Nat)
 | .Nl id=>match mm id with
  | some (.row t l)=>cond t.Nz none (some (.sl t l,some id))
  | _=>none
 | .Sz id=>match mm id with
  | some (.mp t l)=>cond t.Nz (some (.sl t l,some id)) none
  | _=>none
 | .im .nl=>some (.nl,none)
 | _=>none
def xw(mm:Nat→Option (Mi F))(id:Nat):Option (ND F×Option Nat):=match mm id with
 | some (.Nb t l)=>some (.sl t l,some id)
 | _=>none
def rR(mm:Nat→Option (Mi F)):MK F→Option (ND F×Option Nat)
 | .Nl id=>xw mm (Ve mm id)
 | .im .nl=>some (.nl,none)
 | _=>none
def iA(mm:Nat→Option (Mi F))(ow:List Nat):Nat→List (MK F)→Option (List (ND F)×List (Option Nat)×List Nat)
 | _,[]=>some ([],[],[])
 | k,c::r=>
  if Mh k ow then
   match tW mm c with
   | none=>none
   | some (d,o)=>match iA mm ow (k+1) r with
    | none=>none
    | some (ds,os,fz)=>some (d::ds,o::os,fz)
  else if Mh (k+1000) ow then
   match rR mm c with
   | none=>none
   | some (d,o)=>match iA mm ow (k+1) r with
    | none=>none
    | some (ds,os,fz)=>some (d::ds,o::os,fz)
  else
   match Sl mm c with
   | none=>none
   | some (d,i)=>match iA mm ow (k+1) r with
    | none=>none
    | some (ds,os,fz)=>some (d::ds,os,i++fz)
def Aj(t:Ty):Dat F→Option (List (MK F))
 | .c x=>if t.OU then none else some [x]
 | .agg cs=>if t.OU then some cs else none
 | _=>none
structure Pk(α : Type) where
 x:α
 os:List (Option Nat)
 fz:List Nat
 bx:List Nat
abbrev Ctx(F:Fam):=List (Nat×Spec F)
def VQ(mm:Nat→Option (Mi F))(t:Ty)(ow:List Nat)(d:Dat F):Option (Pk (ET F t)):=
 match Aj t d with
 | none=>none
 | some cs=>match iA mm ow 0 cs with
  | none=>none
  | some (ds,os,fz)=>match O7 F t ds with
   | none=>none
   | some x=>some ⟨x,os,fz,[]⟩
def om(mm:Nat→Option (Mi F))(t:Ty)(ow:List Nat):Dat F→Option (Pk (ET F t))
 | .c (.ptr id 0)=>match mm id with
  | some (.box cs)=>match iA mm ow 0 cs with
   | none=>none
   | some (ds,os,fz)=>match O7 F t ds with
    | none=>none
    | some x=>some ⟨x,some id::os,fz,[id]⟩
  | _=>none
 | _=>none
def xo(t:Ty)(arr:Bool):Dat F→Option Nat
 | .c (.ptr id 0)=>cond t.Nz none (if arr then some id else none)
 | .c (.Nl id)=>cond t.Nz none (if arr then none else some id)
 | .c (.Sz id)=>cond t.Nz (some id) none
 | _=>none
def Ph(t:Ty)(arr:Bool)(id:Nat):Dat F:=cond t.Nz (.c (.Sz id)) (if arr then .c (.ptr id 0)else .c (.Nl id))
def Te(t:Ty)(l:List (ET F t)):Mi F:=cond t.Nz (.mp t l) (.row t l)
def adM(F:Fam)(t:Ty)(id:Nat):MK F:=cond t.Nz (.Sz id) (.Nl id)
def rU(mm:Nat→Option (Mi F))(t:Ty)(id:Nat):Option (Pk (List (ET F t))):=
 match mm id with
 | some (.row t' l)=>if h:t'=t then cond t.Nz none (some ⟨h▸l,[some id],[],[id]⟩)else none
 | some (.mp t' l)=>if h:t'=t then cond t.Nz (some ⟨h▸l,[some id],[],[id]⟩) none else none
 | _=>none
def xD(mm:Nat→Option (Mi F))(t:Ty)(arr:Bool)(d:Dat F):Option (Pk (List (ET F t))):=
 match xo t arr d with
 | some id=>rU mm t id
 | none=>none
def FY(mm:Nat→Option (Mi F))(t:Ty)(ow:List Nat)(d:Dat F):Option (Pk (ET F t)):=
 match om mm t ow d with
 | some p=>some ⟨p.x,p.os,p.fz,[]⟩
 | none=>none
def wv(mm:Nat→Option (Mi F))(t:Ty):Dat F→Option (Pk (ET F t))
 | .c (.pt cs 0)=>match O7 F t cs with
  | some x=>some ⟨x,[],[],[]⟩
  | none=>none
 | .c (.ptr id 0)=>match mm id with
  | some (.box cs)=>match cS mm cs with
   | none=>none
   | some (ds,fz)=>match O7 F t ds with
    | none=>none
    | some x=>some ⟨x,[],id::fz,[]⟩
  | some (.Z8 cs)=>match O7 F t cs with
   | some x=>some ⟨x,[],[],[]⟩
   | none=>none
  | _=>none
 | _=>none
def uI(mm:Nat→Option (Mi F))(t:Ty):Dat F→Option (Pk (ET F t))
 | .c (.ptr id 0)=>match mm id with
  | some (.box [.ptr id2 0])=>match mm id2 with
   | some (.box cs)=>match cS mm cs with
    | none=>none
    | some (ds,fz)=>match O7 F t ds with
     | none=>none
     | some x=>some ⟨x,[],id::id2::fz,[]⟩
   | _=>none
  | some (.box [.pt cs 0])=>match O7 F t cs with
   | none=>none
   | some x=>some ⟨x,[],[id],[]⟩
  | _=>none
 | _=>none
def wV(mm:Nat→Option (Mi F))(k:Nat)(t:Ty):Dat F→Option (Pk (ET F t))
 | .c (.ptr id 0)=>match mm id with
  | some (.box [.ptr id2 0])=>match mm id2 with
   | some (.box cs)=>match cs[k]? with
    | some (.im d)=>match O7 F t [d]with
     | some x=>some ⟨x,[],[id,id2],[]⟩
     | none=>none
    | _=>none
   | _=>none
  | _=>none
 | _=>none
def Zb:MK F→MK F
 | .ln d=>.im d
 | c=>c
def VE:Dat F→Dat F
 | .c x=>.c (Zb x)
 | .agg cs=>.agg (cs.map Zb)
 | d=>d
def F1(mm:Nat→Option (Mi F))(t:Ty)(d:Dat F):Option (Pk (ET F t)):=
 match VQ mm t [] (VE d)with
 | none=>none
 | some p=>some ⟨p.x,[],[],[]⟩
def UQ(mm:Nat→Option (Mi F)):(k:Kd)→Dat F→Option (Pk (k.El F))
 | .v t [],d=>VQ mm t [] d
 | .rp t,d=>wv mm t d
 | .TK t,d=>uI mm t d
 | .pk k t,d=>wV mm k t d
 | _,_=>none
def O5(mm:Nat→Option (Mi F)):(kk:List Kd)→(fs:List (Dat F))→(ks:List Ty)→(cs:List (Dat F))→Option (Pk (M7 F ks→HL F kk))
 | k::kk,d::fs,ks,cs=>match UQ mm k d with
  | none=>none
  | some p=>match O5 mm kk fs ks cs with
   | none=>none
   | some q=>some ⟨λa=>(p.x,q.x a),[],p.fz++q.fz,[]⟩
 | .v t' []::kk,[],t::ks,cs=>if h:t=t' then match O5 mm kk [] ks cs with
   | none=>none
   | some q=>some ⟨λa=>(h▸a.1,q.x a.2),[],q.fz,[]⟩else none
 | k::kk,[],[],d::cs=>match UQ mm k d with
  | none=>none
  | some p=>match O5 mm kk [] [] cs with
   | none=>none
   | some q=>some ⟨λa=>(p.x,q.x a),[],p.fz++q.fz,[]⟩
 | [],[],[],[]=>some ⟨λ_=>(),[],[],[]⟩
 | _,_,_,_=>none
def xE(ks:List Kd)(t r:Ty):(bl:List Kd)→(HL F ks→Option (TL F ([.v t []]++bl)))→Option (HL F ks→Option (ET F r))
 | [],D=>if e:t=r then some (λa=>(e▸(D a:Option (ET F t)):Option (ET F r)))else none
 | _::_,_=>none
def fG(sp:Spec F)(r:Ty):Option (HL F sp.ks→Option (ET F r)):=
 match sp with
 | ⟨ks,[.v t []],D⟩=>xE ks t r (ks.filter Kd.Ni) D
 | _=>none
def jG(F:Fam):Ty→Bool
 | .slice _=>false
 | .st n=>(F.fs n).all λt=>match t with | .slice _=>false | .st _=>false | _=>true
 | _=>true
def A5(Γ : Ctx F)(mm:Nat→Option (Mi F))(ks:List Ty)(r:Ty):Dat F→Option (Pk (M7 F ks→Option (ET F r)))
 | .fv ks' r' φ=>if h:ks'=ks then if h':r'=r then some ⟨h▸h'▸φ,[],[],[]⟩else none else none
 | .RZ (.func f) [] cs=>if jG F r then match look Γ f with
  | none=>none
  | some sp=>match fG sp r,O5 mm sp.ks [] ks cs with
   | some D,some q=>some ⟨λa=>D (q.x a),[],q.fz,[]⟩
   | _,_=>some ⟨λ_=>none,[],[],[]⟩
  else none
 | .RZ (.func f) (d::fs) cs=>if jG F r&&Nat.beq ks.length 1 then match look Γ f with
  | none=>none
  | some sp=>match fG sp r,O5 mm sp.ks (d::fs) ks cs with
   | some D,some q=>some ⟨λa=>D (q.x a),[],q.fz,[]⟩
   | _,_=>none
  else none
 | .c (.im (.v (.func (.func f) ⟨[]⟩ ⟨[]⟩)))=>if jG F r then match look Γ f with
  | none=>none
  | some sp=>match fG sp r,O5 mm sp.ks [] ks []with
   | some D,some q=>some ⟨λa=>D (q.x a),[],q.fz,[]⟩
   | _,_=>none
  else none
 | _=>none
def Rq(Γ : Ctx F)(mm:Nat→Option (Mi F)):(k:Kd)→Dat F→Option (Pk (k.El F))
 | .v t ow,d=>VQ mm t ow d
 | .box t ow,d=>om mm t ow d
 | .rp t,d=>wv mm t d
 | .fn ks r,d=>A5 Γ mm ks r d
 | .row t arr,d=>xD mm t arr d
 | .TK t,d=>uI mm t d
 | .pk k t,d=>wV mm k t d
 | .ln t,d=>F1 mm t d
 | .nb t ow,d=>FY mm t ow d
 | .cl _ _,_=>none
def A6(f n:Nat):List (Dat F)→Option (List (Dat F))
 | .RZ (.func f') [] cs::ds=>if Nat.beq f' f&&Nat.beq cs.length n then some (cs++ds)else none
 | _=>none
def mf(Γ : Ctx F)(mm:Nat→Option (Mi F)):(ks:List Kd)→List (Dat F)→Option (Pk (HL F ks))
 | [],[]=>some ⟨(),[],[],[]⟩
 | .cl f n::ks,ds=>match A6 f n ds with
  | none=>none
  | some ds'=>match mf Γ mm ks ds' with
   | none=>none
   | some q=>some ⟨((),q.x),q.os,q.fz,q.bx⟩
 | k::ks,d::ds=>match Rq Γ mm k d with
  | none=>none
  | some p=>match mf Γ mm ks ds with
   | none=>none
   | some q=>some ⟨(p.x,q.x),p.os++q.os,p.fz++q.fz,p.bx++q.bx⟩
 | _,_=>none
def OT(ow:List Nat):Nat→Nat→List (ND F)→List (MK F)×List (Nat×Mi F)×Nat
 | _,c,[]=>([],[],c)
 | k,c,d::r=>
  if Mh k ow then
   match d with
   | .sl t l=>match OT ow (k+1) (c+1) r with
    | (cs,bs,c')=>(adM F t c::cs,(c,Te t l)::bs,c')
   | d=>match OT ow (k+1) c r with
    | (cs,bs,c')=>(.im d::cs,bs,c')
  else if Mh (k+1000) ow then
   match d with
   | .sl t l=>match OT ow (k+1) (c+1) r with
    | (cs,bs,c')=>(.Nl c::cs,(c,.Nb t l)::bs,c')
   | d=>match OT ow (k+1) c r with
    | (cs,bs,c')=>(.im d::cs,bs,c')
  else match OT ow (k+1) c r with
   | (cs,bs,c')=>(.im d::cs,bs,c')
def VY(t:Ty)(cs:List (MK F)):Dat F:=if t.OU then .agg cs else match cs with | [x]=>.c x | _=>.c .any
def O8:(k:Kd)→k.El F→Nat→Dat F×List (Nat×Mi F)×Nat
 | .v t ow,x,c=>match OT ow 0 c (LZ F t x)with
  | (cs,bs,c')=>(VY t cs,bs,c')
 | .box t ow,x,c=>match OT ow 0 (c+1) (LZ F t x)with
  | (cs,bs,c')=>(.c (.ptr c 0),(c,.box cs)::bs,c')
 | .rp t,x,c=>(.c (.pt (LZ F t x) 0),[],c)
 | .fn ks r,φ,c=>(.fv ks r φ,[],c)
 | .row t arr,x,c=>(Ph t arr c,[(c,Te t x)],c+1)
 | .TK t,x,c=>(.c (.UE (LZ F t x)),[],c)
 | .pk k t,x,c=>(.c .any,[],c)
 | .ln t,x,c=>(.c .any,[],c)
 | .nb t ow,x,c=>match OT ow 0 (c+1) (LZ F t x)with
  | (cs,bs,c')=>(.c (.ptr c 0),(c,.box cs)::bs,c')
 | .cl _ _,x,c=>(.c .any,[],c)
def ZB(t:Ty)(x:ET F t):Dat F:=VY t ((LZ F t x).map λd=>if d.flat then .im d else .ln d)
def TY:(ks:List Kd)→HL F ks→List (Dat F)→List (Dat F)
 | [],_,ds=>ds
 | _::_,_,[]=>[]
 | .cl _ _::_,_,ds=>ds
 | .ln t::ks,a,_::ds=>ZB t a.1::TY ks a.2 ds
 | _::ks,a,d::ds=>d::TY ks a.2 ds
def NR:(ks:List Kd)→HL F ks→Nat→List (Dat F)×List (Nat×Mi F)×Nat
 | [],_,c=>([],[],c)
 | .cl f n::ks,a,c=>match NR ks a.2 c with
  | (ds,bs,c')=>(.RZ (.func f) [] (ds.take n)::ds.drop n,bs,c')
 | k::ks,a,c=>match O8 k a.1 c with
  | (d,bs,c')=>match NR ks a.2 c' with
   | (ds,bs',c'')=>(d::ds,bs++bs',c'')
def oo(ow:List Nat):List Nat:=if Mh 7000 ow then[]else ow
def aw:(ks:List Kd)→TL F ks→List Nat→Nat→List (Dat F)×List (Nat×Mi F)×Nat
 | [],_,_,c=>([],[],c)
 | [.box t ow],x,b::_,c=>match OT (oo ow) 0 c (LZ F t x)with
  | (cs,bs,c')=>([],(b,.box cs)::bs,c')
 | .box t ow::l::ks,a,b::bx,c=>match OT (oo ow) 0 c (LZ F t a.1)with
  | (cs,bs,c')=>match aw (l::ks) a.2 bx c' with
   | (ds,bs',c'')=>(ds,(b,.box cs)::(bs++bs'),c'')
 | [.row t _],x,b::_,c=>([],[(b,Te t x)],c)
 | .row t _::l::ks,a,b::bx,c=>match aw (l::ks) a.2 bx c with
   | (ds,bs',c'')=>(ds,(b,Te t a.1)::bs',c'')
 | [k],a,_,c=>match O8 k a c with
  | (d,bs,c')=>([d],bs,c')
 | k::l::ks,a,bx,c=>match O8 k a.1 c with
  | (d,bs,c')=>match aw (l::ks) a.2 bx c' with
   | (ds,bs',c'')=>(d::ds,bs++bs',c'')
def aU:(ks:List Kd)→HL F ks→Nat→List Nat
 | [],_,_=>[]
 | .box t ow::ks,a,c=>c::aU ks a.2 (O8 (.box t ow) a.1 c).2.2
 | .row t arr::ks,a,c=>c::aU ks a.2 (O8 (.row t arr) a.1 c).2.2
 | k::ks,a,c=>aU ks a.2 (O8 k a.1 c).2.2
def uW(F:Fam)(ow:List Nat):Nat→List Ty→Bool
 | _,[]=>true
 | k,t::ts=>(match t with | .slice e=>Mh k ow&&jG F e&&!e.Nz | .st _=>false | _=>true)&&uW F ow (k+1) ts
def Kd.M0(F:Fam):Kd→Bool
 | .v t []=>jG F t
 | .v (.st n) ow=>Mh 9999 ow&&uW F ow 0 (F.fs n)
 | .v (.slice t) ow=>Mh 0 ow&&jG F t&&!t.Nz
 | _=>false
def eK:List Nat→Bool
 | []=>true
 | x::l=>!(Mh x l)&&eK l
def Mx:List (Option Nat)→List Nat
 | []=>[]
 | some x::l=>x::Mx l
 | none::l=>Mx l
def RV:List Nat→List Nat→Bool
 | [],_=>true
 | x::l,m=>!(Mh x m)&&RV l m
def WG:List (Dat F)→Dat F
 | [d]=>d
 | ds=>.Pt ds
end
set_option linter.unusedVariables false
set_option linter.unusedSimpArgs false
section
variable{F:Fam}{R:Type}
def gi(ti:TI F)(cs:List (MK F))(off:Nat):Option (Dat F):=
 if gu ti.desc then(if Nat.ble (off+ti.size) cs.length then some (.agg ((cs.drop off).take ti.size))else none)else match cs[off]? with | some x=>some (.c x) | none=>none
def pK(o:Option (Dat F))(K:SX F→Option R):Option R:=match o with | some d=>K { val:=d } | none=>none
section
variable(T:TypeId→Option (TI F))(Γ : Ctx F)(vals:List (Dat F))(mm:Nat→Option (Mi F))(c:Nat)(K:SX F→Option R)
abbrev kI(k:IntKind)(n:Int):Option R:=K { val:=.c (.im (.i k n)) }
abbrev kB(b:Bool):Option R:=K { val:=.c (.im (.b b)) }
def VZ:Operand→Bool
 | .const (.int _ n)=>n != 0
 | _=>false
def Xq:Operand→Bool
 | .const (.int _ n)=>decide (0≤n)
 | _=>false
def xO(op:BinOp)(k:IntKind)(n m:Int)(y:Operand):Option R:=
 match op with
 | .add=>kI K k (k.wrap (n+m))
 | .sub=>kI K k (k.wrap (n - m))
 | .mul=>kI K k (k.wrap (n*m))
 | .quo=>if VZ y then kI K k (k.wrap (n.tdiv m))else(nz m).bind λ_=>kI K k (k.wrap (n.tdiv m))
 | .rem=>if VZ y then kI K k (n.tmod m)else(nz m).bind λ_=>kI K k (n.tmod m)
 | .and=>kI K k (RH k n m)
 | .or=>kI K k (orK k n m)
 | .xor=>kI K k (amx k n m)
 | .eql=>kB K (n == m)
 | .neq=>kB K (n != m)
 | .lss=>kB K (decide (n<m))
 | .leq=>kB K (decide (n≤m))
 | .gtr=>kB K (decide (n>m))
 | .geq=>kB K (decide (n≥m))
 | _=>none
def xH(op:BinOp)(l m:List UInt8):Option R:=
 match op with
 | .add=>(cat l m).bind λr=>K { val:=.c (.im (.s r)) }
 | .eql=>kB K (l == m)
 | .neq=>kB K (!(l == m))
 | .lss=>kB K (Op.bytesLess l m)
 | .leq=>kB K (SH l m)
 | .gtr=>kB K (!(SH l m))
 | .geq=>kB K (!(Op.bytesLess l m))
 | _=>none
def Ue(d:Option TypeDesc)(a b:MK F):Option Bool:=
 match d,a,b with
 | some (.int _),.im (.i k n),.im (.i k' m)=>if k=k' then some (n == m)else none
 | some .bool,.im (.b x),.im (.b y)=>some (x == y)
 | some .string,.im (.s l),.im (.s m)=>some (l == m)
 | _,_,_=>none
def jL(t:TypeId):Option TypeDesc:=match T t with | some ti=>some ti.desc | none=>none
def nN:List Field→Nat→List (MK F)→List (MK F)→Option Bool
 | [],_,[],[]=>some true
 | [f],off,[a],[b] => if f.name != "_" && f.offset == off then Ue (jL T f.type) a b else none
 | f :: f' :: fs,off,a :: l,b :: r => if f.name != "_" && f.offset == off then match Ue (jL T f.type) a b with
  | none=>none
  | some x=>match nN (f'::fs) (off+1) l r with
   | none=>none
   | some y=>some (x&&y)
  else none
 | _,_,_,_=>none
def V5(f:Field)(cs ds:List (MK F)):Option (Bool×Nat):=
 match T f.type with
 | some ⟨.struct gs,n,_,_,_,true⟩=>if Nat.ble n cs.length&&Nat.ble n ds.length then match nN T gs.toList 0 (cs.take n) (ds.take n)with
  | some x=>some (x,n)
  | none=>none
  else none
 | some ti=>match cs,ds with
  | a::_,b::_=>match Ue (some ti.desc) a b with
   | some x=>some (x,1)
   | none=>none
  | _,_=>none
 | none=>none
def pm:List Field→Nat→List (MK F)→List (MK F)→Option Bool
 | [],_,[],[]=>some true
 | [f],off,cs,ds => if f.name != "_" && f.offset == off then match V5 T f cs ds with
  | some (x,n)=>if cs.length=n∧ds.length=n then some x else none
  | none=>none
  else none
 | f :: f' :: fs,off,cs,ds => if f.name != "_" && f.offset == off then match V5 T f cs ds with
  | some (x,n)=>match pm (f'::fs) (off+n) (cs.drop n) (ds.drop n)with
   | some y=>some (x&&y)
   | none=>none
  | none=>none
  else none
 | _,_,_,_=>none
def X4(fs:List Field)(cs ds:List (MK F)):Option Bool:=
 match nN T fs 0 cs ds with
 | some b=>some b
 | none=>pm T fs 0 cs ds
def adb(op:BinOp)(xT:TypeId)(y:Operand):Option R:=
 match vals with
 | [.c (.im (.i k n)),.c (.im (.i k' m))]=>
  match op with
  | .shl=>if Xq y then kI K k (Rv k n m)else(nn m).bind λ_=>kI K k (Rv k n m)
  | .shr=>if Xq y then kI K k (Pj k n m)else(nn m).bind λ_=>kI K k (Pj k n m)
  | _=>if k=k' then xO K op k n m y else none
 | [.c (.im (.s l)),.c (.im (.s m))]=>xH K op l m
 | [.c (.im (.b x)),.c (.im (.b y))]=>
  match T xT,op with
  | some ⟨.bool,_,_,_,_,_⟩,.eql=>kB K (x == y)
  | some ⟨.bool,_,_,_,_,_⟩,.neq=>kB K (!(x == y))
  | _,_=>none
 | [.agg cs,.agg ds]=>
  match T xT,op with
  | some ⟨.struct fs,_,_,_,_,true⟩,.eql=>match X4 T fs.toList cs ds with | some b=>kB K b | none=>none
  | some ⟨.struct fs,_,_,_,_,true⟩,.neq=>match X4 T fs.toList cs ds with | some b=>kB K (!b) | none=>none
  | _,_=>none
 | [.c (.im (.sl _ l)),.c (.im .nl)]=>
  match y,T xT,op with
  | .const (.slice none 0 0),some ⟨.slice _,_,_,_,_,_⟩,.eql=>cond l.isEmpty none (kB K false)
  | .const (.slice none 0 0),some ⟨.slice _,_,_,_,_,_⟩,.neq=>cond l.isEmpty none (kB K true)
  | _,_,_=>none
 | _=>none
def tUn(op:UnOp):Option R:=
 match op,vals with
 | .neg,[.c (.im (.i k n))]=>kI K k (k.wrap (0 - n))
 | .not,[.c (.im (.b x))]=>kB K (!x)
 | _,_=>none
def toB(n:Int):UInt8:=UInt8.ofNat n.toNat
def Zj(src dst:TypeId):Option R:=
 match T src,T dst,vals with
 | some _,some ⟨.int k,_,_,_,_,_⟩,[.c (.im (.i _ n))]=>kI K k (k.wrap n)
 | some _,some ⟨.string,_,_,_,_,_⟩,[.c (.im (.s l))]=>K { val:=.c (.im (.s l)) }
 | some ⟨.slice e,_,_,_,_,_⟩,some ⟨.string,_,_,_,_,_⟩,[.c (.Nl id)]=>match T e with
  | some ⟨.int .u8,_,_,_,_,_⟩=>match mm id with
   | some (.row (.int .u8) l)=>K { val:=.c (.im (.s (l.map toB))) }
   | _=>none
  | _=>none
 | some ⟨.slice e,_,_,_,_,_⟩,some ⟨.string,_,_,_,_,_⟩,[.c (.im (.sl (.int .u8) l))]=>match T e with
  | some ⟨.int .u8,_,_,_,_,_⟩=>K { val:=.c (.im (.s (l.map toB))) }
  | _=>none
 | _,_,_=>none
def A0(s:TypeId)(f:Nat):Option R:=
 match T s with
 | some ⟨.struct fs,_,_,_,_,_⟩=>match fs[f]? with
  | none=>none
  | some YL=>match T YL.type with
   | none=>none
   | some ti=>if ti.size=0 then none else
    match vals with
    | [.c (.ptr id off)]=>K { val:=.c (.ptr id (off+YL.offset)) }
    | [.c (.OX id sz i off)]=>K { val:=.c (.OX id sz i (off+YL.offset)) }
    | [.c (.pt cs off)]=>K { val:=.c (.pt cs (off+YL.offset)) }
    | [.c (.Uj id sz i off sz' j off')]=>K { val:=.c (.Uj id sz i off sz' j (off'+YL.offset)) }
    | _=>none
 | _=>none
def Zf(s:TypeId)(f:Nat):Option R:=
 match T s,vals with
 | some ⟨.struct fs,size,_,_,_,_⟩,[.agg cs]=>match fs[f]? with
  | none=>none
  | some YL=>match T YL.type with
   | none=>none
   | some ti=>if cs.length=size then pK (gi ti cs YL.offset) K else none
 | _,_=>none
def Uc(n:Nat):Operand→Option Nat
 | .const (.int _ (.ofNat k))=>if Nat.blt k n then some k else none
 | _=>none
def sV(t:TypeId)(y:Operand):Option R:=
 match T t with
 | some ⟨.slice e,_,_,_,_,_⟩=>match T e with
  | none=>none
  | some te=>match vals with
   | [.c (.im (.sl t' l)),.c (.im (.i _ n))]=>if LV F t'=te.size then(idx l n).bind λx=>K { val:=.c (.pt (LZ F t' x) 0) }else none
   | [.c (.Nl id),.c (.im (.i _ n))]=>match mm id with
    | some (.row t' l)=>if LV F t'=te.size then(MZ n l.length).bind λi=>K { val:=.c (.OX id te.size i 0) }else none
    | some (.Nb t' l)=>if LV F t'=te.size then(MZ n l.length).bind λi=>K { val:=.c (.OX id te.size i 0) }else none
    | some (.Sq t' l _ _)=>if LV F t'=te.size then(MZ n l.length).bind λi=>K { val:=.c (.OX id te.size i 0) }else none
    | some (.NQ t' l _)=>if LV F t'=te.size then(MZ n l.length).bind λi=>K { val:=.c (.OX id te.size i 0) }else none
    | some (.Tf t' l)=>if LV F t'=te.size then(idx l n).bind λx=>K { val:=.c (.pt (LZ F t' x) 0) }else none
    | _=>none
   | [.c (.TB id sz i off),.c (.im (.i _ n))]=>match mm id with
    | some (.Nb t' l)=>if sz=LV F t' then(l[i]?).bind λx=>match(LZ F t' x)[off]? with
     | some (.sl t2 l2)=>if LV F t2=te.size then(MZ n l2.length).bind λj=>K { val:=.c (.Uj id sz i off te.size j 0) }else none
     | _=>none
     else none
    | _=>none
   | [.c (.Rz id sz off len),.c (.im (.i _ n))]=>if sz=te.size then(MZ n len).bind λi=>K { val:=.c (.OX id sz (off+i) 0) }else none
   | [.c (.TF id len),.c (.im (.i _ n))]=>if te.size=1 then(MZ n len).bind λi=>K { val:=.c (.ptr id i) }else none
   | _=>none
 | some ⟨.array len e,_,_,_,_,_⟩=>match T e with
  | none=>none
  | some te=>match vals with
   | [.c (.ptr id off),.c (.im (.i _ n))]=>match mm id,off with
    | some (.row t' _),0=>if LV F t'=te.size then
      match Uc len y with
      | some i=>K { val:=.c (.OX id te.size i 0) }
      | none=>(MZ n len).bind λi=>K { val:=.c (.OX id te.size i 0) }
     else none
    | some (.box _),off=>match Uc len y with
     | some i=>K { val:=.c (.ptr id (off+i*te.size)) }
     | none=>none
    | _,_=>none
   | [.c (.OX id sz j off),.c (.im (.i _ _))]=>match Uc len y with
    | some i=>K { val:=.c (.OX id sz j (off+i*te.size)) }
    | none=>none
   | [.c (.pt cs off),.c (.im (.i _ _))]=>match Uc len y with
    | some i=>K { val:=.c (.pt cs (off+i*te.size)) }
    | none=>none
   | _=>none
 | _=>none
def Ay(t:TypeId):Option R:=
 match T t,vals with
 | some ⟨.string,_,_,_,_,_⟩,[.c (.im (.s l)),.c (.im (.i _ n))]=>(idx l n).bind λch=>kI K .u8 ch.toNat
 | _,_=>none
def Zg(t:TypeId):Option R:=
 match T t with
 | none=>none
 | some ti=>match vals with
  | [.c (.pt cs off)]=>pK (gi ti (cs.map .im) off) K
  | [.c (.UE cs)]=>if gu ti.desc then none else K { val:=.c (.pt cs 0) }
  | [.c (.ptr id off)]=>match mm id with
   | some (.box cs)=>pK (gi ti cs off) K
   | some (.Z8 cs)=>pK (gi ti (cs.map .im) off) K
   | _=>none
  | [.c (.OX id sz i off)]=>match mm id with
   | some (.row t' l)=>if sz=LV F t' then(l[i]?).bind λx=>pK (gi ti ((LZ F t' x).map .im) off) K else none
   | some (.Tf t' l)=>if sz=LV F t' then(l[i]?).bind λx=>pK (gi ti ((LZ F t' x).map .im) off) K else none
   | some (.Nb t' l)=>if sz=LV F t'&&!(gu ti.desc)then(l[i]?).bind λx=>match(LZ F t' x)[off]? with
    | some (.sl _ _)=>K { val:=.c (.TB id sz i off) }
    | some d=>if d.flat then K { val:=.c (.im d) }else none
    | none=>none
    else none
   | _=>none
  | _=>none
def zq(t:TypeId):Option R:=
 match T t with
 | none=>none
 | some ti=>match vals with
  | [.c (.ptr id off),v]=>match mm id with
   | some (.box cs)=>
    let vs:=v.cells
    if vs.length=ti.size&&vs.all MK.RP&&Nat.ble (off+vs.length) cs.length&&Nat.blt 0 vs.length then
     K { val:=.c .any,mw:=[(id,some (.box (cs.take off++vs++cs.drop (off+vs.length))))] }else none
   | _=>none
  | [.c (.OX id sz i off),v]=>match mm id,cS mm v.cells with
   | some (.row t' l),some (ds,fz)=>
    if ds.length=ti.size&&sz == LV F t'&&Nat.ble (off+ds.length) (LV F t')&&Nat.blt 0 ds.length&&!(Mh id fz)&&eK fz then
     (l[i]?).bind λx=>
      let cs:=LZ F t' x
      match O7 F t' (cs.take off++ds++cs.drop (off+ds.length))with
      | some y=>K { val:=.c .any,mw:=Ww mm fz++[(id,some (.row t' (l.set i y)))] }
      | none=>none
    else none
   | _,_=>none
  | [.c (.Uj id sz i off sz' j off'),v]=>match mm id,cS mm v.cells with
   | some (.Nb t' l),some (ds,fz)=>
    if ds.length=ti.size&&sz == LV F t'&&Nat.blt 0 ds.length&&fz.isEmpty then
     (l[i]?).bind λx=>
      match(LZ F t' x)[off]? with
      | some (.sl t2 l2)=>if sz' == LV F t2&&Nat.ble (off'+ds.length) (LV F t2)then
        (l2[j]?).bind λy=>
         match O7 F t2 ((LZ F t2 y).take off'++ds++(LZ F t2 y).drop (off'+ds.length))with
         | some z=>match O7 F t' ((LZ F t' x).set off (.sl t2 (l2.set j z)))with
          | some x'=>K { val:=.c .any,mw:=[(id,some (.Nb t' (l.set i x')))] }
          | none=>none
         | none=>none
       else none
      | _=>none
    else none
   | _,_=>none
  | _=>none
def uB(tt:Ty):Dat F→Option (List (ET F tt))
 | .c (.im .nl)=>some []
 | .c (.im (.sl t' l))=>if h:t'=tt then some (h▸l)else none
 | .c (.Nl id)=>match mm id with
  | some (.row t' l)=>if h:t'=tt then some (h▸l)else none
  | some (.Tf t' l)=>if h:t'=tt then some (h▸l)else none
  | _=>none
 | .c (.Rz id sz off n)=>match mm id with
  | some (.row t' l)=>if h:t'=tt then if sz=LV F t' then some (h▸sub l off n)else none else none
  | some (.Tf t' l)=>if h:t'=tt then if sz=LV F t' then some (h▸sub l off n)else none else none
  | _=>none
 | _=>none
def CK(tt:Ty):List (Dat F)→Option (List Nat×List (ET F tt)×List (ET F tt))
 | [.c (.im .nl),.c (.Nl id2)]=>match mm id2 with
  | some (.Nb t2 l2)=>if h:t2=tt then some ([id2],[],h▸l2)else none
  | _=>none
 | [.c (.Nl id),.c (.Nl id2)]=>match mm id,mm id2 with
  | some (.Nb t1 l1),some (.Nb t2 l2)=>if h:t1=tt then if h2:t2=tt then if Nat.beq id id2 then none else some ([id,id2],h▸l1,h2▸l2)else none else none
  | _,_=>none
 | _=>none
def xz(t0 t1:TypeId):Option R:=
 if t1 != t0 then none else
 match T t0 with
 | some ⟨.slice e,_,_,_,_,_⟩=>match T e with
  | none=>none
  | some te=>match te.ty with
   | none=>none
   | some tt=>if te.size=0 then none else
    match CK mm tt vals with
    | some (rm,l,ys)=>(app te.bytes l ys).bind λl'=>K { val:=.c (.Nl c),mw:=rm.map (λr=>(r,none))++[(c,some (.Nb tt l'))],nu:=1 }
    | none=>
    match vals with
    | [x,y]=>match uB mm tt y with
     | none=>none
     | some ys=>match x with
      | .c (.im .nl)=>(app te.bytes [] ys).bind λl'=>K { val:=.c (.Nl c),mw:=[(c,some (.row tt l'))],nu:=1 }
      | .c (.Nl id)=>match mm id with
       | some (.row t' l)=>if h:t'=tt then(app te.bytes (h▸l) ys).bind λl'=>K { val:=.c (.Nl c),mw:=[(id,none),(c,some (.row tt l'))],nu:=1 }else none
       | _=>none
      | _=>none
    | _=>none
 | _=>none
def Xg(t:TypeId):Option R:=
 match T t with
 | some ⟨.slice e,_,_,_,_,_⟩=>match T e with
  | none=>none
  | some te=>match te.ty with
   | none=>none
   | some tt=>if te.size=0 then none else
    match vals,O7 F tt te.zero with
    | [.c (.im (.i _ n)),.c (.im (.i _ m))],some z=>(Wh te.bytes n m z).bind λl=>K { val:=.c (.Nl c),mw:=[(c,some (.row tt l))],nu:=1 }
    | _,_=>none
 | _=>none
def aaG:Operand→Option Nat
 | .const (.int _ (.ofNat k))=>some k
 | _=>none
def rQ(t:TypeId)(x y:Operand):Option Nat:=
 match T t,aaG x,aaG y with
 | some ⟨.slice e,_,_,_,_,_⟩,some n,some m=>match T e with
  | some ⟨.slice _,1,b,[.nl],_,_⟩=>if n=m∧0<n∧n≤8∧b≤1000 then some n else none
  | _=>none
 | _,_,_=>none
def Fm(n:Nat):Option R:=K { val:=.c (.TF c n),mw:=[(c,some (.box (List.replicate n (.im .nl))))],nu:=1 }
def lay(place:Nat→Option (Nat×Nat))(cells:List (MK F)):List (Nat×Dat F)→Option (List (MK F))
 | []=>some cells
 | (i,v)::rest=>
  match place i with
  | none=>none
  | some (off,size)=>
   if v.cells.length=size&&Nat.ble (off+size) cells.length&&(v.cells.all MK.RP)&&Nat.blt 0 size then lay place (cells.take off++v.cells++cells.drop (off+size)) rest else none
def qU:List Field→Option (List (Nat×Nat))
 | []=>some []
 | f::l=>match T f.type with
  | none=>none
  | some ti=>match qU l with
   | none=>none
   | some r=>some ((f.offset,ti.size)::r)
def zA(t:TypeId)(ix:List Nat):Option R:=
 match T t with
 | some ⟨.struct fs,_,_,zero,_,_⟩=>match qU T fs.toList with
  | none=>none
  | some pl=>match lay (λi=>pl[i]?) (zero.map .im) (ix.zip vals)with
   | none=>none
   | some cs=>K { val:=.agg cs }
 | some ⟨.array _ e,_,_,zero,_,_⟩=>match T e with
  | none=>none
  | some te=>match lay (λi=>some (i*te.size,te.size)) (zero.map .im) (ix.zip vals)with
   | none=>none
   | some cs=>K { val:=.agg cs }
 | _=>none
def nJ(tt:Ty)(sz:Nat):Nat→List (ND F)→Option (List (ET F tt))
 | 0,_=>some []
 | n+1,l=>match O7 F tt (l.take sz)with
  | none=>none
  | some x=>match nJ tt sz n (l.drop sz)with
   | none=>none
   | some r=>some (x::r)
def rF(t:TypeId)(len:Nat)(ix:List Nat):Option R:=
 match T t with
 | some ⟨.slice e,_,_,_,_,_⟩=>match T e with
  | none=>none
  | some te=>match te.ty with
   | none=>none
   | some tt=>if te.size=0||Nat.blt 1048576 (len*te.size)||LV F tt != te.size then none else
    match lay (λi=>some (i*te.size,te.size)) ((List.replicate len te.zero).flatten.map .im) (ix.zip vals)with
    | none=>none
    | some cs=>match cS mm cs with
     | none=>none
     | some (ds,fz)=>match nJ tt te.size len ds with
      | none=>none
      | some l=>if ds.length=len*te.size&&eK fz then K { val:=.c (.Nl c),mw:=Ww mm fz++[(c,some (.row tt l))],nu:=1 }else none
 | _=>none
def ot:List (MK F)→Option (List (ND F)×List (Option Nat))
 | []=>some ([],[])
 | .Nl id::r=>match mm id with
  | some (.row t l)=>match ot r with
   | some (ds,os)=>some (.sl t l::ds,some id::os)
   | none=>none
  | _=>none
 | .im .nl::r=>match ot r with
  | some (ds,os)=>some (.nl::ds,none::os)
  | none=>none
 | .im d::r=>if d.flat then match ot r with
  | some (ds,os)=>some (d::ds,none::os)
  | none=>none
  else none
 | _::_=>none
def rb(t:TypeId)(len:Nat)(ix:List Nat):Option R:=
 match T t with
 | some ⟨.slice e,_,_,_,_,_⟩=>match T e with
  | none=>none
  | some te=>match te.ty with
   | none=>none
   | some tt=>if te.size=0||Nat.blt 1048576 (len*te.size)||LV F tt != te.size then none else
    match lay (λi=>some (i*te.size,te.size)) ((List.replicate len te.zero).flatten.map .im) (ix.zip vals)with
    | none=>none
    | some cs=>match ot mm cs with
     | none=>none
     | some (ds,os)=>match nJ tt te.size len ds with
      | none=>none
      | some l=>if ds.length=len*te.size&&eK (Mx os)then K { val:=.c (.Nl c),mw:=(Mx os).map (λr=>(r,none))++[(c,some (.Nb tt l))],nu:=1 }else none
 | _=>none
def Cr:Ctx F→Bool
 | (a,_)::(b,_)::_=>Nat.beq a b
 | _=>false
def akJ(t:TypeId):Bool:=
 match T t with
 | some ⟨.slice e,_,_,_,_,_⟩=>match T e with
  | some te=>match te.ty with
   | some tt=>tt.OU&&!(jG F tt)
   | none=>false
  | none=>false
 | _=>false
def Yg(elem:TypeId)(cs:List (MK F)):Option R:=
 match T elem with
 | none=>none
 | some ti=>if cs.length=ti.size&&cs.all MK.RP&&Nat.blt 0 cs.length then
  match ti.desc with
  | .array len e=>match T e with
   | none=>none
   | some te=>match te.ty with
    | none=>none
    | some tt=>match cS mm cs with
     | none=>none
     | some (ds,fz)=>match nJ tt te.size len ds with
      | none=>none
      | some l=>if te.size=0||ds.length != len*te.size||LV F tt != te.size||!(Nat.ble len 1048576)||!(fz.isEmpty)then none else
       K { val:=.c (.ptr c 0),mw:=[(c,some (.row tt l))],nu:=1 }
  | _=>K { val:=.c (.ptr c 0),mw:=[(c,some (.box cs))],nu:=1 }
 else none
def bound(o:Option Nat)(dflt:Int):Option Int:=match o with
 | none=>some dflt
 | some k=>match(vals[k]? : Option (Dat F))with | some (.c (.im (.i _ n)))=>some n | _=>none
def Bq(t:TypeId)(lo hi:Option Nat):Option R:=
 match T t,(vals[0]? : Option (Dat F))with
 | some ⟨.string,_,_,_,_,_⟩,some (.c (.im (.s l)))=>match bound vals lo 0,bound vals hi l.length with
  | some a,some b=>(slc l a b).bind λr=>K { val:=.c (.im (.s r)) }
  | _,_=>none
 | some ⟨.slice e,_,_,_,_,_⟩,some (.c x)=>match T e with
  | none=>none
  | some te=>match x with
   | .im (.sl t' l)=>if LV F t'=te.size then match bound vals lo 0,bound vals hi l.length with
    | some a,some b=>(slc l a b).bind λr=>K { val:=.c (.im (.sl t' r)) }
    | _,_=>none
    else none
   | .Nl id=>match mm id with
    | some (.row t' l)=>if LV F t'=te.size then match bound vals lo 0,bound vals hi l.length with
     | some a,some b=>(OV a b l.length).bind λp=>K { val:=.c (.Rz id te.size p.1 p.2) }
     | _,_=>none
     else none
    | some (.Tf t' l)=>if LV F t'=te.size then match bound vals lo 0,bound vals hi l.length with
     | some a,some b=>(slc l a b).bind λr=>K { val:=.c (.im (.sl t' r)) }
     | _,_=>none
     else none
    | _=>none
   | _=>none
 | _,_=>none
def ada(t:TypeId):Option R:=
 match T t,vals with
 | some ⟨.string,_,_,_,_,_⟩,[.c (.im (.s l))]=>kI K .i64 l.length
 | some ⟨.slice _,_,_,_,_,_⟩,[.c (.im (.sl _ l))]=>kI K .i64 l.length
 | some ⟨.slice _,_,_,_,_,_⟩,[.c (.im .nl)]=>kI K .i64 0
 | some ⟨.slice _,_,_,_,_,_⟩,[.c (.Nl id)]=>match mm id with
  | some (.row _ l)=>kI K .i64 l.length
  | some (.Tf _ l)=>kI K .i64 l.length
  | some (.Nb _ l)=>kI K .i64 l.length
  | some (.Sq _ l _ _)=>kI K .i64 l.length
  | some (.NQ _ l _)=>kI K .i64 l.length
  | _=>none
 | some ⟨.slice _,_,_,_,_,_⟩,[.c (.Rz _ _ _ n)]=>kI K .i64 n
 | some ⟨.slice _,_,_,_,_,_⟩,[.c (.TF _ n)]=>kI K .i64 n
 | some ⟨.array n _,_,_,_,_,_⟩,[_]=>kI K .i64 n
 | some ⟨.map _ _,_,_,_,_,_⟩,[.c (.Sz id)]=>match mm id with
  | some (.mp _ l)=>kI K .i64 l.length
  | _=>none
 | _,_=>none
def Pz(tt:Ty)(kd:ND F)(x:ET F tt):Bool:=match kd,LZ F tt x with
 | .i _ n,.i _ m::_=>n == m
 | .s a,.s b::_=>a == b
 | _,_=>false
def SL(tt:Ty)(D:Option TypeDesc)(kd:ND F):Bool:=match tt with
 | .st n=>match F.fs n,D,kd with
  | .int K::_,some (.int K'),.i K'' _=>decide (K=K')&&decide (K'=K'')
  | .str::_,some .string,.s _=>true
  | _,_,_=>false
 | _=>false
def r_(tt:Ty)(x:ET F tt):Option (Dat F):=match LZ F tt x with
 | _::Rk=>cond tt.Wv (some (.agg (Rk.map .im))) (match Rk with | [d]=>some (.c (.im d)) | _=>none)
 | []=>none
def U0(t:TypeId):Option (TypeId×TypeId×Ty):=match T t with
 | some ⟨.map k v,_,_,_,some (.slice tt),_⟩=>cond tt.Nz (some (k,v,tt)) none
 | _=>none
def xK(v:TypeId)(tt:Ty)(kd:ND F):Option (ET F tt):=match T v with
 | some te=>cond (gu te.desc == tt.Wv) (O7 F tt (kd::te.zero)) none
 | none=>none
def vZ(t:TypeId):Option R:=
 match U0 T t with
 | some (_,_,tt)=>K { val:=.c (.Sz c),mw:=[(c,some (.mp tt []))],nu:=1 }
 | none=>none
def xV(t:TypeId)(ok:Bool):Option R:=
 match U0 T t,vals with
 | some (k,v,tt),[.c (.Sz id),.c (.im kd)]=>match mm id with
  | some (.mp TJ l)=>if h:TJ=tt then cond (SL tt (jL T k) kd) (match xK T v tt kd with
   | some z=>match r_ tt (Oi (Pz tt kd) (h▸l) z)with
    | some d=>K { val:=cond ok (.Pt [d,.c (.im (.b (O6 (Pz tt kd) (h▸l))))]) d }
    | none=>none
   | none=>none) none else none
  | _=>none
 | _,_=>none
def tJ(tt:Ty):Dat F→Option (List (MK F))
 | .c x=>cond tt.Wv none (some [x])
 | .agg cs=>cond tt.Wv (some cs) none
 | _=>none
def sI(t:TypeId):Option R:=
 match U0 T t,vals with
 | some (k,_,tt),[.c (.Sz id),.c (.im kd),d]=>match mm id,tJ tt d with
  | some (.mp TJ l),some cs=>if h:TJ=tt then cond (SL tt (jL T k) kd) (match cS mm cs with
   | some (ds,[])=>match O7 F tt (kd::ds)with
    | some y=>K { val:=.c .any,mw:=[(id,some (.mp tt (OQ (Pz tt kd) (h▸l) y)))] }
    | none=>none
   | _=>none) none else none
  | _,_=>none
 | _,_=>none
def rW(f:Int→Int→Int)(k:IntKind)(n:Int):List (Dat F)→Option Int
 | []=>some n
 | .c (.im (.i k' m))::l=>if k=k' then rW f k (f n m) l else none
 | _=>none
def Xi(f:Int→Int→Int):Option R:=
 match vals with
 | .c (.im (.i k n))::l=>match rW f k n l with
  | some m=>kI K k m
  | none=>none
 | _=>none
def nones(l:List Nat):List (Nat×Option (Mi F)):=l.map λi=>(i,none)
def blks(l:List (Nat×Mi F)):List (Nat×Option (Mi F)):=l.map λp=>(p.1,some p.2)
def nmF:Nat→List (Mi F)→List (Nat×Mi F)
 | _,[]=>[]
 | c,B::r=>(c,B)::nmF (c+1) r
def cw(F:Fam):Nat→List (ND F)→List (Nat×Mi F)
 | _,[]=>[]
 | k,d::r=>match d with
  | .sl t l=>(k,.row t l)::cw F (k+1) r
  | _=>cw F (k+1) r
def takeC(F:Fam):Nat→List (ND F)→List (MK F)
 | _,[]=>[]
 | c,d::r=>match d with
  | .sl _ _=>.Nl c::takeC F (c+1) r
  | d=>.im d::takeC F c r
def TH.okN:ND F→Bool
 | .sl _ _=>true
 | d=>d.flat
def pR(mm:Nat→Option (Mi F)):MK F→Option (ND F×Option Nat)
 | .Nl id=>match mm id with
  | some (.row t l)=>some (.sl t l,some id)
  | _=>none
 | .im d=>match d with
  | .nl=>some (.nl,none)
  | d=>if d.flat then some (d,none)else none
 | _=>none
def hP(mm:Nat→Option (Mi F)):List (MK F)→Option (List (ND F)×List (Option Nat))
 | []=>some ([],[])
 | c::r=>match pR mm c with
  | none=>none
  | some (d,o)=>match hP mm r with
   | none=>none
   | some (ds,os)=>some (d::ds,o::os)
def YZ(id c n:Nat)(os:List (Option Nat))(B:Mi F):List (Nat×Option (Mi F)):=nones (id::Mx os)++[(c,some B),(id,some (.Pv c n))]
def Rp(id c:Nat)(t:Ty)(l:List (ET F t))(i:Nat)(ks:List Nat)(rs:List (Mi F)):List (Nat×Option (Mi F)):=
 (id,none)::(c,some (.Sq t l i ks))::blks (nmF (c+1) rs)++[(id,some (.Pv c l.length))]
def fgC(ks:List Nat):MK F→MK F
 | .im d=>cond d.flat (.im d) .one
 | .Nl id=>cond (Mh id ks) (.Nl id) .one
 | .any=>.any
 | _=>.one
def fgD(ks:List Nat):Dat F→Dat F
 | .c x=>.c (fgC ks x)
 | .agg cs=>.agg (cs.map (fgC ks))
 | _=>.c .any
def YM:Nat×Mi F→Bool
 | (_,.row t _)=>jG F t
 | _=>false
def fgt:Ctx F→Bool
 | a::b::c::_=>Nat.beq a.1 b.1&&Nat.beq b.1 c.1
 | _=>false
def mark:Ctx F→Ctx F
 | []=>[]
 | a::l=>a::a::a::l
def AL(f:FuncId)(args:List (Dat F)):Option R:=
 match look Γ f with
 | none=>none
 | some sp=>match mf Γ mm sp.ks (args.map VE)with
  | none=>none
  | some p=>if eK (Mx p.os)&&RV (Mx p.os) p.fz then
    (sp.D p.x).bind λr=>
     match aw (sp.rs++sp.ks.filter Kd.Ni) r p.bx c with
     | (ds,bs,c')=>K { val:=WG (ds.map (fgD ((bs.filter YM).map (·.1)))),mw:=nones (Mx p.os)++blks (bs.filter YM),nu:=c' - c }
   else none
def wo(f:FuncId)(args:List (Dat F)):Option R:=
 cond (fgt Γ) (AL Γ mm c K f args) <|
 match look Γ f with
 | none=>none
 | some sp=>match mf Γ mm sp.ks (cond ((sp.rs++sp.ks.filter Kd.Ni).all (Kd.M0 F)) (args.map VE) args)with
  | none=>none
  | some p=>if eK (Mx p.os)&&RV (Mx p.os) p.fz then
    (sp.D p.x).bind λr=>
     match aw (sp.rs++sp.ks.filter Kd.Ni) r p.bx c with
     | (ds,bs,c')=>K { val:=WG ds,mw:=(if(sp.rs++sp.ks.filter Kd.Ni).all (Kd.M0 F)then[]else Ww mm p.fz)++nones (Mx p.os)++blks bs,nu:=c' - c }
   else none
def rN(ks:List Ty)(r:Ty)(φ : M7 F ks→Option (ET F r))(args:List (Dat F)):Option R:=
 match O5 mm (ks.map λt=>.v t []) args [] []with
 | none=>none
 | some q=>if jG F r then match VK ks (q.x ())with
   | a=>(φ a).bind λx=>K { val:=adL r x }
  else none
where VK:(ks:List Ty)→HL F (ks.map λt=>.v t [])→M7 F ks
 | [],_=>()
 | _::ks,a=>(a.1,VK ks a.2)
def Zi(t:TypeId):Option R:=
 match T t with
 | some ⟨.slice e,_,_,_,_,_⟩=>match T e with
  | none=>none
  | some te=>match vals with
   | [.c (.Nl id),y]=>match mm id with
    | some (.row t l)=>if LV F t=te.size then match uB mm t y with
     | some ys=>K { val:=.c (.im (.i .i64 (min l.length ys.length:Nat))),mw:=[(id,some (.row t (Rm l 0 l.length ys)))] }
     | none=>none
     else none
    | _=>none
   | [.c (.Rz id sz off n),y]=>match mm id with
    | some (.row t l)=>if LV F t=te.size&&sz == te.size then match uB mm t y with
     | some ys=>K { val:=.c (.im (.i .i64 (min n ys.length:Nat))),mw:=[(id,some (.row t (Rm l off n ys)))] }
     | none=>none
     else none
    | _=>none
   | _=>none
 | _=>none
def AK(t:TypeId):Option R:=
 match T t,vals with
 | some ⟨.slice e,_,_,_,_,_⟩,[.c (.Rz id sz off n)]=>match T e with
  | none=>none
  | some te=>match mm id with
   | some (.row tt l)=>if LV F tt=te.size&&sz == te.size&&Nat.blt 0 te.size then match O7 F tt te.zero with
    | some z=>K { val:=.Pt [],mw:=[(id,some (.row tt (Rm l off n (List.replicate n z))))] }
    | none=>none
    else none
   | _=>none
 | _,_=>none
def Zh(t:TypeId)(hi:Option Nat):Option R:=
 match T t,vals with
 | some ⟨.slice e,_,_,_,_,_⟩,.c (.Nl id)::_=>match T e with
  | none=>none
  | some te=>match mm id with
   | some (.row t' l)=>if LV F t'=te.size then match bound vals hi l.length with
    | some b=>(OV 0 b l.length).bind λp=>K { val:=.c (.Nl c),mw:=[(id,none),(c,some (.row t' (l.take p.2)))],nu:=1 }
    | none=>none
    else none
   | _=>none
 | _,_=>none
def Zk(cl:Call):Option R:=
 match cl.callee with
 | .builtin .len=>match cl.argTypes,cl.args with
  | ⟨[t]⟩,⟨[_]⟩=>ada T vals mm K t
  | _,_=>none
 | .builtin .append=>match cl.argTypes,cl.args with
  | ⟨[t0,t1]⟩,⟨[_,_]⟩=>xz T vals mm c K t0 t1
  | _,_=>none
 | .builtin .copy=>match cl.argTypes,cl.args with
  | ⟨[t,_]⟩,⟨[_,_]⟩=>Zi T vals mm K t
  | _,_=>none
 | .builtin .clear=>match cl.argTypes,cl.args with
  | ⟨[t]⟩,⟨[_]⟩=>AK T vals mm K t
  | _,_=>none
 | .builtin .min=>Xi vals K Nh
 | .builtin .max=>Xi vals K imax
 | .value _=>match vals with
  | .c (.im (.v (.func (.func f) ⟨[]⟩ ⟨[]⟩)))::args=>wo Γ mm c K f args
  | .RZ (.func f) fs cs::args=>wo Γ mm c K f (fs++args++cs)
  | .fv ks r φ::args=>rN mm K ks r φ args
  | _=>none
 | _=>none
def Ze:Option R:=
 match vals with
 | [.c (.im (.b x)),a,b]=>cond x (K { val:=a }) (K { val:=b })
 | _=>none
def uo:Option R:=
 match vals with
 | [.c (.ptr id off)]=>K { val:=.c (.ptr id off) }
 | [.c (.OX id sz i off)]=>K { val:=.c (.OX id sz i off) }
 | [.c (.pt cs off)]=>K { val:=.c (.pt cs off) }
 | _=>none
def zF(fn:Fn)(first captured:Nat):Option R:=
 if first=0&&captured=0 then K { val:=.c (.im (.v (.func fn #[] #[]))) }
 else K { val:=.RZ fn (vals.take first) (vals.drop first) }
def Xu(lo:Option Operand):Nat:=match lo with | some _=>2 | none=>1
def ob(o:Option Operand)(k:Nat):Option Nat:=match o with | some _=>some k | none=>none
def tOp(o:Op):Option R:=
 match o with
 | .move _ | .assign _=>match vals with | [x]=>K { val:=x } | _=>none
 | .pick _ _ _=>Ze vals K
 | .alloc elem=>match T elem with | some ti=>Yg T mm c K elem (ti.zero.map .im) | none=>none
 | .box elem _=>match vals with | [x]=>Yg T mm c K elem x.cells | _=>none
 | .build t parts=>zA T vals K t (parts.toList.map (·.1))
 | .buildSlice t len parts=>if Cr Γ && akJ T t then rb T vals mm c K t len (parts.toList.map (·.1))else rF T vals mm c K t len (parts.toList.map (·.1))
 | .load t _=>Zg T vals mm K t
 | .store t _ _=>zq T vals mm K t
 | .nilCheck _=>uo vals K
 | .binOp op t _ y _=>adb T vals K op t y
 | .unOp op _ _=>tUn vals K op
 | .convert s d _=>Zj T vals mm K s d
 | .makeFunc fn first captured=>zF vals K fn first.size captured.size
 | .makeSlice t x y=>if Cr Γ then(match rQ T t x y with | some n=>Fm c K n | none=>Xg T vals c K t)else Xg T vals c K t
 | .slice t _ lo hi none=>if fgt Γ && lo.isNone then Zh T vals mm c K t (ob hi 1)else Bq T vals mm K t (ob lo 1) (ob hi (Xu lo))
 | .fieldAddr s _ f=>A0 T vals K s f
 | .field s _ f=>Zf T vals K s f
 | .indexAddr t _ y=>sV T vals mm K t y
 | .index t _ _=>Ay T vals K t
 | .makeMap t none=>vZ T c K t
 | .lookup t _ _ ok=>xV T vals mm K t ok
 | .mapUpdate t _ _ _=>sI T vals mm K t
 | .extract _ i=>match vals with | [.Pt ds]=>(match ds[i]? with | some d=>K { val:=d } | none=>none) | _=>none
 | .call cl=>Zk T Γ vals mm c K cl
 | _=>none
end
end
set_option linter.unusedVariables false
set_option linter.unusedSimpArgs false
structure Rec where
 rs:List Nat
 d:Option Nat
 tm:List Nat
 wm:List Nat
 X_:Nat
def qQ:List Operand→List Nat
 | []=>[]
 | .tmp t::l=>t::qQ l
 | _::l=>qQ l
def MX:List Edge→List Nat
 | []=>[]
 | x::l=>if Region.binds .any x then x.on::MX l else MX l
def P9(recs:List Rec):List Nat→Nat
 | []=>0
 | i::l=>Nat.lor (Nat.lor (2 ^ i) ((recs[i]?).elim 0 (·.X_))) (P9 recs l)
def RU(ops:List Oper)(j:Nat):Option Nat:=(ops[j]?).bind (·.dst)
def meets(a b:List Nat):Bool:=match a with | []=>false | x::l=>Mh x b||meets l b
def Rec.conflict(a b:Rec):Bool:=
 (match a.d with | some x=>Mh x b.rs||(match b.d with | some y=>Nat.beq x y | none=>false) | none=>false) ||
 (match b.d with | some y=>Mh y a.rs | none=>false) ||
 meets a.wm b.tm||meets a.wm b.wm||meets b.wm a.tm
def rX(b:Rec):Nat→List Rec→Bool
 | _,[]=>true
 | i,a::l=>(Nat.testBit b.X_ i||!(a.conflict b))&&rX b (i+1) l
def tv(all:List Rec):List Rec→Bool
 | []=>true
 | b::l=>rX b 0 (all.take (all.length - (b::l).length))&&tv all l
def r9:Nat→List Oper→Bool
 | _,[]=>true
 | i,o::l=>(MX o.after.toList).all (λk=>Nat.blt k i)&&r9 (i+1) l
section
variable{F:Fam}
def MK.ids:MK F→List Nat
 | .ptr id _ | .OX id _ _ _ | .Rz id _ _ _ | .Nl id | .TB id _ _ _ | .Uj id _ _ _ _ _ _ | .TF id _ | .Sz id=>[id]
 | _=>[]
def xX:List (MK F)→List Nat
 | []=>[]
 | c::l=>c.ids++xX l
mutual
def Dat.ids:Dat F→List Nat
 | .c x=>x.ids
 | .agg cs=>xX cs
 | .RZ _ fs cs=>ph fs++ph cs
 | .gh id=>[id]
 | _=>[]
def ph:List (Dat F)→List Nat
 | []=>[]
 | d::l=>d.ids++ph l
end
def AV(mm:Nat→Option (Mi F)):Nat→Nat→List Nat
 | 0,_=>[]
 | n+1,k=>k::match mm k with | some (.Pv k' _)=>AV mm n k' | _=>[]
def z7(mm:Nat→Option (Mi F)):List Nat→List Nat
 | []=>[]
 | id::l=>id::((match mm id with | some (.Pv k _)=>AV mm 9 k | _=>[])++z7 mm l)
def ER(mm:Nat→Option (Mi F)):List Nat→List Nat
 | []=>[]
 | id::l=>(match mm id with | some (.box cs)=>z7 mm (xX cs) | some (.Pv k _)=>AV mm 9 k | _=>[])++ER mm l
def reach(mm:Nat→Option (Mi F))(ids:List Nat):List Nat:=ids++ER mm ids
def CQ(mm:Nat→Option (Mi F))(o:Op)(vals:List (Dat F)):List Nat:=
 match o with
 | .call _=>reach mm (reach mm (ph vals))
 | .indexAddr _ _ _=>ph vals
 | .load _ _=>z7 mm (ph vals)
 | .store _ _ _ | .slice _ _ _ _ _ | .buildSlice _ _ _ | .box _ _ | .convert _ _ _ | .lookup _ _ _ _ | .mapUpdate _ _ _ _=>reach mm (ph vals)
 | _=>[]
def Xj(m:Nat→Option (Mi F))(l:List Nat):Nat→Option (Mi F):=λid=>if Mh id l then m id else none
structure TS(F:Fam) where
 E:List (Nat×Dat F)
 M:List (Nat×Mi F)
 c:Nat
 dE:List Nat:=[]
 dM:List Nat:=[]
def Vf(E:List (Nat×Dat F))(dst:Option Nat)(d:Dat F):List (Nat×Dat F):=
 match dst with
 | some x=>(x,d)::E
 | none=>E
def R7(M:List (Nat×Mi F)):List (Nat×Option (Mi F))→List (Nat×Mi F)
 | []=>M
 | (id,none)::r=>R7 (M.filter λp=>!(Nat.beq id p.1)) r
 | (id,some B)::r=>R7 ((id,B)::M.filter λp=>!(Nat.beq id p.1)) r
section
variable(T:TypeId→Option (TI F))(Γ : Ctx F)(nv n:Nat)
def dirty(dE:List Nat):Option Nat→List Nat
 | some x=>if Nat.blt x nv then x::dE else dE
 | none=>dE
variable{R:Type}
def Zl(vals:List (Dat F))(mm:Nat→Option (Mi F))(c:Nat)(K:SX F→Option R)(o:Op)(id sz i off:Nat):Option R:=
 match mm id with
 | some (.Nb t l)=>if sz=LV F t then(l[i]?).bind λx=>match(LZ F t x)[off]? with
  | some (.sl t2 l2)=>tOp T Γ (.c (.Nl (c+1))::vals.tail) (Ms mm (Rp id c t l i [off] [.row t2 l2])) (c+2) (λr=>K ⟨r.val,Rp id c t l i [off] [.row t2 l2]++r.mw,2+r.nu⟩) o
  | _=>none
  else none
 | _=>none
def Xf(mm:Nat→Option (Mi F))(c:Nat)(K:SX F→Option R)(ty:TypeId)(id sz i off:Nat)(v:Dat F)(t:Ty)(l:List (ET F t))(i0:Nat)(ks:List Nat):Option R:=
 match T ty with
 | none=>none
 | some ti=>match hP mm v.cells with
  | none=>none
  | some (ds,os)=>
   if ds.length=ti.size&&sz == LV F t&&Nat.ble (off+ds.length) (LV F t)&&Nat.blt 0 ds.length&&eK (id::Mx os)&&ks.all (λq=>Nat.ble off q&&Nat.blt q (off+ds.length))then
    cond (ks.isEmpty||Nat.beq i i0) ((l[i]?).bind λx=>match O7 F t ((LZ F t x).take off++ds++(LZ F t x).drop (off+ds.length))with
     | some y=>K { val:=.c .any,mw:=YZ id c l.length os (.Nb t (l.set i y)),nu:=1 }
     | none=>none) none
   else none
def Zc(mm:Nat→Option (Mi F))(c:Nat)(K:SX F→Option R)(ty:TypeId)(id sz i off:Nat)(v:Dat F)(t:Ty)(l:List (ET F t))(j:Nat):Option R:=
 match T ty with
 | none=>none
 | some ti=>match hP mm v.cells with
  | none=>none
  | some (ds,os)=>
   if ds.length=ti.size&&sz == LV F t&&Nat.ble (off+ds.length) (LV F t)&&Nat.blt 0 ds.length&&eK (id::Mx os)then
    cond (Nat.beq i j) ((l[i]?).bind λx=>
     if((LZ F t x).take off++(LZ F t x).drop (off+ds.length)).all TH.flat then
      match O7 F t ((LZ F t x).take off++ds++(LZ F t x).drop (off+ds.length))with
      | some y=>K { val:=.c .any,mw:=YZ id c l.length os (.NQ t (l.set i y) (j+1)),nu:=1 }
      | none=>none
     else none) none
   else none
def z5(c:Nat)(K:SX F→Option R)(ty:TypeId)(id sz i off:Nat)(t:Ty)(l:List (ET F t)):Option R:=
 match T ty with
 | none=>none
 | some ti=>if sz == LV F t&&gu ti.desc then(l[i]?).bind λx=>
   if(((LZ F t x).drop off).take ti.size).all TH.flat then pK (gi ti ((LZ F t x).map λd=>cond d.flat (.im d) .one) off) (λr=>K r)
   else if(LZ F t x).all TH.okN then match gi ti (takeC F (c+1) (LZ F t x)) off with
    | some d=>K { val:=d,mw:=Rp id c t l i ((cw F 0 (LZ F t x)).map (·.1)) ((cw F 0 (LZ F t x)).map (·.2)),nu:=1+(cw F 0 (LZ F t x)).length }
    | none=>none
   else none
  else none
def AF(K:SX F→Option R)(ty:TypeId)(sz i off:Nat)(t:Ty)(l:List (ET F t))(j:Nat):Option R:=
 match T ty with
 | none=>none
 | some ti=>if sz == LV F t then cond (Nat.ble j i) ((l[i]?).bind λx=>pK (gi ti ((LZ F t x).map .im) off) (λr=>K r)) none else none
def aax(vals:List (Dat F))(mm:Nat→Option (Mi F))(c:Nat)(K:SX F→Option R)(o:Op):Option R:=
 match o,vals with
 | .call ⟨.builtin .append,_,_⟩,.c (.TB id sz i off)::_=>Zl T Γ vals mm c K o id sz i off
 | .store ty _ _,[.c (.OX id sz i off),v]=>match mm id with
  | some (.Nb t l)=>Xf T mm c K ty id sz i off v t l 0 []
  | some (.Sq t l i0 ks)=>Xf T mm c K ty id sz i off v t l i0 ks
  | some (.NQ t l j)=>Zc T mm c K ty id sz i off v t l j
  | _=>tOp T Γ vals mm c K o
 | .load ty _,[.c (.OX id sz i off)]=>match mm id with
  | some (.Nb t l)=>match T ty with
   | some ti=>if gu ti.desc then z5 T c K ty id sz i off t l else tOp T Γ vals mm c K o
   | none=>none
  | some (.NQ t l j)=>AF T K ty sz i off t l j
  | _=>tOp T Γ vals mm c K o
 | .indexAddr ty _ _,[.c (.Nl id),.c (.im (.i _ n))]=>match mm id with
  | some (.Pv _ len)=>match T ty with
   | some ⟨.slice e,_,_,_,_,_⟩=>match T e with
    | some te=>(MZ n len).bind λi=>K { val:=.c (.OX id te.size i 0) }
    | none=>none
   | _=>none
  | _=>tOp T Γ vals mm c K o
 | _,_=>tOp T Γ vals mm c K o
def ac_(vals:List (Dat F))(mm:Nat→Option (Mi F))(c:Nat)(K:SX F→Option R)(o:Op):Option R:=
 match o with
 | .indexAddr _ _ _=>aax T Γ vals mm c K o
 | o=>aax T Γ (vals.map (aaz mm)) mm c K o
def tGo(o:Oper)(gs:List Nat)(s:TS F)(recs:List Rec)(K:TS F→List Rec→Option R):Option R:=
 let vals:=o.op.operands.toList.map (opd (look s.E))
 let tm:=CQ (look s.M) o.op vals
 ac_ T Γ vals (Xj (look s.M) tm) s.c (λres=>
  if(match o.dst with | some d=>Nat.blt d n | none=>true)then
   K ⟨Vf s.E o.dst res.val,R7 s.M res.mw,s.c+res.nu,dirty nv s.dE o.dst,res.mw.map (·.1)++s.dM⟩
    (recs++[⟨gs++qQ o.op.operands.toList,o.dst,tm,res.mw.map (·.1),P9 recs (MX o.after.toList)⟩])
  else none) o.op
def VN(o:Oper)(gs:List Nat)(s:TS F)(recs:List Rec)(K:TS F→List Rec→Option R):Option R:=
 if(match o.dst with | some d=>Nat.blt d n | none=>true)then
  K ⟨Vf s.E o.dst (.Pt []),s.M,s.c,dirty nv s.dE o.dst,s.dM⟩ (recs++[⟨gs,o.dst,[],[],P9 recs (MX o.after.toList)⟩])
 else none
def Zd(ops:List Oper)(o:Oper)(s:TS F)(recs:List Rec)(K:TS F→List Rec→Option R):Option R:=
 match o.guard with
 | none=>tGo T Γ nv n o [] s recs K
 | some (j,want)=>match RU ops j with
  | none=>none
  | some d=>match look s.E d with
   | some (.c (.im (.b x)))=>
    cond x
     (let s':TS F:=⟨(d,.c (.im (.b true)))::s.E,s.M,s.c,s.dE,s.dM⟩
      if want then tGo T Γ nv n o [d] s' recs K else VN nv n o [d] s' recs K)
     (let s':TS F:=⟨(d,.c (.im (.b false)))::s.E,s.M,s.c,s.dE,s.dM⟩
      if want then VN nv n o [d] s' recs K else tGo T Γ nv n o [d] s' recs K)
   | some (.Pt [])=>VN nv n o [d] s recs K
   | _=>none
def WH(ops:List Oper):List Oper→TS F→List Rec→(TS F→List Rec→Option R)→Option R
 | [],s,recs,K=>K s recs
 | o::l,s,recs,K=>Zd T Γ nv n ops o s recs λs' aiQ=>WH ops l s' aiQ K
def rV(kp:List Nat):List (Nat×Dat F)→List Nat→(List (Nat×Dat F)→Option R)→Option R
 | [],_,K=>K []
 | (x,d)::r,seen,K=>if(Nat.blt x nv||Mh x kp)&&!(Mh x seen)then rV kp r (x::seen) λr'=>K ((x,d)::r')else rV kp r seen K
def ya:List Oper→List Nat
 | []=>[]
 | [o]=>o.dst.toList
 | _::l=>ya l
def Tv(kp:List Nat)(ops:List Oper)(draw:Bool)(s:TS F)(K:TS F→Option R):Option R:=
 WH T Γ nv n ops ops s [] λs' recs=>
  if(if draw then r9 0 ops&&tv recs recs else true)then
   rV nv (ya ops++kp) s'.E [] λE'=>K ⟨E',s'.M,s'.c,s'.dE,s'.dM⟩
  else none
end
abbrev Ks:=List (Nat×Kd)
section
variable(F:Fam)
@[reducible] def TLS:Ks→Type
 | []=>Unit
 | [k]=>k.2.El F
 | k::l::r=>k.2.El F×TLS (l::r)
@[reducible] def ExT:List (Nat×Ks)→Type
 | []=>Empty
 | [x]=>TLS F x.2
 | x::y::r=>TLS F x.2 ⊕ ExT (y::r)
end
inductive Hint where
 | z
 | s (a b:Hint)
 | c (a b:Hint)
 | b (a:Hint)
 | r (kp:List Nat)
 | l (ks:Ks) (dr:List Nat) (xs:List (Nat×Ks)) (a:Hint)
 | j (dr:List Nat) (xs:List (Nat×Ks)) (a:Hint)
 | u (n:Nat) (a:Hint)
 | g (ks:Ks) (dr:List Nat) (a:Hint)
 | p (a b:Hint)
 | m (x ix ex:Nat) (dr:List Nat) (a:Hint)
def Hint.isL:Hint→Bool
 | .l _ _ _ _=>true
 | _=>false
def keysOf(ks:Ks):List Nat:=ks.map (·.1)
def PW(xs:List (Nat×Ks)):List Nat:=xs.flatMap λx=>keysOf x.2
section
variable(T:TypeId→Option (TI F))(Γ : Ctx F)(nv n:Nat)
def Uq:List Nat→Option Nat
 | []=>none
 | x::_=>if Nat.ble 5000 x then some (x - 5000)else none
def YN(ow:List Nat)(id:Nat):Dat F:=match Uq ow with | some n=>cond (Nat.beq n 4997) (.gh id) (.c (.TF id n)) | none=>.c (.ptr id 0)
def VL:Dat F→Dat F
 | .c (.TF id _)=>.c (.ptr id 0)
 | .gh id=>.c (.ptr id 0)
 | d=>d
def iD(k:Kd)(d:Option (Dat F)):Option Nat:=
 match k,d with
 | .box _ ow,some (.c (.ptr id 0))=>match Uq ow with | none=>some id | some _=>none
 | .box _ ow,some (.c (.TF id n))=>match Uq ow with | some m=>if Nat.beq n m&&!(Nat.beq m 4997)then some id else none | none=>none
 | .box _ ow,some (.gh id)=>match Uq ow with | some m=>if Nat.beq m 4997 then some id else none | none=>none
 | .row t arr,some d=>xo t arr d
 | _,_=>none
def wS(s0 s:TS F)(x:Nat)(k:Kd):Option (Pk (k.El F)):=
 match iD k (look s0.E x)with
 | some id=>match look s.E x with
  | none=>none
  | some d=>match iD k (some d)with
   | some id'=>if Nat.beq id id' then Rq Γ (look s.M) k (VL d)else none
   | none=>none
 | none=>match look s.E x with
  | none=>none
  | some d=>Rq Γ (look s.M) k d
def T_(s0 s:TS F):(ks:Ks)→Option (Pk (TLS F ks))
 | []=>some ⟨(),[],[],[]⟩
 | [k]=>wS Γ s0 s k.1 k.2
 | k::l::r=>match wS Γ s0 s k.1 k.2 with
   | none=>none
   | some p=>match T_ s0 s (l::r)with
    | none=>none
    | some q=>some ⟨(p.x,q.x),p.os++q.os,p.fz++q.fz,p.bx++q.bx⟩
def Yf(id:Nat):(k:Kd)→k.El F→Nat→Dat F×List (Nat×Mi F)×Nat
 | .box t ow,x,c=>match OT ow 0 c (LZ F t x)with
  | (cs,bs,c')=>(YN ow id,(id,.box cs)::bs,c')
 | .row t arr,x,c=>(Ph t arr id,[(id,Te t x)],c)
 | _,_,c=>(.c .any,[],c)
def Sc(E0:List (Nat×Dat F))(x:Nat)(k:Kd)(v:k.El F)(c:Nat):Dat F×List (Nat×Mi F)×Nat:=
 match iD k (look E0 x)with
 | some id=>Yf id k v c
 | none=>O8 k v c
def M6(E0:List (Nat×Dat F)):(ks:Ks)→TLS F ks→Nat→List (Nat×Dat F)×List (Nat×Mi F)×Nat
 | [],_,c=>([],[],c)
 | [k],a,c=>match Sc E0 k.1 k.2 a c with
  | (d,bs,c')=>([(k.1,d)],bs,c')
 | k::l::r,a,c=>match Sc E0 k.1 k.2 a.1 c with
  | (d,bs,c')=>match M6 E0 (l::r) a.2 c' with
   | (ds,bs',c'')=>((k.1,d)::ds,bs++bs',c'')
def aT(s:TS F)(xs:List Nat):List Nat:=reach (look s.M) (xs.flatMap λx=>match look s.E x with | some d=>d.ids | none=>[])
def SN(c0:Nat)(kill:List Nat)(l:List Nat):Bool:=l.all λid=>Nat.ble c0 id||Mh id kill
def Oq(s0:TS F)(dr:List Nat)(c0:Nat)(kill:List Nat)(ks:Ks)(s:TS F):Option (TLS F ks):=
 if s.dE.all (λx=>Mh x dr)&&SN c0 kill s.dM then
  match T_ Γ s0 s ks with
  | none=>none
  | some p=>if eK (Mx p.os)&&RV (Mx p.os) p.fz&&SN c0 kill (Mx p.os)&&SN c0 kill p.fz then some p.x else none
 else none
def TW(s0:TS F)(dr:List Nat)(c0:Nat)(kill:List Nat):(xs:List (Nat×Ks))→Nat→TS F→Option (ExT F xs)
 | [],_,_=>none
 | [x],e,s=>if Nat.beq x.1 e then Oq Γ s0 dr c0 kill x.2 s else none
 | x::y::r,e,s=>if Nat.beq x.1 e then(match Oq Γ s0 dr c0 kill x.2 s with | some v=>some (.inl v) | none=>none)else(match TW s0 dr c0 kill (y::r) e s with | some v=>some (.inr v) | none=>none)
def merge(dr:List Nat)(kill:List Nat)(s:TS F)(ks:Ks)(v:TLS F ks):TS F:=
 match M6 s.E ks v s.c with
 | (es,bs,c')=>⟨es++s.E.filter (λp=>Nat.blt p.1 nv&&!(Mh p.1 dr)),bs++s.M.filter (λp=>!(Mh p.1 kill)),c',dr++s.dE,kill++s.dM⟩
def clean(s:TS F):TS F:=⟨s.E,s.M,s.c,[],[]⟩
def Tp{R:Type}(K:(e:Nat)→(ks:Ks)→TLS F ks→Option R):(xs:List (Nat×Ks))→ExT F xs→Option R
 | []=>λ_=>none
 | [x]=>λv=>K x.1 x.2 v
 | x::y::r=>λv=>match v with
  | .inl a=>K x.1 x.2 a
  | .inr b=>Tp K (y::r) b
end
end
def iter{τ σ : Type}(step:τ→Option (τ ⊕ σ)):Nat→τ→Option σ
 | 0,_=>none
 | n+1,t=>match step t with
  | none=>none
  | some (.inl t')=>iter step n t'
  | some (.inr r)=>some r
noncomputable def loop{τ σ : Type}(step:τ→Option (τ ⊕ σ))(t:τ):Option σ:=
 @dite _ (∃r n,iter step n t=some r) (Classical.propDecidable _) (λh=>some h.choose) (λ_=>none)
theorem uv{τ σ : Type}{step:τ→Option (τ ⊕ σ)}{r:σ}:∀{n:Nat}(k:Nat){t:τ},iter step n t=some r→iter step (n+k) t=some r
 | 0,_,_,h=>by simp[iter]at h
 | n+1,k,t,h=>by
  rw[Nat.add_right_comm];simp only[iter]at h ⊢;split at h
  ·cases h
  ·exact uv k h
  ·exact h
theorem rr{τ σ : Type}{step:τ→Option (τ ⊕ σ)}{t:τ}{r:σ}(h:loop step t=some r):∃n,iter step n t=some r:=by
 unfold loop at h;split at h
 ·rename_i hx;cases h;exact hx.choose_spec
 ·cases h
theorem uu{τ σ : Type}{step:τ→Option (τ ⊕ σ)}{t:τ}{r:σ}{n:Nat}(h:iter step n t=some r):loop step t=some r:=by unfold loop;have hx:∃r n,iter step n t=some r:=⟨r,n,h⟩;rw[dif_pos hx];obtain⟨m,hm⟩:=hx.choose_spec;have h1:=uv m h;have h2:=uv n hm;rw[QfB]at h2;rw[h1]at h2;cases h2;rfl
theorem aP{τ σ : Type}(step:τ→Option (τ ⊕ σ))(t:τ):loop step t=match step t with
  | none=>none
  | some (.inl t')=>loop step t'
  | some (.inr r)=>some r:=by
 cases hl:loop step t with
 | some r=>
  obtain⟨n,hn⟩:=rr hl
  cases n with
  | zero=>simp[iter]at hn
  | succ n=>
   simp only[iter]at hn;split at hn
   ·cases hn
   ·exact(uu hn).symm
   ·cases hn;rfl
 | none=>
  split
  ·rfl
  ·rename_i t' hs
   cases hl':loop step t' with
   | none=>rfl
   | some r=>
    obtain⟨n,hn⟩:=rr hl'
    have:iter step (n+1) t=some r:=by simp only[iter,hs];exact hn
    rw[uu this]at hl;cases hl
  ·rename_i r hs
   have:iter step 1 t=some r:=by simp only[iter,hs]
   rw[uu this]at hl;cases hl
def Sg{τ α ω : Type}(step:ω→τ→α→Option τ)(l:List α):Nat→List Nat→τ→τ→Prop
 | 0,_,t,r=>t=r
 | m+1,seen,t,r=>∀k x,k∉seen→l[k]? = some x→∃t',(∀ob,step ob t x=some t')∧Sg step l m (seen++[k]) t' r
noncomputable def rng{τ α ω : Type}(t0:ω→Option τ)(step:ω→τ→α→Option τ)(l:List α):Option τ:=
 @dite _ (∃r t,(∀ob,t0 ob=some t)∧Sg step l l.length [] t r) (Classical.propDecidable _) (λh=>some h.choose) (λ_=>none)
theorem Ge{τ α ω : Type}{t0:ω→Option τ}{step:ω→τ→α→Option τ}{l:List α}{r:τ}(h:rng t0 step l=some r):∃t,(∀ob,t0 ob=some t)∧Sg step l l.length [] t r:=by
 unfold rng at h;split at h
 ·rename_i hx;cases h;exact hx.choose_spec
 ·cases h
structure RgS where
 a:Nat
 b:Nat
 it:Nat
 d1:Nat
 d3:Nat
 ty:TypeId
 rest:List Oper
def xG(n:Nat)(PY O4 Rw:List Oper)(c2:Nat):Option RgS:=
 match PY,O4,Rw with
 | [⟨some b,.move (.tmp a),_,_,_,none⟩,⟨some it,.range ty (.tmp b'),_,_,_,none⟩],[⟨some d1,.next (.tmp it') false,_,_,_,none⟩,⟨some c2',.extract (.tmp d1') 0,_,_,_,none⟩],⟨some d3,.entry (.tmp it''),_,_,_,none⟩::rest=>
  if Nat.beq b' b&&Nat.beq it' it&&Nat.beq c2' c2&&Nat.beq d1' d1&&Nat.beq it'' it&&Nat.blt b n&&Nat.blt it n&&Nat.blt d1 n&&Nat.blt c2 n&&Nat.blt d3 n&&!(Nat.beq it b)&&!(Nat.beq it d1)&&!(Nat.beq it c2)&&!(Nat.beq it d3)&&!(Nat.beq c2 d1)then some ⟨a,b,it,d1,d3,ty,rest⟩else none
 | _,_,_=>none
structure RgC where
 PY:Array Oper
 O4:Array Oper
 Rw:Array Oper
 i:Nat
 i':Nat
 j:Nat
 c2:Nat
 body:Code
def z4:Code→Option RgC
 | .seq (.region _ PY false) (.block i (.loop (.seq (.region _ O4 false) (.seq (.cond (.tmp c2) .skip (.exit i')) (.block j (.seq (.region _ Rw false) body))))))=>some ⟨PY,O4,Rw,i,i',j,c2,body⟩
 | _=>none
section
variable{F:Fam}(T:TypeId→Option (TI F))(Γ : Ctx F)(nv n:Nat)
def Sb(s:TS F)(it:Nat)(ob:Obj):TS F:=⟨(it,.c (.ptr s.c 0))::s.E,(s.c,.it ob)::s.M,s.c+1,[],[]⟩
def itC(s:TS F)(it:Nat):TS F:=⟨(it,.c .any)::s.E,s.M,s.c+1,it::s.dE,s.dM⟩
def A7(s:TS F)(dr:List Nat)(kill:List Nat)(ks:Ks)(h:RgS)(c2:Nat)(ob:Obj)(t:TLS F ks)(kd:ND F)(d:Dat F):TS F:=
 let m:=merge nv dr kill (Sb s h.it ob) ks t
 ⟨(h.d3,.Pt [.c (.im kd),d])::(c2,.c (.im (.b true)))::(h.d1,.Pt [.c (.im (.b true)),.c (.im kd),d])::m.E,m.M,m.c,[],[]⟩
noncomputable def zC(f:TS F→{R:Type}→(Nat→TS F→Option R)→Option R)(PY O4 Rw:List Oper)(j c2:Nat)(ks:Ks)(dr:List Nat)(s:TS F){R:Type}(K:Nat→TS F→Option R):Option R:=
 match xG n PY O4 Rw c2 with
 | none=>none
 | some h=>match look s.E h.a with
  | some (.c (.Sz mid))=>match look s.M mid with
   | some (.mp tt l)=>match U0 T h.ty with
    | none=>none
    | some _=>
     if Nat.blt mid s.c&&!(Mh mid (aT s dr))&&!(Mh s.c (aT s dr))&&Nat.blt h.it nv&&!(Mh h.it dr) && [h.b,h.d1,c2,h.d3].all (λx=>Nat.ble nv x||Mh x dr) && [h.b,h.d1,c2].all (λx=>!(Mh x (keysOf ks)))&&tt.Nz then
      (rng (λob=>Oq Γ (Sb s h.it ob) dr (s.c+1) (aT s dr) ks (Sb s h.it ob))
       (λob t x=>match LZ F tt x,r_ tt x with
        | kd::_,some d=>WH T Γ nv n Rw h.rest (A7 nv s dr (aT s dr) ks h c2 ob t kd d) [] λs2 _=>rV nv (ya Rw) s2.E [] λE'=>f ⟨E',s2.M,s2.c,s2.dE,s2.dM⟩ λe s'=>
         if Nat.beq e 0||Nat.beq e (j+2)then Oq Γ (Sb s h.it ob) dr (s.c+1) (aT s dr) ks s' else none
        | _,_=>none) l).bind λv=>K 0 (merge nv dr (aT s dr) (itC s h.it) ks v)
     else none
   | _=>none
  | _=>none
def MU:Code→TS F→{R:Type}→(Nat→TS F→Option R)→Option R
 | .skip,s,_,K=>K 0 s
 | .exit i,s,_,K=>K (i+2) s
 | .ret,s,_,K=>K 1 s
 | .region _ ops draw,s,_,K=>Tv T Γ nv n [] ops.toList draw s (K 0)
 | .seq a b,s,_,K=>MU a s λe s'=>match e with | 0=>MU b s' K | e=>K e s'
 | .cond (.tmp t) a b,s,_,K=>match look s.E t with
  | some (.c (.im (.b x)))=>cond x (MU a s K) (MU b s K)
  | _=>none
 | .cond (.const (.bool x)) a b,s,_,K=>cond x (MU a s K) (MU b s K)
 | .block i a,s,_,K=>MU a s λe s'=>if Nat.beq e (i+2)then K 0 s' else K e s'
 | .scope a,s,_,K=>MU a s K
 | .label _,s,_,K=>K 0 s
 | _,_,_,_=>none
def unr(f:TS F→{R:Type}→(Nat→TS F→Option R)→Option R):Nat→TS F→{R:Type}→(Nat→TS F→Option R)→Option R
 | 0,_,_,_=>none
 | n+1,s,_,K=>f s λe s'=>match e with | 0=>unr f n s' K | e=>K e s'
def wL(id:Nat)(s:TS F):TS F:=match look s.M id with
 | some (.Nb t l)=>⟨s.E,R7 s.M [(id,none),(s.c,some (.Nb t l)),(id,some (.Pv s.c l.length))],s.c+1,s.dE,id::s.c::s.dM⟩
 | _=>s
def Xx(x gs:Nat)(s:TS F):TS F:=match look s.E x with
 | some (.RZ _ [] [_,.c (.ptr id 0)])=>⟨(gs,.gh id)::s.E,s.M,s.c,gs::s.dE,s.dM⟩
 | _=>s
def nU:List Nat→TS F→TS F
 | [],s=>s
 | x::r,s=>nU r (cond (Nat.ble 10000 x) (cond (Nat.ble 1000000 x) (Xx (x / 1000 - 1000) (x % 1000) s) (wL (x - 10000) s)) s)
def OI(nv:Nat)(s:TS F)(id ix:Nat)(dr:List Nat)(B:Mi F)(len:Nat)(n:Int):TS F:=
 ⟨(ix,.c (.im (.i .i64 n)))::s.E.filter (λp=>Nat.blt p.1 nv&&!(Mh p.1 (ix::dr))),(id,.Pv s.c len)::(s.c,B)::s.M.filter (λp=>!(Nat.beq id p.1)),s.c+1,ix::(dr++s.dE),id::s.dM⟩
def VI(c0 id ix:Nat)(dr:List Nat)(t:Ty)(s:TS F):Option (List (ET F t)×Nat×Int):=
 if s.dE.all (λx=>Mh x (ix::dr))&&s.dM.all (λy=>Nat.ble c0 y||Nat.beq y id)then
  match look s.E ix with
  | some (.c (.im (.i .i64 n)))=>match look s.M id with
   | some (.Pv k _)=>match look s.M (Tw (look s.M) 8 k)with
    | some (.NQ t' l j)=>if h:t'=t then(if Nat.ble c0 (Tw (look s.M) 8 k)then some (h▸l,j,n)else none)else none
    | _=>none
   | _=>none
  | _=>none
 else none
noncomputable def M8:Hint→Code→TS F→{R:Type}→(Nat→TS F→Option R)→Option R
 | .z,c,s,_,K=>MU T Γ nv n c s K
 | .r kp,.region _ ops draw,s,_,K=>Tv T (cond (Mh 9998 kp) (mark Γ) Γ) nv n kp ops.toList draw (nU kp s) (K 0)
 | .s h k,.seq a b,s,_,K=>M8 h a s λe s'=>match e with | 0=>M8 k b s' K | e=>K e s'
 | .c h k,.cond (.tmp t) a b,s,_,K=>match look s.E t with
  | some (.c (.im (.b x)))=>cond x (M8 h a s K) (M8 k b s K)
  | _=>none
 | .c h k,.cond (.const (.bool x)) a b,s,_,K=>cond x (M8 h a s K) (M8 k b s K)
 | .b h,.block i a,s,_,K=>M8 h a s λe s'=>if Nat.beq e (i+2)then K 0 s' else K e s'
 | .b h,.scope a,s,_,K=>M8 h a s K
 | .u k h,.loop a,s,_,K=>unr (λs _ K=>M8 h a s K) k s K
 | .p h k,.loop a,s,_,K=>cond k.isL (M8 h a s λe s'=>match e with | 0=>M8 k (.loop a) s' K | e=>K e s') none
 | .j dr xs h,c,s,_,K=>
  let O1:=dr++PW xs
  let kill:=aT s O1
  (M8 h c (clean s) λe s'=>TW Γ s O1 s.c kill xs e s').bind λv=>Tp (λe ks x=>K e (merge nv O1 kill s ks x)) xs v
 | .l ks dr xs h,.loop a,s,_,K=>
  let O1:=dr++keysOf ks++PW xs
  let kill:=aT s O1
  match Oq Γ s O1 s.c kill ks (clean s)with
  | none=>none
  | some t0=>(loop (λt:TLS F ks=>M8 h a (clean (merge nv O1 kill s ks t)) λe s'=>match e with
    | 0=>(match Oq Γ s O1 s.c kill ks s' with | some t'=>some (Sum.inl t') | none=>none)
    | e=>(match TW Γ s O1 s.c kill xs e s' with | some v=>some (Sum.inr v) | none=>none)) t0).bind λv=>Tp (λe ks x=>K e (merge nv O1 kill s ks x)) xs v
 | .m x ix ex dr h,.loop a,s,_,K=>match look s.E x with
  | some (.c (.Nl id))=>match look s.M id with
   | some (.row t l0)=>match look s.E ix with
    | some (.c (.im (.i .i64 n0)))=>if Nat.blt id s.c&&Nat.blt 0 ex then
      (loop (λq:List (ET F t)×Nat×Int=>M8 h a (clean (OI nv s id ix dr (.NQ t q.1 q.2.1) q.1.length q.2.2)) λe s'=>match e with
       | 0=>(match VI s.c id ix dr t s' with | some q'=>some (Sum.inl q') | none=>none)
       | e=>if Nat.beq e ex then(match VI s.c id ix dr t s' with | some q'=>some (Sum.inr q') | none=>none)else none) (l0,0,n0)).bind λv=>
        cond (Nat.ble v.1.length v.2.1) (K ex (OI nv s id ix dr (.Nb t v.1) v.1.length v.2.2)) none
     else none
    | _=>none
   | _=>none
  | _=>none
 | .g ks dr h,c,s,_,K=>match z4 c with
  | none=>none
  | some q=>if Nat.beq q.i' q.i then zC T Γ nv n (λs _ K=>M8 h q.body s K) q.PY.toList q.O4.toList q.Rw.toList q.j q.c2 ks (dr++keysOf ks) s K else none
 | _,_,_,_,_=>none
def params:Nat→List (Dat F)→List (Nat×Dat F)
 | _,[]=>[]
 | k,d::l=>(k,d)::params (k+1) l
def adf(s:TS F):ResultVar→Option (Dat F)
 | .tmp t=>look s.E t
 | .cell a ty=>match T ty with
  | none=>none
  | some ti=>match look s.E a with
   | some (.c (.ptr id off))=>match look s.M id with
    | some (.box cs)=>gi ti cs off
    | _=>none
   | _=>none
def VP(s:TS F):List ResultVar→Option (List (Dat F))
 | []=>some []
 | r::l=>match adf T s r with
  | none=>none
  | some d=>match VP s l with
   | none=>none
   | some ds=>some (d::ds)
def dl(mm:Nat→Option (Mi F)):(ks:List Kd)→List (Dat F)→List Nat→Option (Pk (TL F ks))
 | [],[],[]=>some ⟨(),[],[],[]⟩
 | [.box t ow],[],[b]=>om mm t (oo ow) (.c (.ptr b 0))
 | .box t ow::l::ks,ds,b::bx=>match om mm t (oo ow) (.c (.ptr b 0))with
  | none=>none
  | some p=>match dl mm (l::ks) ds bx with
   | none=>none
   | some q=>some ⟨(p.x,q.x),p.os++q.os,p.fz++q.fz,p.bx++q.bx⟩
 | [.row t _],[],[b]=>rU mm t b
 | .row t _::l::ks,ds,b::bx=>match rU mm t b with
  | none=>none
  | some p=>match dl mm (l::ks) ds bx with
   | none=>none
   | some q=>some ⟨(p.x,q.x),p.os++q.os,p.fz++q.fz,p.bx++q.bx⟩
 | [k],[d],[]=>Rq Γ mm k d
 | k::l::ks,d::ds,bx=>match Rq Γ mm k d with
  | none=>none
  | some p=>match dl mm (l::ks) ds bx with
   | none=>none
   | some q=>some ⟨(p.x,q.x),p.os++q.os,p.fz++q.fz,p.bx++q.bx⟩
 | _,_,_=>none
def Tj(fn:Func)(ks rs:List Kd)(a:HL F ks)(s:TS F):Option (TL F (rs++ks.filter Kd.Ni)):=
 match VP T s fn.results.toList with
 | none=>none
 | some rd=>match dl Γ (look s.M) (rs++ks.filter Kd.Ni) rd (aU ks a 0)with
  | none=>none
  | some p=>if eK (Mx p.os)&&RV (Mx p.os) p.fz then some p.x else none
noncomputable def Xh(fn:Func)(h:Hint)(ks rs:List Kd)(a:HL F ks):Option (TL F (rs++ks.filter Kd.Ni)):=
 match fn.body with
 | none=>none
 | some body=>match NR ks a 0 with
  | (ds,bs,c)=>if AO ks then M8 T Γ nv fn.ntmps h body ⟨params 0 (TY ks a ds),bs,c,[],[]⟩ λe s=>
   match e with
   | 0 | 1=>Tj T Γ fn ks rs a s
   | _=>none
   else none
end
set_option linter.unusedVariables false
set_option linter.unusedSimpArgs false
structure aaR(P:Program)(t:TypeId):Prop where
 a:P.stoodInHeld t=false
 b:P.eqGuardType P.depth t=false
section
variable{F:Fam}
def adN:Value→Bool
 | .agg _=>true
 | _=>false
structure Mf(P:Program)(T:TypeId→Option (TI F)):Prop where
 und:∀t i,T t=some i→P.underlying t=some i.desc
 info:∀t i,T t=some i→∃j,P.info? t=some j∧j.size=i.size∧j.bytes=i.bytes∧∃z,j.zero=some z∧z.cells.size=i.size∧i.zero.length=i.size∧
  ∀(w:World)(Lj:Nat→Prop)(k:Nat)(d:ND F) (x:Value),i.zero[k]? = some d→z.cells[k]? = some x→Md w Lj d x
 eq:∀t i,T t=some i→i.eq=true→aaR P t
 ty:∀t i tt,T t=some i→i.ty=some tt→LV F tt=i.size
 zag:∀t i j z,T t=some i→P.info? t=some j→j.zero=some z→adN z=gu i.desc
section inv
variable{P:Program}{g:G}{w:World}{v:Value}
theorem cJ{k:IntKind}{n:Int}(h:Me (F:=F) P g w (.c (.im (.i k n))) v):v = .int k n:=by cases h with | c h=>cases h with | im h=>cases h;rfl
theorem qw{x:Bool}(h:Me (F:=F) P g w (.c (.im (.b x))) v):v = .bool x:=by cases h with | c h=>cases h with | im h=>cases h;rfl
theorem u4{l:List UInt8}(h:Me (F:=F) P g w (.c (.im (.s l))) v):v = .string ⟨⟨l⟩⟩:=by cases h with | c h=>cases h with | im h=>cases h;rfl
theorem p7(h:Me (F:=F) P g w (.c (.im .nl)) v):∃p,v = .slice p 0 0:=by cases h with | c h=>cases h with | im h=>cases h;exact⟨_,rfl⟩
theorem IX{x:Value}(h:Me (F:=F) P g w (.c (.im (.v x))) v):v=x:=by cases h with | c h=>cases h with | im h=>cases h;rfl
theorem Ko{cs:List (ND F)}(h:Me (F:=F) P g w (.c (.UE cs)) v):∃(b o b2 o2:Nat)(f:Nat→Value),g.Lj b∧w.cell? ⟨b,o,none⟩=some (.pointer (some ⟨b2,o2,none⟩))∧g.Lj b2∧v = .pointer (some ⟨b,o,none⟩)∧(∀k d,cs[k]? = some d→w.cell? ⟨b2,o2+k,none⟩=some (f k))∧∀k d,cs[k]? = some d→Md w g.Lj d (f k):=by
 cases h with | c h=>cases h with | UE _ b o b2 o2 f hb hv hb2 hc hr=>exact⟨b,o,b2,o2,f,hb,hv,hb2,rfl,hc,hr⟩
theorem xB{id n:Nat}(h:Me (F:=F) P g w (.c (.TF id n)) v):∃b c,g.ids id=some (some (b,c))∧n≤maxLen∧v = .slice (some ⟨b,0,none⟩) n n:=by
 cases h with | c h=>cases h with | TF h hm=>exact⟨_,_,h,hm,rfl⟩
theorem ci{id off:Nat}(h:Me (F:=F) P g w (.c (.ptr id off)) v):∃b c,g.ids id=some (some (b,c))∧v = .pointer (some ⟨b,off,none⟩):=by
 cases h with | c h=>cases h with | ptr h=>exact⟨_,_,h,rfl⟩
theorem jz{id sz i off:Nat}(h:Me (F:=F) P g w (.c (.OX id sz i off)) v):∃b c,g.ids id=some (some (b,c))∧v = .pointer (some ⟨b,i*sz+off,none⟩):=by
 cases h with | c h=>cases h with | OX h=>exact⟨_,_,h,rfl⟩
theorem Kq{id sz i off:Nat}(h:Me (F:=F) P g w (.c (.TB id sz i off)) v):∃(b c:Nat)(n:Nat×NS)(pl:Option (Nat×Nat×Nat)),g.ids id=some (some (b,c,n))∧n.2[i*sz+off]? = some pl∧Oo (Nv pl) v:=by
 cases h with | c h=>cases h with | TB h h1 h2=>exact⟨_,_,_,_,h,h1,h2⟩
theorem CP{id sz i off sz' j off':Nat}(h:Me (F:=F) P g w (.c (.Uj id sz i off sz' j off')) v):∃(b c:Nat)(n:Nat×NS)(b':Nat)(c':Nat×Nat),g.ids id=some (some (b,c,n))∧n.2[i*sz+off]? = some (some (b',c'))∧v = .pointer (some ⟨b',j*sz'+off',none⟩):=by
 cases h with | c h=>cases h with | Uj h h1=>exact⟨_,_,_,_,_,h,h1,rfl⟩
theorem rO{cs:List (ND F)}{off:Nat}(h:Me P g w (.c (.pt cs off)) v):∃(b o:Nat)(f:Nat→Value),g.Lj b∧v = .pointer (some ⟨b,o+off,none⟩)∧
  (∀k d,cs[k]? = some d→w.cell? ⟨b,o+k,none⟩=some (f k))∧(∀k d,cs[k]? = some d→Md w g.Lj d (f k)):=by
 cases h with | c h=>cases h with | pt _ _ b o f hb hc hr=>exact⟨b,o,f,hb,rfl,hc,hr⟩
theorem pw{cs:List (MK F)}(h:Me P g w (.agg cs) v):∃vs:List Value,v = .agg ⟨vs⟩∧vs.length=cs.length∧∀(k:Nat)(c:MK F)(x:Value),cs[k]? = some c→vs[k]? = some x→Mj g w c x:=by
 cases h with | agg hl h=>exact⟨_,rfl,hl,h⟩
theorem Cz{ds:List (Dat F)}(h:Me P g w (.Pt ds) v):∃vs:List Value,v = .tuple ⟨vs⟩∧vs.length=ds.length∧∀(k:Nat)(d:Dat F)(x:Value),ds[k]? = some d→vs[k]? = some x→Me P g w d x:=by
 cases h with | Pt hl h=>exact⟨_,rfl,hl,h⟩
theorem bj{x:MK F}(h:Me P g w (.c x) v):Mj g w x v:=by cases h with | c h=>exact h
theorem tz{d:ND F}(h:Me P g w (.c (.im d)) v):Md w g.Lj d v:=by cases h with | c h=>cases h with | im h=>exact h
theorem tZ{t:Ty}{l:List (ET F t)}(h:Md w g.Lj (.sl t l) v):(l = []∧∃p,v = .slice p 0 0)∨
  ∃(b o cap:Nat)(f:Nat→Value),g.Lj b∧l.length≤cap∧cap≤maxLen∧v = .slice (some ⟨b,o,none⟩) l.length cap∧
   (∀k d,(cells F t l)[k]? = some d→w.cell? ⟨b,o+k,none⟩=some (f k))∧(∀k d,(cells F t l)[k]? = some d→Md w g.Lj d (f k)):=by
 cases h with
 | sl0 t p=>exact .inl ⟨rfl,p,rfl⟩
 | sl t l b o cap f hb hcap hm hc hr=>exact .inr ⟨b,o,cap,f,hb,hcap,hm,rfl,hc,hr⟩
theorem OC(k:IntKind)(n:Int):Me (F:=F) P g w (.c (.im (.i k n))) (.int k n):=.c (.im (.i k n))
theorem VF(x:Bool):Me (F:=F) P g w (.c (.im (.b x))) (.bool x):=.c (.im (.b x))
theorem WM(l:List UInt8):Me (F:=F) P g w (.c (.im (.s l))) (.string ⟨⟨l⟩⟩):=.c (.im (.s l))
theorem dn{d:ND F}{x:Value}(h:Mj g w (.im d) x):Md w g.Lj d x:=by cases h;assumption
end inv
theorem yH(g:G)(w:World)(v:Value):Mj (F:=F) g w (X5 v) v:=by
 unfold X5;split
 ·exact .im (.i _ _)
 ·exact .im (.b _)
 ·exact .im (.s _)
 ·exact .im (.nl _)
 ·exact .any
 ·exact .any
 ·refine .im (.v _ ?_)
  cases v<;>simp_all [Value.oneCell']
theorem EF(P:Program)(g:G)(w:World)(v:Value):Me (F:=F) P g w (Zx v) v:=by
 unfold Zx;split
 ·rename_i cs
  refine .agg (by simp) ?_
  intro k c x h1 h2;rw[Rf]at h1;rw[h2]at h1;simp only[Ya,NI]at h1;subst h1;exact yH g w x
 ·exact .c (yH g w v)
theorem J5{P:Program}{g:G}{w:World}{e:Nat→Option (Dat F)}{a:Act}(h:∀x d,e x=some d→Me P g w d (a.tmps.getD x undef))(x:Operand) :
  Me P g w (opd e x) (a.eval x):=by
 cases x with
 | tmp t=>
  simp only[opd]
  cases ht:e t with
  | none=>exact .c .any
  | some d=>exact h t d ht
 | const v=>exact EF P g w v
 | global gl=>exact .c (.im (.v _ rfl))
 | func f=>exact .c (.im (.v _ rfl))
theorem Gt{P:Program}{g:G}{w:World}{e:Nat→Option (Dat F)}{a:Act}(apo:∀x d,e x=some d→Me P g w d (a.tmps.getD x undef))(l:List Operand):MG P g w (l.map (opd e)) (l.map a.eval):=by
 refine⟨by simp,?_⟩
 intro k d x h1 h2;rw[Rf,Wp]at h1 h2;obtain⟨p,hp,rfl⟩:=h1;obtain⟨q,hq,rfl⟩:=h2;rw[hp]at hq;cases hq;exact J5 apo p
def PZ(P:Program)(own:Ow)(m:Nat→Option (Mi F))(u:Nat→Bool)(g:G)(w:World)(o:Oper)(a:Act)(c:Nat)(r:SX F):Prop:=
 ∀(next:Act→World→Prop)(Q:Exit→Act→World→Prop),
  (∀v w' g',Me P g' w' r.val v→LQ own g' w' (Ms m r.mw)→Stp m g w g' w'→(∀id,u id=false→(id<c∨c+r.nu≤id)→g'.ids id=none)→next (a.put o.dst v) w')→
  o.wp P a w next Q
def P7(mm m:Nat→Option (Mi F)):Prop:=∀id B,mm id=some B→m id=some B
theorem N7.trans{x y:Nat}{p q r:Option Pl}(h:N7 x p q)(k:N7 y q r):N7 x p r:=by
 rcases h with⟨b,c,n,n',rfl,rfl,h3,h3'⟩ | ⟨rfl,rfl,h3⟩
 ·rcases k with⟨b',c',m,m',h4,rfl,h6,_⟩ | ⟨h4,_⟩
  ·cases h4;exact .inl ⟨_,_,_,_,rfl,rfl,h6.trans h3,h3'⟩
  ·cases h4
 ·rcases k with⟨b',c',m,m',h4,_⟩ | ⟨_,rfl,_⟩
  ·cases h4
  ·exact .inr ⟨rfl,rfl,h3⟩
section
variable{F:Fam}{own:Ow}{g:G}{w:World}{m mm:Nat→Option (Mi F)}
theorem uq(hm:LQ own g w m)(hle:P7 mm m):∀(n id:Nat),Tw mm n id=id∨∃k,N7 k (g.ids id) (g.ids (Tw mm n id))
 | 0,id=>.inl rfl
 | n+1,id=>by
  simp only[Tw];split
  ·rename_i k x hk;have h1:N7 x (g.ids id) (g.ids k):=hm.ok id _ (hle _ _ hk);rcases uq hm hle n k with h | ⟨_,h⟩
   ·rw[h];exact .inr ⟨_,h1⟩
   ·exact .inr ⟨_,h1.trans h⟩
  ·exact .inl rfl
theorem uw(hm:LQ own g w m)(hle:P7 mm m)(id:Nat):Ve mm id=id∨∃k,N7 k (g.ids id) (g.ids (Ve mm id)):=by
 unfold Ve;split
 ·rename_i k x hk;have h1:N7 x (g.ids id) (g.ids k):=hm.ok id _ (hle _ _ hk);rcases uq hm hle 8 k with h | ⟨_,h⟩
  ·rw[h];exact .inr ⟨_,h1⟩
  ·exact .inr ⟨_,h1.trans h⟩
 ·exact .inl rfl
theorem vI(hm:LQ own g w m)(hle:P7 mm m){x:MK F}{v:Value}(h:Mj g w x v):Mj g w (WI mm x) v:=by
 cases x with
 | Nl id=>
  simp only[WI];rcases uw hm hle id with e | ⟨_,hs⟩
  ·rw[e];exact h
  ·rcases hs with⟨b,c,n,n',h1,h2,h3,_⟩ | ⟨h1,h2,_⟩
   ·cases h with
    | PN p hi=>rw[h1]at hi;cases hi
    | Nl hi hl hm=>rw[h1]at hi;cases hi;rw[← h3]at hl ⊢;exact .Nl h2 hl hm
   ·cases h with
    | PN p hi=>exact .PN p h2
    | Nl hi hl hm=>rw[h1]at hi;cases hi
 | OX id sz i off=>
  simp only[WI];rcases uw hm hle id with e | ⟨_,hs⟩
  ·rw[e];exact h
  ·rcases hs with⟨b,c,n,n',h1,h2,h3,_⟩ | ⟨h1,h2,_⟩
   ·cases h with | OX hi=>rw[h1]at hi;cases hi;exact .OX h2
   ·cases h with | OX hi=>rw[h1]at hi;cases hi
 | Rz id sz off len=>
  simp only[WI];rcases uw hm hle id with e | ⟨_,hs⟩
  ·rw[e];exact h
  ·rcases hs with⟨b,c,n,n',h1,h2,h3,_⟩ | ⟨h1,h2,_⟩
   ·cases h with
    | Tx p hi=>rw[h1]at hi;cases hi
    | Rz hi hl hn ho hm=>rw[h1]at hi;cases hi;exact .Rz h2 (by rw[h3];exact hl) (by rw[h3];exact hn) ho hm
   ·cases h with
    | Tx p hi=>exact .Tx p h2
    | Rz hi hl hn ho hm=>rw[h1]at hi;cases hi
 | _=>exact h
theorem ID{P:Program}(hm:LQ own g w m)(hle:P7 mm m){d:Dat F}{v:Value}(h:Me P g w d v):Me P g w (aaz mm d) v:=by
 cases h with
 | c h=>exact .c (vI hm hle h)
 | agg h1 h2=>exact .agg h1 h2
 | Pt h1 h2=>exact .Pt h1 h2
 | RZ h1 h2 h3 h4=>exact .RZ h1 h2 h3 h4
 | fv h=>exact .fv h
 | gh h=>exact .gh h
theorem Ev{P:Program}(hm:LQ own g w m)(hle:P7 mm m){ds:List (Dat F)}{vs:List Value}(h:MG P g w ds vs):MG P g w (ds.map (aaz mm)) vs:=by
 refine⟨by rw[PI];exact h.1,λk d x a b=>?_⟩
 rw[Rf]at a;obtain⟨c0,h0,rfl⟩:=Wp.1 a;exact ID hm hle (h.2 k c0 x h0 b)
end
def Does(P:Program)(o:Oper)(vals:List (Dat F))(mm:Nat→Option (Mi F))(c:Nat)(res:SX F):Prop:=
 ∀(own:Ow)(g:G)(w:World)(a:Act) (m:Nat→Option (Mi F)) (u:Nat→Bool),P7 mm m→LQ own g w m→(∀id,u id=false→g.ids id=none)→
  (∀b,w.heap.size≤b→own.o b)→(∀k,k<res.nu→u (c+k)=false)→MG P g w vals (o.op.operands.toList.map a.eval)→PZ P own m u g w o a c res
def U7(P:Program)(o:Oper)(vals:List (Dat F))(mm:Nat→Option (Mi F))(d:Dat F):Prop:=
 ∀(own:Ow)(g:G)(w:World)(a:Act) (m:Nat→Option (Mi F)),P7 mm m→LQ own g w m→MG P g w vals (o.op.operands.toList.map a.eval)→
  ∃v,(execOp a.eval o).run P w = .ok (.value v) w∧Me P g w d v
theorem U7.does{P:Program}{o:Oper}{vals:List (Dat F)}{mm:Nat→Option (Mi F)}{d:Dat F}(h:U7 P o vals mm d)(c:Nat):Does P o vals mm c { val:=d }:=by intro own g w a m u hle hm hd _ _ hr;obtain⟨v,hrun,hv⟩:=h own g w a m hle hm hr;intro next Q hn;unfold Oper.wp;rw[hrun];exact hn v w g hv hm (.refl _ _ _) (λid hu _=>hd id hu)
def Rule(P:Program)(o:Oper)(vals:List (Dat F))(mm:Nat→Option (Mi F))(c:Nat){R:Type}(K:SX F→Option R)(x:Option R):Prop:=
 ∀r,x=some r→∃res,K res=some r∧Does P o vals mm c res
section ops
variable{P:Program}{T:TypeId→Option (TI F)}{o:Oper}{vals:List (Dat F)}{mm:Nat→Option (Mi F)}{c:Nat}{R:Type}{K:SX F→Option R}
theorem af:Rule P o vals mm c K none:=λ_ h=>by cases h
theorem av{d:Dat F}(h:U7 P o vals mm d):Rule P o vals mm c K (K { val:=d }):=λ_ hr=>⟨_,hr,h.does c⟩
theorem aE{α : Type}{x:Option α}{f:α→Option R}(h:∀a,x=some a→Rule P o vals mm c K (f a)):Rule P o vals mm c K (x.bind f):=by intro r hr;rw[QcL]at hr;obtain⟨a,ha,hr⟩:=hr;exact h a ha r hr
theorem aA{p:Prop}[Decidable p]{x y:Option R}(h1:p→Rule P o vals mm c K x)(h2:¬ p→Rule P o vals mm c K y):Rule P o vals mm c K (if p then x else y):=by
 split
 ·exact h1 (by assumption)
 ·exact h2 (by assumption)
theorem Ny{g:G}{w:World}{d:Dat F}{v:Value}(h:MG P g w [d] [v]):Me P g w d v:=h.2 0 d v rfl rfl
theorem M5{g:G}{w:World}{d e:Dat F}{v x:Value}(h:MG P g w [d,e] [v,x]):Me P g w d v∧Me P g w e x:=⟨h.2 0 d v rfl rfl,h.2 1 e x rfl rfl⟩
theorem aX{g:G}{w:World}{d:Dat F}{ds:List (Dat F)}{v:Value}{vs:List Value}:MG P g w (d::ds) (v::vs)↔Me P g w d v∧MG P g w ds vs:=by
 constructor
 ·intro h
  refine⟨h.2 0 d v rfl rfl,by simpa using h.1,λk e x h1 h2=>h.2 (k+1) e x (by simpa using h1) (by simpa using h2)⟩
 ·rintro⟨h1,h2,h3⟩
  refine⟨by simp[h2],λk e x a b=>?_⟩
  cases k with
  | zero=>simp at a b;subst a;subst b;exact h1
  | succ k=>exact h3 k e x (by simpa using a) (by simpa using b)
theorem yZ{x:Operand}{d:Dat F}(ho:o.op = .move x∨o.op = .assign x)(hv:vals = [d]):Rule P o vals mm c K (K { val:=d }):=by
 subst hv;refine av ?_;intro own g w a m _ _ hr
 refine⟨a.eval x,by rcases ho with ho | ho<;>simp[execOp,ho],?_⟩
 rcases ho with ho | ho<;>(rw[ho]at hr;exact Ny hr)
theorem F7{x y z:Operand}(ho:o.op = .pick x y z):Rule P o vals mm c K (Ze vals K):=by
 unfold Ze;split
 ·rename_i b d e
  have key:∀b':Bool,b=b'→U7 P o [.c (.im (.b b)),d,e] mm (if b' then d else e):=by
   rintro b' rfl own g w a m _ _ hr;rw[ho]at hr;simp only[Op.operands,Nr,Oj,aX]at hr
   refine⟨if b then a.eval y else a.eval z,by simp[execOp,ho,qw hr.1,asBool],?_⟩
   cases b
   ·exact hr.2.2.1
   ·exact hr.2.1
  cases b
  ·exact av (key false rfl)
  ·exact av (key true rfl)
 ·exact af
theorem J8{op:UnOp}{t:TypeId}{x:Operand}(ho:o.op = .unOp op t x):Rule P o vals mm c K (tUn vals K op):=by
 unfold tUn;split
 ·refine av ?_;intro own g w a m _ _ hr;rw[ho]at hr;have hx:=cJ (Ny hr)
  exact⟨_,by simp[execOp,ho,hx,Op.unary,Op.intArith],OC _ _⟩
 ·refine av ?_;intro own g w a m _ _ hr;rw[ho]at hr;have hx:=qw (Ny hr)
  exact⟨_,by simp[execOp,ho,hx,Op.unary],VF _⟩
 ·exact af
theorem IZ{x:Int}{u:Unit}(h:nz x=some u):x≠0:=by
 unfold nz at h;split at h
 ·assumption
 ·cases h
theorem IV{x:Int}{u:Unit}(h:nn x=some u):0≤x:=by
 unfold nn at h;split at h
 ·assumption
 ·cases h
theorem BG{op:BinOp}{xT yT:TypeId}{x y:Operand}{k:IntKind}{n m:Int}(ho:o.op = .binOp op xT x y yT)(hv:vals = [.c (.im (.i k n)),.c (.im (.i k m))]):Rule P o vals mm c K (xO K op k n m y):=by
 subst hv
 have key:∀(d:ND F)(v:Value),(∀w:World,(binOp op xT (.int k n) (.int k m)).run P w = .ok v w)→(∀(w:World)(g:G),Me (F:=F) P g w (.c (.im d)) v)→Rule P o [.c (.im (.i k n)),.c (.im (.i k m))] mm c K (K { val:=.c (.im d) }):=by
  intro d v hrun hrep;refine av ?_;intro own g w a m' _ _ hr;rw[ho]at hr;simp only[Op.operands,Nr,Oj]at hr;obtain⟨h1,h2⟩:=M5 hr
  exact⟨v,by simp only[execOp,ho,cJ h1,cJ h2,OB,eqGuard_at_int,PL,OO,hrun w],hrep w g⟩
 have lit:VZ y=true→∀(a:Act)(w:World)(g:G),MG (F:=F) P g w [.c (.im (.i k n)),.c (.im (.i k m))] (o.op.operands.toList.map a.eval)→m≠0:=by
  intro hl a w g hr;rw[ho]at hr;simp only[Op.operands,Nr,Oj]at hr;have h2:=cJ (M5 hr).2;unfold VZ at hl;split at hl
  ·simp only[Act.eval,Value.int.injEq]at h2;simp at hl;rw[← h2.2];exact hl
  ·cases hl
 have afH:∀(d:ND F)(v:Value),VZ y=true→(m≠0→∀w:World,(binOp op xT (.int k n) (.int k m)).run P w = .ok v w)→(∀(w:World)(g:G),Me (F:=F) P g w (.c (.im d)) v)→Rule P o [.c (.im (.i k n)),.c (.im (.i k m))] mm c K (K { val:=.c (.im d) }):=by
  intro d v hl hrun hrep;refine av ?_;intro own g w a m' _ _ hr;have hm:=lit hl a w g hr;rw[ho]at hr;simp only[Op.operands,Nr,Oj]at hr;obtain⟨h1,h2⟩:=M5 hr
  exact⟨v,by simp only[execOp,ho,cJ h1,cJ h2,OB,eqGuard_at_int,PL,OO,hrun hm w],hrep w g⟩
 cases op<;>simp only[xO]
 case quo=>
  refine aA (λhl=>?_) (λ_=>aE λu hu=>?_)
  ·exact afH _ _ hl (λhm w=>by simp[binOp,Op.intDiv,hm]) (λ_ _=>OC _ _)
  ·exact key _ _ (λw=>by simp[binOp,Op.intDiv,IZ hu]) (λ_ _=>OC _ _)
 case rem=>
  refine aA (λhl=>?_) (λ_=>aE λu hu=>?_)
  ·exact afH _ _ hl (λhm w=>by simp[binOp,Op.intDiv,hm]) (λ_ _=>OC _ _)
  ·exact key _ _ (λw=>by simp[binOp,Op.intDiv,IZ hu]) (λ_ _=>OC _ _)
 case add | sub | mul=>exact key _ _ (λw=>by simp[binOp,Op.intArith]) (λ_ _=>OC _ _)
 case and | or | xor=>exact key _ _ (λw=>by simp only[binOp,ne_eq,not_true_eq_false,if_false];rfl) (λ_ _=>OC _ _)
 all_goals first | exact af | exact key _ _ (λw=>by simp[binOp,Op.intCmp]) (λ_ _=>VF _)
end ops
end
set_option linter.unusedVariables false
set_option linter.unusedSimpArgs false
section
variable{F:Fam}{P:Program}{T:TypeId→Option (TI F)}{o:Oper}{vals:List (Dat F)}{mm:Nat→Option (Mi F)}{c:Nat}{R:Type}{K:SX F→Option R}{own:Ow}{g:G}{w:World}{m:Nat→Option (Mi F)}
theorem KB{l m r:List UInt8}(h:cat l m=some r):(l.length:Int)+m.length≤9223372036854775807∧l++m=r:=by
 unfold cat at h;split at h
 ·rename_i hc;cases h;exact⟨by have:=Va hc;omega,rfl⟩
 ·cases h
theorem BV{op:BinOp}{xT yT:TypeId}{x y:Operand}{l m:List UInt8}(ho:o.op = .binOp op xT x y yT)(hv:vals = [.c (.im (.s l)),.c (.im (.s m))]):Rule P o vals mm c K (xH K op l m):=by
 subst hv
 have key:∀(d:ND F)(v:Value),(∀w:World,(binOp op xT (.string ⟨⟨l⟩⟩) (.string ⟨⟨m⟩⟩)).run P w = .ok v w)→(∀(w:World)(g:G),Me (F:=F) P g w (.c (.im d)) v)→Rule P o [.c (.im (.s l)),.c (.im (.s m))] mm c K (K { val:=.c (.im d) }):=by
  intro d v hrun hrep;refine av ?_;intro own g w a m' _ _ hr;rw[ho]at hr;simp only[Op.operands,Nr,Oj]at hr;obtain⟨h1,h2⟩:=M5 hr
  exact⟨v,by simp only[execOp,ho,u4 h1,u4 h2,OB,eqGuard_at_string,PL,OO,hrun w],hrep w g⟩
 cases op<;>simp only[xH]
 case add=>
  refine aE λr hr=>?_;obtain⟨hm,rfl⟩:=KB hr
  have e:(⟨⟨l⟩⟩:ByteArray)++⟨⟨m⟩⟩=⟨⟨l++m⟩⟩:=by apply ByteArray.ext;simp
  refine key _ _ (λw=>?_) (λ_ _=>WM _);have hs:∀l:List UInt8,(⟨⟨l⟩⟩:ByteArray).size=l.length:=λ_=>rfl;simp only[binOp,Op.stringOp,hs,e]
  rw[if_neg (by rw[IntKind.max_i64];omega)]
  rfl
 all_goals first | exact af | exact key _ _ (λw=>by simp[binOp,Op.stringOp,SH]) (λ_ _=>VF _)
theorem vm{d:Option TypeDesc}{a b:MK F}{p:Bool}(h:Ue d a b=some p) :
  (∃k0 k n m,d=some (.int k0)∧a = .im (.i k n)∧b = .im (.i k m)∧p=(n == m))∨(∃x y,d=some .bool∧a = .im (.b x)∧b = .im (.b y)∧p=(x == y))∨
  (∃l m,d=some .string∧a = .im (.s l)∧b = .im (.s m)∧p=(l == m)):=by
 unfold Ue at h;split at h
 ·split at h
  ·rename_i hk;subst hk;cases h;exact .inl ⟨_,_,_,_,rfl,rfl,rfl,rfl⟩
  ·cases h
 ·cases h;exact .inr (.inl ⟨_,_,rfl,rfl,rfl,rfl⟩)
 ·cases h;exact .inr (.inr ⟨_,_,rfl,rfl,rfl,rfl⟩)
 ·cases h
theorem ng(hT:Mf P T){t:TypeId}{d:TypeDesc}(h:jL T t=some d):P.underlying t=some d:=by
 unfold jL at h;split at h
 ·rename_i ti ht;cases h;exact hT.und _ _ ht
 ·cases h
theorem BM{f:Field}{fs:List Field}{off:Nat}{cs ds:List (MK F)}{x:Bool}(h:nN T (f::fs) off cs ds=some x) :
  ∃ a b l r p q,cs = a :: l ∧ ds = b :: r ∧ f.name ≠ "_" ∧ f.offset = off ∧ Ue (jL T f.type) a b = some p ∧ nN T fs (off + 1) l r = some q ∧ x = (p && q):=by
 unfold nN at h;split at h
 ·exact absurd (by assumption:f::fs = []) (by simp)
 ·rename_i heq;cases heq;split at h
  ·rename_i hc;simp only[Ng,bne_iff_ne,beq_iff_eq]at hc
   exact⟨_,_,[],[],x,true,rfl,rfl,hc.1,hc.2,h,by simp[nN],by simp⟩
  ·cases h
 ·rename_i heq;cases heq;split at h
  ·rename_i hc;simp only[Ng,bne_iff_ne,beq_iff_eq]at hc;split at h
   ·cases h
   ·rename_i p hp;split at h
    ·cases h
    ·rename_i q hq;cases h;exact⟨_,_,_,_,p,q,rfl,rfl,hc.1,hc.2,hp,hq,rfl⟩
  ·cases h
 ·cases h
theorem uG(hT:Mf P T){cs ds:List (MK F)}{xs ys:List Value}(hx:∀(k:Nat)(c:MK F)(x:Value),cs[k]? = some c→xs[k]? = some x→Mj g w c x)
  (hy:∀(k:Nat)(c:MK F)(x:Value),ds[k]? = some c→ys[k]? = some x→Mj g w c x) (hlx:xs.length=cs.length) (hly:ys.length=ds.length) (dp:Nat) :
  ∀(fs:List Field)(off:Nat)(cs' ds':List (MK F)) (b:Bool),(∀k,cs'[k]? = cs[off+k]?)→(∀k,ds'[k]? = ds[off+k]?)→
   nN T fs off cs' ds'=some b→(Op.eqFields (dp+1) ⟨xs⟩ ⟨ys⟩ fs).run P w = .ok b w:=by
 intro fs
 induction fs with
 | nil=>
  intro off cs' ds' b h1 h2 he;unfold nN at he;split at he
  ·cases he;simp[Op.eqFields]
  ·rename_i heq;cases heq
  ·rename_i heq;cases heq
  ·cases he
 | cons f fs ih=>
  intro off cs' ds' b h1 h2 he;obtain⟨c0,d0,cr,dr,p,q,rfl,rfl,hn,rfl,hp,hq,rfl⟩:=BM he;have ec:=h1 0;have ed:=h2 0;simp only[Rh,U9]at ec ed
  have lx:f.offset<xs.length:=by rw[hlx];exact(Lb.1 ec.symm).1
  have ly:f.offset<ys.length:=by rw[hly];exact(Lb.1 ed.symm).1
  have vx:=hx _ _ _ ec.symm (La lx);have vy:=hy _ _ _ ed.symm (La ly)
  have hq':=ih (f.offset+1) cr dr q (λj=>by have:=h1 (j+1);simpa[UF,QfB 1 j]using this) (λj=>by have:=h2 (j+1);simpa[UF,QfB 1 j]using this) hq
  have key:∀(u v:Value),xs[f.offset]=u→ys[f.offset]=v→(isAgg f.type).run P w = .ok false w→(Op.equalIn (dp+1) f.type u v).run P w = .ok p w→(Op.eqFields (dp+1) ⟨xs⟩ ⟨ys⟩ (f::fs)).run P w = .ok (p&&q) w:=by
   intro u v hu hv hag heq
   have px:(part f.type ⟨xs⟩ f.offset).run P w = .ok u w:=by simp[part,hag,lx,hu]
   have py:(part f.type ⟨ys⟩ f.offset).run P w = .ok v w:=by simp[part,hag,ly,hv]
   simp only[Op.eqFields,ne_eq,hn,not_false_eq_true,if_true,OB,px,py,OO,heq];cases p
   ·simp
   ·simpa using hq'
  rcases vm hp with⟨k0,k,n,m',hd,rfl,rfl,rfl⟩ | ⟨x,y,hd,rfl,rfl,rfl⟩ | ⟨l,m',hd,rfl,rfl,rfl⟩
  ·have hk:=ng hT hd
   exact key (.int k n) (.int k m') (by have:=dn vx;generalize xs[f.offset]=z at this ⊢;cases this;rfl) (by have:=dn vy;generalize ys[f.offset]=z at this ⊢;cases this;rfl) (by simp[isAgg,run_underlying hk]) (run_equalIn_int w dp f.type k k0 n m' hk)
  ·have hk:=ng hT hd
   exact key (.bool x) (.bool y) (by have:=dn vx;generalize xs[f.offset]=z at this ⊢;cases this;rfl) (by have:=dn vy;generalize ys[f.offset]=z at this ⊢;cases this;rfl) (by simp[isAgg,run_underlying hk]) (run_equalIn_bool' w dp f.type x y hk)
  ·have hk:=ng hT hd
   exact key (.string ⟨⟨l⟩⟩) (.string ⟨⟨m'⟩⟩) (by have:=dn vx;generalize xs[f.offset]=z at this ⊢;cases this;rfl) (by have:=dn vy;generalize ys[f.offset]=z at this ⊢;cases this;rfl) (by simp[isAgg,run_underlying hk]) (by rw[run_equalIn_string w dp f.type _ _ hk];simp)
theorem BN{f:Field}{cs ds:List (MK F)}{x:Bool}{n:Nat}(h:V5 T f cs ds=some (x,n)) :
  (∃ti gs,T f.type=some ti∧ti.desc = .struct gs∧ti.size=n∧ti.eq=true∧n≤cs.length∧n≤ds.length∧nN T gs.toList 0 (cs.take n) (ds.take n)=some x)∨
  (∃a l b r,cs=a::l∧ds=b::r∧n=1∧Ue (jL T f.type) a b=some x):=by
 unfold V5 at h;split at h
 ·rename_i gs n' _ _ _ ht;split at h
  ·rename_i hc;simp only[Ng,Nat.ble_eq]at hc;split at h
   ·rename_i y hy;cases h;exact .inl ⟨_,gs,ht,rfl,rfl,rfl,hc.1,hc.2,hy⟩
   ·cases h
  ·cases h
 ·rename_i ti _ ht;split at h
  ·split at h
   ·rename_i y hy;cases h;refine .inr ⟨_,_,_,_,rfl,rfl,rfl,?_⟩;unfold jL;rw[ht];exact hy
   ·cases h
  ·cases h
 ·cases h
theorem zG{f:Field}{fs:List Field}{off:Nat}{cs ds:List (MK F)}{x:Bool}(h:pm T (f::fs) off cs ds=some x) :
  ∃ p n q,f.name ≠ "_" ∧ f.offset = off ∧ V5 T f cs ds = some (p,n) ∧ pm T fs (off + n) (cs.drop n) (ds.drop n) = some q ∧ x = (p && q):=by
 unfold pm at h;split at h
 ·exact absurd (by assumption:f::fs = []) (by simp)
 ·rename_i heq;cases heq;split at h
  ·rename_i hc;simp only[Ng,bne_iff_ne,beq_iff_eq]at hc;split at h
   ·rename_i p n hp;split at h
    ·rename_i hl;cases h
     refine⟨x,n,true,hc.1,hc.2,hp,?_,by simp⟩
     rw[← hl.1,QdL,hl.1,← hl.2,QdL];rfl
    ·cases h
   ·cases h
  ·cases h
 ·rename_i heq;cases heq;split at h
  ·rename_i hc;simp only[Ng,bne_iff_ne,beq_iff_eq]at hc;split at h
   ·rename_i p n hp;split at h
    ·rename_i q hq;cases h;exact⟨p,n,q,hc.1,hc.2,hp,hq,rfl⟩
    ·cases h
   ·cases h
  ·cases h
 ·cases h
theorem zf(hT:Mf P T){cs ds:List (MK F)}{xs ys:List Value}(hx:∀(k:Nat)(c:MK F)(x:Value),cs[k]? = some c→xs[k]? = some x→Mj g w c x)
  (hy:∀(k:Nat)(c:MK F)(x:Value),ds[k]? = some c→ys[k]? = some x→Mj g w c x) (hlx:xs.length=cs.length) (hly:ys.length=ds.length) (dp:Nat) :
  ∀(fs:List Field)(off:Nat)(cs' ds':List (MK F)) (b:Bool),(∀k,cs'[k]? = cs[off+k]?)→(∀k,ds'[k]? = ds[off+k]?)→
   pm T fs off cs' ds'=some b→(Op.eqFields (dp+2) ⟨xs⟩ ⟨ys⟩ fs).run P w = .ok b w:=by
 intro fs
 induction fs with
 | nil=>
  intro off cs' ds' b h1 h2 he;unfold pm at he;split at he
  ·cases he;simp[Op.eqFields]
  ·rename_i heq;cases heq
  ·rename_i heq;cases heq
  ·cases he
 | cons f fs ih=>
  intro off cs' ds' b h1 h2 he;obtain⟨p,n,q,hn,rfl,hp,hq,rfl⟩:=zG he
  have hq':=ih (f.offset+n) _ _ q (λj=>by rw[Tc,h1,UF]) (λj=>by rw[Tc,h2,UF]) hq
  have key:∀(u v:Value),(part f.type ⟨xs⟩ f.offset).run P w = .ok u w→(part f.type ⟨ys⟩ f.offset).run P w = .ok v w→(Op.equalIn (dp+2) f.type u v).run P w = .ok p w→(Op.eqFields (dp+2) ⟨xs⟩ ⟨ys⟩ (f::fs)).run P w = .ok (p&&q) w:=by
   intro u v px py heq;simp only[Op.eqFields,ne_eq,hn,not_false_eq_true,if_true,OB,px,py,OO,heq];cases p
   ·simp
   ·simpa using hq'
  rcases BN hp with⟨ti,gs,ht,hd,rfl,he,lc,ld,hc⟩ | ⟨c0,cr,d0,dr,rfl,rfl,rfl,hp'⟩
  ·have hu:=hT.und _ _ ht;rw[hd]at hu;obtain⟨j,hj,hsz,_⟩:=hT.info _ _ ht
   have hag:(isAgg f.type).run P w = .ok true w:=by simp[isAgg,run_underlying hu]
   have hso:(Go.sizeOf f.type).run P w = .ok ti.size w:=by rw[← hsz];simp[Go.sizeOf,typeInfo,hj]
   have sub:∀{zs:List Value}{es es':List (MK F)},(∀k,es'[k]? = es[f.offset+k]?)→zs.length=es.length→ti.size≤es'.length→(∀(k:Nat)(c:MK F)(x:Value),es[k]? = some c→zs[k]? = some x→Mj g w c x)→
     ((zs.take (f.offset+ti.size)).drop f.offset).length=(es'.take ti.size).length∧(∀(k:Nat)(c:MK F)(x:Value),(es'.take ti.size)[k]? = some c→((zs.take (f.offset+ti.size)).drop f.offset)[k]? = some x→Mj g w c x):=by
    intro zs es es' h hl hle hr
    have hlt:f.offset+ti.size≤es.length∨ti.size=0:=by
     rcases Nat.eq_zero_or_pos ti.size with h0 | h0
     ·exact .inr h0
     ·have:=h (ti.size - 1)
      rw[La (by omega)]at this
      have:=(Lb.1 this.symm).1
      exact .inl (by omega)
    refine⟨by rw[Rn,Ox,Ox,hl];omega,?_⟩
    intro k c x hc hx;rw[RF]at hc;split at hc
    ·rw[Tc,RF]at hx;split at hx
     ·exact hr _ _ _ (by rw[← h];exact hc) hx
     ·cases hx
    ·cases hc
   obtain⟨lx,rx⟩:=sub h1 hlx lc hx;obtain⟨ly,ry⟩:=sub h2 hly ld hy
   refine key (.agg ⟨(xs.take (f.offset+ti.size)).drop f.offset⟩) (.agg ⟨(ys.take (f.offset+ti.size)).drop f.offset⟩) (by simp[part,hag,hso,List.take_drop]) (by simp[part,hag,hso,List.take_drop]) ?_
   have hfs:P.fieldsOf f.type=gs:=by simp only[Program.fieldsOf];rw[hu]
   rw[run_equalIn_struct w (dp+1) f.type _ _ (by rw[hfs];exact hu) (hT.eq _ _ ht he).a,hfs]
   exact uG hT rx ry lx ly dp gs.toList 0 _ _ p (by simp) (by simp) hc
  ·have ec:=h1 0;have ed:=h2 0;simp only[Rh,U9]at ec ed
   have lx:f.offset<xs.length:=by rw[hlx];exact(Lb.1 ec.symm).1
   have ly:f.offset<ys.length:=by rw[hly];exact(Lb.1 ed.symm).1
   have vx:=hx _ _ _ ec.symm (La lx);have vy:=hy _ _ _ ed.symm (La ly)
   have key':∀(u v:Value),xs[f.offset]=u→ys[f.offset]=v→(isAgg f.type).run P w = .ok false w→(Op.equalIn (dp+2) f.type u v).run P w = .ok p w→(Op.eqFields (dp+2) ⟨xs⟩ ⟨ys⟩ (f::fs)).run P w = .ok (p&&q) w:=by
    intro u v hu hv hag heq
    exact key u v (by simp[part,hag,lx,hu]) (by simp[part,hag,ly,hv]) heq
   clear hp;rcases vm hp' with⟨k0,k,n,m',hd,rfl,rfl,rfl⟩ | ⟨x,y,hd,rfl,rfl,rfl⟩ | ⟨l,m',hd,rfl,rfl,rfl⟩
   ·have hk:=ng hT hd
    exact key' (.int k n) (.int k m') (by have:=dn vx;generalize xs[f.offset]=z at this ⊢;cases this;rfl) (by have:=dn vy;generalize ys[f.offset]=z at this ⊢;cases this;rfl) (by simp[isAgg,run_underlying hk]) (run_equalIn_int w (dp+1) f.type k k0 n m' hk)
   ·have hk:=ng hT hd
    exact key' (.bool x) (.bool y) (by have:=dn vx;generalize xs[f.offset]=z at this ⊢;cases this;rfl) (by have:=dn vy;generalize ys[f.offset]=z at this ⊢;cases this;rfl) (by simp[isAgg,run_underlying hk]) (run_equalIn_bool' w (dp+1) f.type x y hk)
   ·have hk:=ng hT hd
    exact key' (.string ⟨⟨l⟩⟩) (.string ⟨⟨m'⟩⟩) (by have:=dn vx;generalize xs[f.offset]=z at this ⊢;cases this;rfl) (by have:=dn vy;generalize ys[f.offset]=z at this ⊢;cases this;rfl) (by simp[isAgg,run_underlying hk]) (by rw[run_equalIn_string w (dp+1) f.type _ _ hk];simp)
theorem tg(hT:Mf P T){cs ds:List (MK F)}{xs ys:List Value}{t:TypeId}{fs:Array Field}{i:TI F}(ht:T t=some i)(hi:i.desc = .struct fs)(he:aaR P t){b:Bool}(hb:X4 T fs.toList cs ds=some b)
  (hx:xs.length=cs.length∧∀(k:Nat)(c:MK F)(x:Value),cs[k]? = some c→xs[k]? = some x→Mj g w c x)
  (hy:ys.length=ds.length∧∀(k:Nat)(c:MK F)(x:Value),ds[k]? = some c→ys[k]? = some x→Mj g w c x) :
  (Op.equalIn 10000 t (.agg ⟨xs⟩) (.agg ⟨ys⟩)).run P w = .ok b w:=by
 have hu:=hT.und _ _ ht;rw[hi]at hu
 have hfs:P.fieldsOf t=fs:=by simp only[Program.fieldsOf];rw[hu]
 rw[run_equalIn_struct w 9999 t ⟨xs⟩ ⟨ys⟩ (by rw[hfs];exact hu) he.a,hfs]
 unfold X4 at hb;split at hb
 ·rename_i b' hb';cases hb
  exact uG hT hx.2 hy.2 hx.1 hy.1 9998 fs.toList 0 cs ds b (by simp) (by simp) hb'
 ·exact zf hT hx.2 hy.2 hx.1 hy.1 9997 fs.toList 0 cs ds b (by simp) (by simp) hb
theorem Ah(d:Nat){t e:TypeId}(a:Addr)(l c:Nat)(w:World)(h:P.underlying t=some (.slice e)):(Op.equalIn (d+1) t (.slice (some a) l c) (.slice none 0 0)).run P w = .ok false w:=by simp[Op.equalIn,run_underlying h]
theorem Ik(hT:Mf P T){op:BinOp}{xT yT:TypeId}{x y:Operand}(ho:o.op = .binOp op xT x y yT):Rule P o vals mm c K (adb T vals K op xT y):=by
 unfold adb;split
 ·rename_i k n k' m'
  have sh:∀(d:ND F)(v:Value),(0≤m'→∀w:World,(do eqGuard op xT x y (.int k n) (.int k' m');binOp op xT (.int k n) (.int k' m'):Sem Value).run P w = .ok v w)→(∀(w:World)(g:G),Me (F:=F) P g w (.c (.im d)) v)→
    (0≤m'∨Xq y=true)→Rule P o [.c (.im (.i k n)),.c (.im (.i k' m'))] mm c K (K { val:=.c (.im d) }):=by
   intro d v hrun hrep hm;refine av ?_;intro own g w a m _ _ hr;rw[ho]at hr;simp only[Op.operands,Nr,Oj]at hr;obtain⟨h1,h2⟩:=M5 hr;have e2:=cJ h2
   have hm':0≤m':=by
    rcases hm with hm | hm
    ·exact hm
    ·unfold Xq at hm;split at hm
     ·simp only[Act.eval,Value.int.injEq]at e2;rw[← e2.2];simpa using hm
     ·cases hm
   refine⟨v,?_,hrep w g⟩;have:=hrun hm' w;simp only[execOp,ho,cJ h1,e2];rw[OB,this];rfl
  split
  ·refine aA (λhl=>sh _ _ (λhm w=>?_) (λ_ _=>OC _ _) (.inr hl)) (λ_=>aE λu hu=>sh _ _ (λhm w=>?_) (λ_ _=>OC _ _) (.inl (IV hu)))
   all_goals (have hm:¬ m'<0:=by omega);simp[binOp,Op.shift,hm,eqGuard_shl]
  ·refine aA (λhl=>sh _ _ (λhm w=>?_) (λ_ _=>OC _ _) (.inr hl)) (λ_=>aE λu hu=>sh _ _ (λhm w=>?_) (λ_ _=>OC _ _) (.inl (IV hu)))
   all_goals (have hm:¬ m'<0:=by omega);simp[binOp,Op.shift,hm,eqGuard_shr]
  ·refine aA (λhk=>?_) (λ_=>af);subst hk;exact BG ho rfl
 ·exact BV ho rfl
 ·rename_i p q;split
  ·rename_i ht;have hu:=hT.und _ _ ht;refine av ?_;intro own g w a m _ _ hr;rw[ho]at hr;simp only[Op.operands,Nr,Oj]at hr;obtain⟨h1,h2⟩:=M5 hr
   exact⟨_,by simp[execOp,ho,qw h1,qw h2,eqGuard_at_bool,binOp,Op.equal,Op.maxDepth,run_equalIn_bool' w 9999 xT p q hu],VF _⟩
  ·rename_i ht;have hu:=hT.und _ _ ht;refine av ?_;intro own g w a m _ _ hr;rw[ho]at hr;simp only[Op.operands,Nr,Oj]at hr;obtain⟨h1,h2⟩:=M5 hr
   exact⟨_,by simp[execOp,ho,qw h1,qw h2,eqGuard_at_bool,binOp,Op.equal,Op.maxDepth,run_equalIn_bool' w 9999 xT p q hu],VF _⟩
  ·exact af
 ·rename_i cs ds;split
  ·rename_i ht;split
   ·rename_i b hb;refine av ?_;intro own g w a m _ _ hr;rw[ho]at hr;simp only[Op.operands,Nr,Oj]at hr;obtain⟨h1,h2⟩:=M5 hr;obtain⟨xs,ex,hxs⟩:=pw h1;obtain⟨ys,ey,hys⟩:=pw h2;have he:aaR P xT:=hT.eq _ _ ht rfl;have hr:=tg hT ht rfl he hb hxs hys
    exact⟨_,by simp only[execOp,ho,ex,ey,OB,run_eqGuard_agg w .eql xT x y ⟨xs⟩ ⟨ys⟩ he.b,OO,run_eql_struct,hr,PL],VF _⟩
   ·exact af
  ·rename_i ht;split
   ·rename_i b hb;refine av ?_;intro own g w a m _ _ hr;rw[ho]at hr;simp only[Op.operands,Nr,Oj]at hr;obtain⟨h1,h2⟩:=M5 hr;obtain⟨xs,ex,hxs⟩:=pw h1;obtain⟨ys,ey,hys⟩:=pw h2;have he:aaR P xT:=hT.eq _ _ ht rfl;have hr:=tg hT ht rfl he hb hxs hys
    exact⟨_,by simp only[execOp,ho,ex,ey,OB,run_eqGuard_agg w .neq xT x y ⟨xs⟩ ⟨ys⟩ he.b,OO,run_neq_struct,hr,PL],VF _⟩
   ·exact af
  ·exact af
 ·rename_i t l
  have nil:∀{op:BinOp}{e:TypeId}{s n bs z eq}(b:Bool),T xT=some ⟨.slice e,s,n,bs,z,eq⟩→(∀w:World,∀(a:Addr)(m c:Nat),l≠[]→(do eqGuard op xT x (.const (.slice none 0 0)) (.slice (some a) m c) (.slice none 0 0);binOp op xT (.slice (some a) m c) (.slice none 0 0):Sem Value).run P w = .ok (.bool b) w)→
    o.op = .binOp op xT x (.const (.slice none 0 0)) yT→Rule P o [.c (.im (.sl t l)),.c (.im .nl)] mm c K (cond l.isEmpty none (kB K b)):=by
   intro op e s n bs z eq b ht hrun ho
   cases hl:l.isEmpty with
   | true=>exact af
   | false=>
    have hne:l≠[]:=by rintro rfl;cases hl
    refine av ?_;intro own g w a m _ _ hr;rw[ho]at hr;simp only[Op.operands,Nr,Oj]at hr;obtain⟨h1,h2⟩:=M5 hr;have h1':=bj h1;generalize hv:a.eval x=v at h1'
    cases h1' with
    | im h1'=>
     cases h1' with
     | sl0=>exact absurd rfl hne
     | sl _ _ b' o' cap f hb hcap hm hc hr'=>
      refine⟨.bool b,?_,VF _⟩;have:=hrun w ⟨b',o',none⟩ l.length cap hne;simp only[execOp,ho,hv];rw[OB]
      show(Result.andThen ((do eqGuard op xT x (.const (.slice none 0 0)) (.slice (some ⟨b',o',none⟩) l.length cap) (.slice none 0 0);binOp op xT (.slice (some ⟨b',o',none⟩) l.length cap) (.slice none 0 0):Sem Value).run P w) _)=_
      rw[this];rfl
  split
  ·rename_i e s n bs z eq ht;have hu:=hT.und _ _ ht
   exact nil _ ht (λw a m c _=>by simp[eqGuard_at_slice,binOp,show(Op.equal xT (.slice (some a) m c) (.slice none 0 0)).run P w = .ok false w from Ah 9999 a m c w hu]) ho
  ·rename_i e s n bs z eq ht;have hu:=hT.und _ _ ht
   exact nil _ ht (λw a m c _=>by simp[eqGuard_at_slice,binOp,show(Op.equal xT (.slice (some a) m c) (.slice none 0 0)).run P w = .ok false w from Ah 9999 a m c w hu]) ho
  ·exact af
 ·exact af
end
set_option linter.unusedVariables false
set_option linter.unusedSimpArgs false
section
variable{F:Fam}{P:Program}{T:TypeId→Option (TI F)}{o:Oper}{vals:List (Dat F)}{mm:Nat→Option (Mi F)}{c:Nat}{R:Type}{K:SX F→Option R}{own:Ow}{g:G}{w:World}{m:Nat→Option (Mi F)}
theorem cv(hT:Mf P T){t:TypeId}{ti:TI F}(h:T t=some ti)(w:World):(sizeOf t).run P w = .ok ti.size w:=by obtain⟨j,hj,hs,_⟩:=hT.info t ti h;simp[sizeOf,typeInfo,hj,hs]
theorem ql(hT:Mf P T){t:TypeId}{ti:TI F}(h:T t=some ti)(w:World):(isAgg t).run P w = .ok (gu ti.desc) w:=by
 simp only[isAgg,OB,run_underlying (hT.und t ti h),OO]
 cases ti.desc<;>rfl
theorem Da(hT:Mf P T){s:TypeId}{x:Operand}{fi:Nat}(ho:o.op = .fieldAddr s x fi):Rule P o vals mm c K (A0 T vals K s fi):=by
 unfold A0;split
 ·rename_i hs;split
  ·exact af
  ·rename_i YL adF;split
   ·exact af
   ·rename_i ti hti;refine aA (λ_=>af) (λhz=>?_)
    have key:∀(w:World)(a:Act)(b q:Nat),a.eval x = .pointer (some ⟨b,q,none⟩)→(execOp a.eval o).run P w = .ok (.value (.pointer (some ⟨b,q+YL.offset,none⟩))) w:=by intro w a b q e;have hu:=run_underlying (hT.und _ _ hs) w;have hsz:=cv hT hti w;simp[execOp,ho,e,Instr.fieldAt,hu,adF,Instr.sureAddr,fieldPlace,hsz,hz,Addr.add_lit]
    split
    ·refine av ?_;intro own g w a m _ _ hr;rw[ho]at hr;obtain⟨b,c,hi,e⟩:=ci (Ny hr);exact⟨_,key w a _ _ e,.c (.ptr hi)⟩
    ·refine av ?_;intro own g w a m _ _ hr;rw[ho]at hr;obtain⟨b,c,hi,e⟩:=jz (Ny hr);refine⟨_,key w a _ _ e,?_⟩;rw[UF];exact .c (.OX hi)
    ·refine av ?_;intro own g w a m _ _ hr;rw[ho]at hr;obtain⟨b,q,fn,hb,e,hc,hr⟩:=rO (Ny hr);refine⟨_,key w a _ _ e,?_⟩;rw[UF];exact .c (.pt _ _ b q fn hb hc hr)
    ·refine av ?_;intro own g w a m _ _ hr;rw[ho]at hr;obtain⟨b,c,n,b',c',hi,hk,e⟩:=CP (Ny hr);refine⟨_,key w a _ _ e,?_⟩;rw[UF];exact .c (.Uj hi hk)
    ·exact af
 ·exact af
theorem BI(hT:Mf P T){t:TypeId}{ti:TI F}(ht:T t=some ti){cs:List (MK F)}{vs:List Value}{off:Nat}{d:Dat F}(h:gi ti cs off=some d)
  (hl:vs.length=cs.length) (hr:∀(k:Nat)(c:MK F)(x:Value),cs[k]? = some c→vs[k]? = some x→Mj g w c x) :
  ∃v,(part t ⟨vs⟩ off).run P w = .ok v w∧Me P g w d v:=by
 unfold gi at h;have ha:=ql hT ht w;have hs:=cv hT ht w;split at h
 ·rename_i hag;split at h
  ·cases h;refine⟨.agg ⟨(vs.drop off).take ti.size⟩,?_,?_⟩
   ·simp only[part,OB,ha,OO,hag,if_true,hs,PL]
    congr 2
    apply Array.ext';simp[List.extract_eq_take_drop]
   ·refine .agg (by simp[hl]) ?_
    intro k c x h1 h2;rw[RF]at h1 h2;split at h1
    ·rename_i hk;rw[if_pos hk]at h2;rw[Tc]at h1 h2;exact hr _ _ _ h1 h2
    ·cases h1
  ·cases h
 ·rename_i hag;split at h
  ·rename_i c hc;cases h
   have hlt:off<vs.length:=by rw[hl];exact(Lb.1 hc).1
   refine⟨vs[off],?_,.c (hr off c _ hc (La hlt))⟩
   have hag':gu ti.desc=false:=by simpa using hag
   simp only[part,OB,ha,OO,hag',R3,if_false]
   have:(⟨vs⟩:Array Value)[off]? = some vs[off]:=by simp[hlt]
   rw[this];rfl
  ·cases h
theorem ou{od:Option (Dat F)}(h:∀d,od=some d→U7 P o vals mm d):Rule P o vals mm c K (pK od K):=by
 cases od with
 | some d=>exact av (h d rfl)
 | none=>exact af
theorem ES(hT:Mf P T){s:TypeId}{x:Operand}{fi:Nat}(ho:o.op = .field s x fi):Rule P o vals mm c K (Zf T vals K s fi):=by
 unfold Zf;split
 ·rename_i hs;split
  ·exact af
  ·rename_i YL adF;split
   ·exact af
   ·rename_i ti hti;refine aA (λ_=>ou λd hd=>?_) (λ_=>af);intro own g w a m _ _ hr;rw[ho]at hr;obtain⟨vs,e,hl,hr⟩:=pw (Ny hr);obtain⟨v,hrun,hv⟩:=BI (P:=P) hT hti hd hl hr
    exact⟨v,by simp only[execOp,ho,OB,Instr.field,run_underlying (hT.und _ _ hs),OO,adF,e,asAgg,PL,hrun],hv⟩
 ·exact af
theorem eC(hT:Mf P T){t:TypeId}{ti:TI F}(ht:T t=some ti){cs:List (MK F)}{off b q:Nat}{d:Dat F}(h:gi ti cs off=some d)
  (hc:∀k c,cs[k]? = some c→∃x,w.cell? ⟨b,q+k,none⟩=some x∧Mj g w c x) :
  ∃v,(loadVar t ⟨b,q+off,none⟩).run P w = .ok v w∧Me P g w d v:=by
 unfold gi at h;have ha:=ql hT ht w;have hs:=cv hT ht w;split at h
 ·rename_i hag;split at h
  ·rename_i hle;have hle:=Va hle;cases h
   have hrun:=run_loadCells (P:=P) w ⟨b,q+off,none⟩ ti.size (λj=>(w.cell? ⟨b,q+off+j,none⟩).getD undef) (by
    intro j hj;rw[Addr.add_lit]
    have hlt:off+j<cs.length:=by omega
    obtain⟨x,hx,_⟩:=hc (off+j) _ (La hlt);rw[← UF]at hx;rw[hx];rfl)
   refine⟨.agg ⟨(List.range ti.size).map (λj=>(w.cell? ⟨b,q+off+j,none⟩).getD undef)⟩,by simp only[loadVar,OB,ha,OO,hag,if_true,hs,hrun,PL],?_⟩
   refine .agg (by simp;omega) ?_
   intro k c x h1 h2;rw[RF]at h1;split at h1
   ·rename_i hk;rw[Tc]at h1;obtain⟨y,hy,hr⟩:=hc (off+k) c h1;rw[← UF]at hy;simp only[Rf,QgH hk,Ya,NI]at h2;rw[hy]at h2;simp only[Wz]at h2;subst h2;exact hr
   ·cases h1
  ·cases h
 ·rename_i hag;split at h
  ·rename_i c hcc;cases h;obtain⟨x,hx,hr⟩:=hc off c hcc
   have hag':gu ti.desc=false:=by simpa using hag
   refine⟨x,?_,.c hr⟩;simp only[loadVar,OB,ha,OO,hag',R3,if_false,run_load,hx]
  ·cases h
theorem zM{α : Type}{sz:Nat}:∀{es:List (List α)} (_:∀e∈es,e.length=sz) {i k:Nat} {e:List α} {d:α} (_:es[i]? = some e) (_:e[k]? = some d),es.flatten[i*sz+k]? = some d
 | [],_,i,k,e,d,h1,_=>by simp at h1
 | x::es,hsz,0,k,e,d,h1,h2=>by simp only[Rh,NI]at h1;subst h1;simp only[YQ,Nat.zero_mul,OY];rw[Ru (Lb.1 h2).1];exact h2
 | x::es,hsz,i+1,k,e,d,h1,h2=>by
  simp only[QdK]at h1
  have hx:x.length=sz:=hsz x (by simp)
  have ih:=zM (es:=es) (λe he=>hsz e (by simp[he])) h1 h2
  simp only[YQ]
  rw[RD (by rw[hx,TM];omega),hx]
  rw[show(i+1)*sz+k - sz=i*sz+k by rw[TM];omega]
  exact ih
theorem lT{α : Type}{sz:Nat}:∀{es:List (List α)} (_:∀e∈es,e.length=sz),es.flatten.length=es.length*sz
 | [],_=>by simp
 | x::es,h=>by
  have hx:x.length=sz:=h x (by simp)
  have ih:=lT (es:=es) (λe he=>h e (by simp[he]))
  simp only[YQ,Lc,P5,ih,hx,TM];omega
theorem qV{t:Ty}{l:List (ET F t)}:∀e∈l.map (LZ F t),e.length=LV F t:=by intro e he;rw[RA]at he;obtain⟨x,_,rfl⟩:=he;exact bC F t x
theorem aG{t:Ty}{l:List (ET F t)}:(cells F t l).length=l.length*LV F t:=by unfold cells;rw[lT qV,PI]
theorem a_{t:Ty}{l:List (ET F t)}{i k:Nat}{x:ET F t}{d:ND F}(h:l[i]? = some x)(hk:(LZ F t x)[k]? = some d):(cells F t l)[i*LV F t+k]? = some d:=
 zM qV (by rw[Rf,h];rfl) hk
theorem yG(hm:LQ own g w m){id:Nat}{cs:List (MK F)}(h:m id=some (.box cs)){b:Nat}{c:Nat×Nat×NS}(hi:g.ids id=some (some (b,c))) :
  ∀k c,cs[k]? = some c→∃x,w.cell? ⟨b,0+k,none⟩=some x∧Mj g w c x:=by
 obtain⟨b',c',arr,t,h1,h2,h3,h4⟩:=hm.ok id _ h;rw[h1]at hi;cases hi;intro k c hk
 have hlt:k<arr.length:=by rw[h3];exact(Lb.1 hk).1
 refine⟨arr[k],?_,h4 k c _ hk (La hlt)⟩;simp[World.cell?,h2,hlt]
theorem dj(hm:LQ own g w m){id:Nat}{t:Ty}{l:List (ET F t)}(h:m id=some (.row t l)){b c:Nat}{n:Nat×NS}(hi:g.ids id=some (some (b,c,n))) :
  n=(l.length,[])∧l.length≤c∧∀k d,(cells F t l)[k]? = some d→∃x,w.cell? ⟨b,k,none⟩=some x∧Md w g.Lj d x:=by
 rcases hm.ok id _ h with⟨h1,_⟩ | ⟨b',cap,cur,e,h1,h2,h3,h4,h5,h6⟩
 ·rw[h1]at hi;cases hi
 ·rw[h1]at hi;cases hi;refine⟨rfl,h3,?_⟩;intro k d hk
  have hlt:k<cur.length:=by have h7:k<(cells F t l).length:=(Lb.1 hk).1;rw[aG]at h7;have:l.length*LV F t≤c*LV F t:=Ro _ h3;omega
  refine⟨cur[k],?_,h6 k d _ hk (La hlt)⟩;simp[World.cell?,h2,hlt]
theorem pT(hm:LQ own g w m){id:Nat}{t:Ty}{l:List (ET F t)}(h:m id=some (.Tf t l)){b c:Nat}{n:Nat×NS}(hi:g.ids id=some (some (b,c,n))) :
  ∃ns,n=(l.length,ns)∧l.length≤c∧c≤maxLen∧g.Lj b∧∀k d,(cells F t l)[k]? = some d→∃x,w.cell? ⟨b,k,none⟩=some x∧Md w g.Lj d x:=by
 rcases hm.ok id _ h with⟨h1,_⟩ | ⟨b',cap,ns,h1,hn,h2,h3,h4,h5⟩
 ·rw[h1]at hi;cases hi
 ·rw[h1]at hi;cases hi;exact⟨_,rfl,h3,h4,h2,h5⟩
theorem ky(hm:LQ own g w m){id:Nat}{t:Ty}{l:List (ET F t)}(h:m id=some (.Nb t l)){b c:Nat}{n:Nat×NS}(hi:g.ids id=some (some (b,c,n))) :
  n.1=l.length∧l.length≤c∧c≤maxLen∧∀k d,(cells F t l)[k]? = some d→∃x pl,w.cell? ⟨b,k,none⟩=some x∧n.2[k]? = some pl∧Oz w g.Lj d x pl:=by
 obtain⟨pl,h1,h2⟩:=hm.ok id _ h;rw[h1]at hi;cases hi;obtain⟨q1,q2,q3,q4,q5,cur,e,q6,q7,q8⟩:=h2;refine⟨q1,q2,q3,?_⟩;intro k d hk;have h7:k<(cells F t l).length:=(Lb.1 hk).1
 have hlt:k<cur.length:=by have h8:=h7;rw[aG]at h8;have:l.length*LV F t≤c*LV F t:=Ro _ q2;omega
 refine⟨cur[k],n.2[k],?_,La (by omega),q8 k d _ _ hk (La hlt) (La (by omega))⟩
 simp[World.cell?,q6,hlt]
theorem kO{cs:List (ND F)}{k:Nat}{c:MK F}(h:(cs.map MK.im)[k]? = some c):∃d,cs[k]? = some d∧c = .im d:=by rw[Rf,Wp]at h;obtain⟨d,hd,rfl⟩:=h;exact⟨d,hd,rfl⟩
theorem F5(hT:Mf P T){t:TypeId}{x:Operand}(ho:o.op = .load t x):Rule P o vals mm c K (Zg T vals mm K t):=by
 unfold Zg
 have key:∀{w:World}{a:Act}{b q:Nat}{v:Value},a.eval x = .pointer (some ⟨b,q,none⟩)→(loadVar t ⟨b,q,none⟩).run P w = .ok v w→(execOp a.eval o).run P w = .ok (.value v) w:=by intro w a b q v e hr;simp[execOp,ho,e,Instr.loadAt,Instr.sureAddr,hr]
 split
 ·exact af
 ·rename_i ti hti;split
  ·refine ou λd hd=>?_;intro own g w a m _ _ hr;rw[ho]at hr;obtain⟨b,q,fn,hb,e,hc,hr⟩:=rO (Ny hr)
   obtain⟨v,hrun,hrep⟩:=eC (P:=P) (g:=g) (w:=w) hT hti hd (b:=b) (q:=q) (by intro k c hk;obtain⟨d',hd',rfl⟩:=kO hk;exact⟨fn k,hc k d' hd',.im (hr k d' hd')⟩)
   exact⟨v,key e hrun,hrep⟩
  ·rename_i cs;refine aA (λ_=>af) (λhag=>av ?_);intro own g w a m _ _ hr;rw[ho]at hr;obtain⟨b,q,b2,q2,fn,hb,hv,hb2,e,hc,hr⟩:=Ko (Ny hr)
   have hd:gi ti [MK.pt cs 0] 0=some (.c (.pt cs 0)):=by simp[gi,hag]
   obtain⟨v,hrun,hrep⟩:=eC (P:=P) (g:=g) (w:=w) hT hti hd (b:=b) (q:=q) (by
    intro k c hk
    cases k with
    | zero=>simp only[Rh,NI]at hk;subst hk;exact⟨_,hv,.pt cs 0 b2 q2 fn hb2 hc hr⟩
    | succ k=>simp at hk)
   exact⟨v,key e hrun,hrep⟩
  ·split
   ·rename_i Pn;refine ou λd hd=>?_;intro own g w a m hle hm hr;rw[ho]at hr;obtain⟨b,c,hi,e⟩:=ci (Ny hr);obtain⟨v,hrun,hrep⟩:=eC (P:=P) (g:=g) (w:=w) hT hti hd (b:=b) (q:=0) (yG hm (hle _ _ Pn) hi);rw[OY]at hrun;exact⟨v,key e hrun,hrep⟩
   ·rename_i Pn;refine ou λd hd=>?_;intro own g w a m hle hm hr;rw[ho]at hr;obtain⟨b,c,hi,e⟩:=ci (Ny hr);obtain⟨b',c',h1,h2,h3⟩:=hm.ok _ _ (hle _ _ Pn);rw[h1]at hi;cases hi
    obtain⟨v,hrun,hrep⟩:=eC (P:=P) (g:=g) (w:=w) hT hti hd (b:=b) (q:=0) (by
     intro k c hk;obtain⟨d',hd',rfl⟩:=kO hk;obtain⟨y,k1,k2⟩:=h3 k d' hd'
     exact⟨y,by rw[OY];exact k1,.im k2⟩)
    rw[OY]at hrun;exact⟨v,key e hrun,hrep⟩
   ·exact af
  ·rename_i id sz i off;split
   ·rename_i t' l hrow;refine aA (λhsz=>aE λx hx=>ou λd hd=>?_) (λ_=>af);subst hsz;intro own g w a m hle hm hr;rw[ho]at hr;obtain⟨b,c,hi,e⟩:=jz (Ny hr);obtain⟨_,_,hcell⟩:=dj hm (hle _ _ hrow) (c:=c.1) (n:=c.2) hi
    obtain⟨v,hrun,hrep⟩:=eC (P:=P) (g:=g) (w:=w) hT hti hd (b:=b) (q:=i*LV F t') (by intro k c hk;obtain⟨d',hd',rfl⟩:=kO hk;obtain⟨y,hy,hr⟩:=hcell _ _ (a_ hx hd');exact⟨y,hy,.im hr⟩)
    exact⟨v,key e hrun,hrep⟩
   ·rename_i t' l hrow;refine aA (λhsz=>aE λx hx=>ou λd hd=>?_) (λ_=>af);subst hsz;intro own g w a m hle hm hr;rw[ho]at hr;obtain⟨b,c,hi,e⟩:=jz (Ny hr);obtain⟨_,_,_,_,_,hcell⟩:=pT hm (hle _ _ hrow) (c:=c.1) (n:=c.2) hi
    obtain⟨v,hrun,hrep⟩:=eC (P:=P) (g:=g) (w:=w) hT hti hd (b:=b) (q:=i*LV F t') (by intro k c hk;obtain⟨d',hd',rfl⟩:=kO hk;obtain⟨y,hy,hr⟩:=hcell _ _ (a_ hx hd');exact⟨y,hy,.im hr⟩)
    exact⟨v,key e hrun,hrep⟩
   ·rename_i t' l hrow;refine aA (λhsz=>aE λx hx=>?_) (λ_=>af);simp only[Ng,decide_eq_true_eq,UJ]at hsz;obtain⟨rfl,hag⟩:=hsz
    have one:∀{w:World}{b q:Nat}{v:Value},w.cell? ⟨b,q,none⟩=some v→(loadVar t ⟨b,q,none⟩).run P w = .ok v w:=by intro w b q v h;simp only[loadVar,OB,ql hT hti,OO,hag,R3,if_false,run_load,h]
    split
    ·rename_i t2 l2 hd;refine av ?_;intro own g w a m hle hm hr;rw[ho]at hr;obtain⟨b,c,hi,e⟩:=jz (Ny hr);obtain⟨_,_,_,hcell⟩:=ky hm (hle _ _ hrow) (c:=c.1) (n:=c.2) hi;obtain⟨y,pl,k1,k2,k3⟩:=hcell _ _ (a_ hx hd);exact⟨y,key e (one k1),.c (.TB hi k2 k3.2)⟩
    ·rename_i d hns hd;refine aA (λhf=>av ?_) (λ_=>af);intro own g w a m hle hm hr;rw[ho]at hr;obtain⟨b,c,hi,e⟩:=jz (Ny hr);obtain⟨_,_,_,hcell⟩:=ky hm (hle _ _ hrow) (c:=c.1) (n:=c.2) hi;obtain⟨y,pl,k1,k2,k3⟩:=hcell _ _ (a_ hx hd);refine⟨y,key e (one k1),.c (.im ?_)⟩
     cases d with
     | sl t2 l2=>exact absurd rfl (hns t2 l2)
     | _=>exact k3.2.2
    ·exact af
   ·exact af
  ·exact af
end
set_option linter.unusedVariables false
set_option linter.unusedSimpArgs false
section
variable{F:Fam}{P:Program}{T:TypeId→Option (TI F)}{o:Oper}{vals:List (Dat F)}{mm:Nat→Option (Mi F)}{c:Nat}{R:Type}{K:SX F→Option R}{own:Ow}{g:G}{w:World}{m:Nat→Option (Mi F)}
theorem Ff{α : Type}{l:List α}{i:Int}{x:α}(h:idx l i=some x):0≤i∧l[i.toNat]? = some x:=by
 unfold idx at h;split at h
 ·exact⟨by assumption,h⟩
 ·cases h
theorem o0{i:Int}{n k:Nat}(h:MZ i n=some k):0≤i∧i.toNat<n∧k=i.toNat:=by
 unfold MZ at h;split at h
 ·rename_i hc;cases h;exact⟨hc.1,hc.2,rfl⟩
 ·cases h
theorem D6{a b:Int}{n:Nat}{p:Nat×Nat}(h:OV a b n=some p):0≤a∧a≤b∧b≤n∧p=(a.toNat,b.toNat - a.toNat):=by
 unfold OV at h;split at h
 ·rename_i hc;cases h;exact⟨hc.1,hc.2.1,hc.2.2,rfl⟩
 ·cases h
theorem wt{α : Type}{l r:List α}{a b:Int}(h:slc l a b=some r):0≤a∧a≤b∧b≤l.length∧r=(l.take b.toNat).drop a.toNat:=by
 unfold slc at h;split at h
 ·rename_i hc;cases h;exact⟨hc.1,hc.2.1,hc.2.2,rfl⟩
 ·cases h
theorem bE{id:Nat}{v:Value}(h:Mj (F:=F) g w (.Nl id) v):(g.ids id=some none∧∃p,v = .slice p 0 0)∨
  ∃(b c:Nat)(n:Nat×NS),g.ids id=some (some (b,c,n))∧n.1≤c∧c≤maxLen∧v = .slice (some ⟨b,0,none⟩) n.1 c:=by
 cases h with
 | PN p h=>exact .inl ⟨h,p,rfl⟩
 | Nl h h1 h2=>exact .inr ⟨_,_,_,h,h1,h2,rfl⟩
theorem pG{id sz off n:Nat}{v:Value}(h:Mj (F:=F) g w (.Rz id sz off n) v):(g.ids id=some none∧off=0∧n=0∧∃p,v = .slice p 0 0)∨
  ∃(b c:Nat)(len:Nat×NS)(o:Nat),g.ids id=some (some (b,c,len))∧off+n≤len.1∧len.1≤c∧((off=c∧0<c)∨o=off*sz)∧c≤maxLen∧v = .slice (some ⟨b,o,none⟩) n (c - off):=by
 cases h with
 | Tx p h=>exact .inl ⟨h,rfl,rfl,p,rfl⟩
 | Rz h h1 h2 h3 h4=>exact .inr ⟨_,_,_,_,h,h1,h2,h3,h4,rfl⟩
theorem HS{n k:Nat}{y:Operand}(h:Uc n y=some k):k<n∧∃kd,y = .const (.int kd (k:Int)):=by
 unfold Uc at h;split at h
 ·split at h
  ·rename_i kd k' hk;cases h;simp only[R6]at hk;exact⟨hk,kd,rfl⟩
  ·cases h
 ·cases h
theorem xq{t':Ty}{l:List (ET F t')}{n:Int}{x:ET F t'}{v:Value}(hx:idx l n=some x)(hv:Md w g.Lj (.sl t' l) v) :
  ∃b q len cap,v = .slice (some ⟨b,q,none⟩) len cap∧0≤n∧n<len∧Mj g w (.pt (LZ F t' x) 0) (.pointer (some ⟨b,q+n.toNat*LV F t'+0,none⟩)):=by
 obtain⟨h0,h1⟩:=Ff hx;have hlt:n.toNat<l.length:=(Lb.1 h1).1;rcases tZ hv with⟨rfl,_⟩ | ⟨b,q,cap,fn,hb,hcap,hmx,e1,hc,hr⟩
 ·simp at hlt
 ·refine⟨b,q,l.length,cap,e1,h0,by omega,.pt _ 0 b (q+n.toNat*LV F t') (λk=>fn (n.toNat*LV F t'+k)) hb ?_ ?_⟩
  ·intro k d hk;rw[UF];exact hc _ d (a_ h1 hk)
  ·intro k d hk;exact hr _ d (a_ h1 hk)
theorem mO{t:Ty}{l:List (ET F t)}{a n:Nat}:cells F t (sub l a n)=((cells F t l).drop (a*LV F t)).take (n*LV F t):=by
 unfold cells sub
 have Yw:∀{es:List (List (ND F))} (_:∀e∈es,e.length=LV F t) (n:Nat),(es.drop n).flatten=es.flatten.drop (n*LV F t):=by
  intro es
  induction es with
  | nil=>intro _ n;simp
  | cons x es ih=>
   intro h n
   cases n with
   | zero=>simp
   | succ n=>
    have hx:x.length=LV F t:=h x (by simp)
    have e1:x.drop (n*LV F t+LV F t) = []:=List.drop_of_length_le (by omega)
    rw[List.drop_succ_cons,ih (λe he=>h e (by simp[he])) n,YQ,TM,List.drop_append,hx,e1]
    simp
 have Yv:∀{es:List (List (ND F))} (_:∀e∈es,e.length=LV F t) (n:Nat),(es.take n).flatten=es.flatten.take (n*LV F t):=by
  intro es
  induction es with
  | nil=>intro _ n;simp
  | cons x es ih=>
   intro h n
   cases n with
   | zero=>simp
   | succ n=>
    have hx:x.length=LV F t:=h x (by simp)
    have e1:x.take (n*LV F t+LV F t)=x:=WC (by omega)
    rw[List.take_succ_cons,YQ,ih (λe he=>h e (by simp[he])) n,YQ,TM,List.take_append,hx,e1]
    simp
 rw[List.map_take,List.map_drop,Yv (λe he=>qV e (QgB he)),Yw qV]
theorem mi{t:Ty}{l:List (ET F t)}{a n k:Nat}{d:ND F}(h:(cells F t (sub l a n))[k]? = some d):(cells F t l)[a*LV F t+k]? = some d:=by
 rw[mO,RF]at h;split at h
 ·rwa [Tc]at h
 ·cases h
theorem rz(hm:LQ own g w m){id:Nat}{t:Ty}{l:List (ET F t)}(h:m id=some (.Tf t l)){v:Value}(hv:Mj (F:=F) g w (.Nl id) v):Md w g.Lj (.sl t l) v:=by
 rcases bE hv with⟨hi,p,rfl⟩ | ⟨b,c,n,hi,h1,h2,rfl⟩
 ·rcases hm.ok id _ h with⟨_,rfl⟩ | ⟨b',cap,_,k1,_⟩
  ·exact .sl0 t p
  ·rw[hi]at k1;cases k1
 ·obtain⟨ns,rfl,h4,h5,h6,h7⟩:=pT hm h hi;refine .sl t l b 0 c (λk=>(w.cell? ⟨b,k,none⟩).getD undef) h6 h4 h5 ?_ ?_
  ·intro k d hk;obtain⟨x,k1,k2⟩:=h7 k d hk;rw[OY,k1];rfl
  ·intro k d hk;obtain⟨x,k1,k2⟩:=h7 k d hk;rw[k1];exact k2
theorem Bc(hm:LQ own g w m){id:Nat}{t:Ty}{l:List (ET F t)}(h:m id=some (.Tf t l)){sz off n:Nat}(hsz:sz=LV F t){v:Value}(hv:Mj (F:=F) g w (.Rz id sz off n) v):Md w g.Lj (.sl t (sub l off n)) v:=by
 subst hsz;rcases pG hv with⟨hi,rfl,rfl,p,rfl⟩ | ⟨b,c,len,q,hi,h1,h2,h3,h4,rfl⟩
 ·have:sub l 0 0 = []:=by simp[sub]
  rw[this];exact .sl0 t p
 ·obtain⟨ns,rfl,h4,h5,h6,h7⟩:=pT hm h hi
  have hlen:(sub l off n).length=n:=by simp only[sub,Ox,Rn];omega
  have key:∀(k:Nat)(d:ND F),(cells F t (sub l off n))[k]? = some d→∃x,w.cell? ⟨b,q+k,none⟩=some x∧Md w g.Lj d x:=by
   intro k d hk;rcases h3 with⟨h3,_⟩ | h3
   ·have h0:n=0:=by omega
    subst h0;simp[sub,cells]at hk
   ·subst h3;exact h7 _ _ (mi hk)
  have:=Md.sl (F:=F) (w:=w) (Lj:=g.Lj) t (sub l off n) b q (c - off) (λk=>(w.cell? ⟨b,q+k,none⟩).getD undef) h6 (by omega) (by omega)
   (λk d hk=>by obtain⟨x,k1,k2⟩:=key k d hk;rw[k1];rfl) (λk d hk=>by obtain⟨x,k1,k2⟩:=key k d hk;rw[k1];exact k2)
  rwa [hlen]at this
theorem yd(hT:Mf P T){t:TypeId}{x ix:Operand}(ho:o.op = .indexAddr t x ix):Rule P o vals mm c K (sV T vals mm K t ix):=by
 unfold sV;split
 ·rename_i e _ _ _ _ _ ht;split
  ·exact af
  ·rename_i te hte
   have run:∀{w:World}{a:Act}{b q len cap:Nat}{k:IntKind} {n:Int},a.eval x = .slice (some ⟨b,q,none⟩) len cap→a.eval ix = .int k n→0≤n→n<len→
     (execOp a.eval o).run P w = .ok (.value (.pointer (some ⟨b,q+n.toNat*te.size,none⟩))) w:=by
    intro w a b q len cap k n e1 e2 h0 h1;have hu:=run_underlying (hT.und _ _ ht) w;have hs:=cv hT hte w;have h2:0≤n∧n<len:=⟨h0,h1⟩;simp only[execOp,ho,e1,e2,OB,Instr.indexAt,asIntOf,hu,OO,PL,h2,and_self,if_true,hs,Addr.add_lit]
   split
   ·rename_i t' l k n;refine aA (λhsz=>aE λx' hx=>av ?_) (λ_=>af);intro own g w a m hle hm hr;rw[ho]at hr;simp only[Op.operands,Nr,Oj]at hr;obtain⟨h1,h2⟩:=M5 hr;obtain⟨b,q,len,cap,e1,h3,h4,h5⟩:=xq hx (tz h1);rw[hsz]at h5;exact⟨_,run e1 (cJ h2) h3 h4,.c h5⟩
   ·rename_i id k n;split
    ·rename_i t' l hrow;refine aA (λhsz=>aE λi hi=>av ?_) (λ_=>af);intro own g w a m hle hm hr;rw[ho]at hr;simp only[Op.operands,Nr,Oj]at hr;obtain⟨h1,h2⟩:=M5 hr;obtain⟨h3,h4,rfl⟩:=o0 hi;rcases bE (bj h1)with⟨hid,p,ev⟩ | ⟨b,c',len,hid,h5,h6,ev⟩
     ·rcases hm.ok id _ (hle _ _ hrow)with⟨_,rfl⟩ | ⟨_,_,_,_,k1,_⟩
      ·simp at h4
      ·rw[hid]at k1;cases k1
     ·obtain⟨rfl,_,_⟩:=dj hm (hle _ _ hrow) hid
      exact⟨_,run ev (cJ h2) h3 (by dsimp only;omega),by rw[OY];exact .c (.OX (off:=0) hid)⟩
    ·rename_i t' l hrow;refine aA (λhsz=>aE λi hi=>av ?_) (λ_=>af);intro own g w a m hle hm hr;rw[ho]at hr;simp only[Op.operands,Nr,Oj]at hr;obtain⟨h1,h2⟩:=M5 hr;obtain⟨h3,h4,rfl⟩:=o0 hi;rcases bE (bj h1)with⟨hid,p,ev⟩ | ⟨b,c',len,hid,h5,h6,ev⟩
     ·obtain⟨pl,k1,k2⟩:=hm.ok id _ (hle _ _ hrow);rw[hid]at k1;cases k1;have k2:l = []:=k2;subst k2;simp at h4
     ·obtain⟨k1,_⟩:=ky hm (hle _ _ hrow) hid
      exact⟨_,run ev (cJ h2) h3 (by omega),by rw[OY];exact .c (.OX (off:=0) hid)⟩
    ·rename_i t' l _ _ hrow;refine aA (λhsz=>aE λi hi=>av ?_) (λ_=>af);intro own g w a m hle hm hr;rw[ho]at hr;simp only[Op.operands,Nr,Oj]at hr;obtain⟨h1,h2⟩:=M5 hr;obtain⟨h3,h4,rfl⟩:=o0 hi;rcases bE (bj h1)with⟨hid,p,ev⟩ | ⟨b,c',len,hid,h5,h6,ev⟩
     ·obtain⟨pl,k1,k2⟩:=hm.ok id _ (hle _ _ hrow);rw[hid]at k1;cases k1;have k2:l = []:=k2;subst k2;simp at h4
     ·obtain⟨pl,k1,k2⟩:=hm.ok id _ (hle _ _ hrow);rw[hid]at k1;cases k1;have k1:=k2.1
      exact⟨_,run ev (cJ h2) h3 (by omega),by rw[OY];exact .c (.OX (off:=0) hid)⟩
    ·rename_i t' l _ hrow;refine aA (λhsz=>aE λi hi=>av ?_) (λ_=>af);intro own g w a m hle hm hr;rw[ho]at hr;simp only[Op.operands,Nr,Oj]at hr;obtain⟨h1,h2⟩:=M5 hr;obtain⟨h3,h4,rfl⟩:=o0 hi;rcases bE (bj h1)with⟨hid,p,ev⟩ | ⟨b,c',len,hid,h5,h6,ev⟩
     ·obtain⟨pl,k1,k2⟩:=hm.ok id _ (hle _ _ hrow);rw[hid]at k1;cases k1;have k2:l = []:=k2;subst k2;simp at h4
     ·obtain⟨pl,k1,k2⟩:=hm.ok id _ (hle _ _ hrow);rw[hid]at k1;cases k1;have k1:=k2.1
      exact⟨_,run ev (cJ h2) h3 (by omega),by rw[OY];exact .c (.OX (off:=0) hid)⟩
    ·rename_i t' l hrow;refine aA (λhsz=>aE λx' hx=>av ?_) (λ_=>af);intro own g w a m hle hm hr;rw[ho]at hr;simp only[Op.operands,Nr,Oj]at hr;obtain⟨h1,h2⟩:=M5 hr;obtain⟨b,q,len,cap,e1,h3,h4,h5⟩:=xq hx (rz hm (hle _ _ hrow) (bj h1));rw[hsz]at h5;exact⟨_,run e1 (cJ h2) h3 h4,.c h5⟩
    ·exact af
   ·rename_i id sz i0 off k n;split
    ·rename_i t' l hrow;refine aA (λhsz=>aE λx' hx=>?_) (λ_=>af);subst hsz;split
     ·rename_i t2 l2 hd;refine aA (λhsz=>aE λj hj=>av ?_) (λ_=>af);intro own g w a m hle hm hr;rw[ho]at hr;simp only[Op.operands,Nr,Oj]at hr;obtain⟨h1,h2⟩:=M5 hr;obtain⟨h3,h4,rfl⟩:=o0 hj;obtain⟨b,c',nn,pl,hid,hk,hv⟩:=Kq h1;obtain⟨_,_,_,hcell⟩:=ky hm (hle _ _ hrow) hid;obtain⟨y,WZ,_,k2,k3⟩:=hcell _ _ (a_ hx hd);rw[hk]at k2;cases k2
      cases pl with
      | none=>have k3:l2 = []:=k3.1;subst k3;simp at h4
      | some q=>
       obtain⟨b2,c2,n2⟩:=q;obtain⟨k4,k5,k6,_⟩:=k3.1;simp only[Prod.mk.injEq,and_true]at k4
       refine⟨_,run hv (cJ h2) h3 (by dsimp only;omega),?_⟩
       rw[OY];exact .c (.Uj (off':=0) hid hk)
     ·exact af
    ·exact af
   ·rename_i id sz off len k n;refine aA (λhsz=>aE λi hi=>av ?_) (λ_=>af);intro own g w a m hle hm hr;rw[ho]at hr;simp only[Op.operands,Nr,Oj]at hr;obtain⟨h1,h2⟩:=M5 hr;obtain⟨h3,h4,rfl⟩:=o0 hi;rcases pG (bj h1)with⟨_,_,rfl,_⟩ | ⟨b,c',len',q,hid,h5,h6,h7,h8,ev⟩
    ·omega
    ·have hq:q=off*sz:=by
      rcases h7 with h7 | h7
      ·omega
      ·exact h7
     subst hq
     refine⟨_,run ev (cJ h2) h3 (by omega),?_⟩
     rw[← hsz,← Um];exact .c (.OX (off:=0) hid)
   ·rename_i id len k n;refine aA (λhsz=>aE λi hi=>av ?_) (λ_=>af);intro own g w a m hle hm hr;rw[ho]at hr;simp only[Op.operands,Nr,Oj]at hr;obtain⟨h1,h2⟩:=M5 hr;obtain⟨h3,h4,rfl⟩:=o0 hi;obtain⟨b,c',hid,_,ev⟩:=xB h1
    refine⟨_,run ev (cJ h2) h3 (by omega),?_⟩
    rw[hsz,Nat.mul_one,OY];exact .c (.ptr hid)
   ·exact af
 ·rename_i len e _ _ _ _ _ ht;split
  ·exact af
  ·rename_i te hte
   have run:∀{w:World}{a:Act}{b q:Nat}{k:IntKind} {n:Int},a.eval x = .pointer (some ⟨b,q,none⟩)→a.eval ix = .int k n→0≤n→n<len→
     (execOp a.eval o).run P w = .ok (.value (.pointer (some ⟨b,q+n.toNat*te.size,none⟩))) w:=by
    intro w a b q k n e1 e2 h0 h1;have hu:=run_underlying (hT.und _ _ ht) w;have hs:=cv hT hte w;have h2:0≤n∧n<len:=⟨h0,h1⟩;simp only[execOp,ho,e1,e2,OB,Instr.indexAt,asIntOf,hu,OO,PL,Instr.sureAddr,h2,and_self,if_true,hs,Addr.add_lit]
   have lit:∀{i:Nat},Uc len ix=some i→∀(a:Act),∃k,a.eval ix = .int k (i:Int)∧(0:Int)≤i∧(i:Int)<len:=by
    intro i hi a;obtain⟨h1,kd,rfl⟩:=HS hi
    exact⟨kd,rfl,by omega,by omega⟩
   split
   ·rename_i id off k n;split
    ·rename_i t' l hrow;refine aA (λhsz=>?_) (λ_=>af);split
     ·rename_i i hi;refine av ?_;intro own g w a m hle hm hr;rw[ho]at hr;simp only[Op.operands,Nr,Oj]at hr;obtain⟨h1,h2⟩:=M5 hr;obtain⟨b,c',hid,e1⟩:=ci h1;obtain⟨kd,e2,h3,h4⟩:=lit hi a;refine⟨_,run e1 e2 h3 h4,?_⟩;rw[OY,TG];exact .c (.OX (off:=0) hid)
     ·refine aE λi hi=>av ?_;intro own g w a m hle hm hr;rw[ho]at hr;simp only[Op.operands,Nr,Oj]at hr;obtain⟨h1,h2⟩:=M5 hr;obtain⟨b,c',hid,e1⟩:=ci h1;obtain⟨h3,h4,rfl⟩:=o0 hi
      refine⟨_,run e1 (cJ h2) h3 (by omega),?_⟩
      rw[OY];exact .c (.OX (off:=0) hid)
    ·split
     ·rename_i i hi;refine av ?_;intro own g w a m hle hm hr;rw[ho]at hr;simp only[Op.operands,Nr,Oj]at hr;obtain⟨h1,h2⟩:=M5 hr;obtain⟨b,c',hid,e1⟩:=ci h1;obtain⟨kd,e2,h3,h4⟩:=lit hi a;refine⟨_,run e1 e2 h3 h4,?_⟩;rw[TG];exact .c (.ptr hid)
     ·exact af
    ·exact af
   ·split
    ·rename_i i hi;refine av ?_;intro own g w a m hle hm hr;rw[ho]at hr;simp only[Op.operands,Nr,Oj]at hr;obtain⟨h1,h2⟩:=M5 hr;obtain⟨b,c',hid,e1⟩:=jz h1;obtain⟨kd,e2,h3,h4⟩:=lit hi a;refine⟨_,run e1 e2 h3 h4,?_⟩;rw[TG,UF];exact .c (.OX hid)
    ·exact af
   ·split
    ·rename_i i hi;refine av ?_;intro own g w a m hle hm hr;rw[ho]at hr;simp only[Op.operands,Nr,Oj]at hr;obtain⟨h1,h2⟩:=M5 hr;obtain⟨b,q,fn,hb,e1,hc,hr⟩:=rO h1;obtain⟨kd,e2,h3,h4⟩:=lit hi a;refine⟨_,run e1 e2 h3 h4,?_⟩;rw[TG,UF];exact .c (.pt _ _ b q fn hb hc hr)
    ·exact af
   ·exact af
 ·exact af
theorem z9{x:Operand}{i:Nat}(ho:o.op = .extract x i):Rule P o vals mm c K (match vals with | [.Pt ds]=>(match ds[i]? with | some d=>K { val:=d } | none=>none) | _=>none):=by
 split
 ·split
  ·rename_i ds _ d hd;refine av ?_;intro own g w a m hle hm hr;rw[ho]at hr;obtain⟨vs,e,hl,hr⟩:=Cz (Ny hr)
   have hlt:i<vs.length:=by rw[hl];exact(Lb.1 hd).1
   exact⟨vs[i],by simp[execOp,ho,e,Instr.extract,hlt],hr i d _ hd (La hlt)⟩
  ·exact af
 ·exact af
theorem ze{x:Operand}(ho:o.op = .nilCheck x):Rule P o vals mm c K (uo vals K):=by
 unfold uo;split
 ·refine av ?_;intro own g w a m hle hm hr;rw[ho]at hr;have h1:=Ny hr;obtain⟨b,c',hid,e1⟩:=ci h1
  exact⟨a.eval x,by simp[execOp,ho,e1],h1⟩
 ·refine av ?_;intro own g w a m hle hm hr;rw[ho]at hr;have h1:=Ny hr;obtain⟨b,c',hid,e1⟩:=jz h1
  exact⟨a.eval x,by simp[execOp,ho,e1],h1⟩
 ·refine av ?_;intro own g w a m hle hm hr;rw[ho]at hr;have h1:=Ny hr;obtain⟨b,q,fn,hb,e1,_⟩:=rO h1
  exact⟨a.eval x,by simp[execOp,ho,e1],h1⟩
 ·exact af
theorem Eo{fn:Fn}{first captured:Array Operand}(ho:o.op = .makeFunc fn first captured):Rule P o vals mm c K (zF vals K fn first.size captured.size):=by
 unfold zF
 have ev:∀(a:Act)(w:World),(execOp a.eval o).run P w = .ok (.value (.func fn (first.map a.eval) (captured.map a.eval))) w:=by intro a w;simp only[execOp,ho,Instr.makeFunc,OB,PL,OO]
 refine aA (λhz=>?_) (λ_=>?_)
 ·simp only[Ng,decide_eq_true_eq]at hz
  have h1:first = #[]:=QfN hz.1
  have h2:captured = #[]:=QfN hz.2;subst h1 h2;refine av ?_;intro own g w a m hle hm hr
  exact⟨.func fn #[] #[],by simpa using ev a w,.c (.im (.v _ rfl))⟩
 ·refine av ?_;intro own g w a m hle hm hr;rw[ho]at hr;simp only[Op.operands,QeK,Uo]at hr;obtain⟨hl,hr⟩:=hr;simp only[Lc,PI]at hl
  have e1:first.map a.eval=⟨first.toList.map a.eval⟩:=by apply Array.ext';simp
  have e2:captured.map a.eval=⟨captured.toList.map a.eval⟩:=by apply Array.ext';simp
  refine⟨_,ev a w,?_⟩;rw[e1,e2]
  have hfl:first.toList.length=first.size:=by simp
  have hcl:captured.toList.length=captured.size:=by simp
  refine .RZ (by simp;omega) (by simp;omega) ?_ ?_
  ·intro k d x h1 h2;rw[RF]at h1;split at h1
   ·exact hr k d x h1 (by rw[Ru (by simp;omega)];exact h2)
   ·cases h1
  ·intro k d x h1 h2;rw[Tc]at h1;refine hr _ d x h1 ?_
   rw[RD (by simp)]
   simpa using h2
theorem Dg(hT:Mf P T){t:TypeId}{x ix:Operand}(ho:o.op = .index t x ix):Rule P o vals mm c K (Ay T vals K t):=by
 unfold Ay;split
 ·rename_i l k n ht;refine aE λch hch=>av ?_;intro own g w a m hle hm hr;rw[ho]at hr;simp only[Op.operands,Nr,Oj]at hr;obtain⟨h1,h2⟩:=M5 hr;obtain⟨h3,h4⟩:=Ff hch;have hlt:n.toNat<l.length:=(Lb.1 h4).1;have hs:(⟨⟨l⟩⟩:ByteArray).size=l.length:=rfl
  have hg:(⟨⟨l⟩⟩:ByteArray)[n.toNat]? = some ch:=by
   rw[getElem?_pos (⟨⟨l⟩⟩:ByteArray) n.toNat (by rw[hs];exact hlt)]
   congr 1
   exact(Lb.1 h4).2
  exact⟨.int .u8 ch.toNat,by simp only[execOp,ho,u4 h1,cJ h2,OB,Instr.index,asIntOf,PL,OO,run_underlying (hT.und _ _ ht),h3,if_true,hg],OC _ _⟩
 ·exact af
theorem Gi(hT:Mf P T){t:TypeId}{x:Operand}(ho:o.op = .call { callee:=.builtin .len,args:=#[x],argTypes:=#[t] }):Rule P o vals mm c K (ada T vals mm K t):=by
 have key:∀{a:Act}{w:World}(n:Int),(Builtin.len_ #[t] o.type #[a.eval x]).run P w = .ok (.int .i64 n) w→(execOp a.eval o).run P w = .ok (.value (.int .i64 n)) w:=by intro a w n e;simp only[execOp,ho,resolve,invoke,builtin,OB,PL,OO,QgC,Nr,Oj,e]
 have one:∀{a:Act}{d:Dat F}{g:G}{w:World},MG P g w [d] (o.op.operands.toList.map a.eval)→Me P g w d (a.eval x):=by intro a d g w hr;rw[ho]at hr;exact Ny hr
 unfold ada;split
 ·rename_i ht;refine av ?_;intro own g w a m hle hm hr
  exact⟨_,key _ (by simp[Builtin.len_,run_underlying (hT.und _ _ ht),u4 (one hr),goInt];rfl),OC _ _⟩
 ·rename_i ht;refine av ?_;intro own g w a m hle hm hr;refine⟨_,key _ ?_,OC _ _⟩;rcases tZ (tz (one hr))with⟨rfl,p,e⟩ | ⟨b,q,cap,fn,_,_,_,e,_⟩
  ·simp[Builtin.len_,run_underlying (hT.und _ _ ht),e,goInt]
  ·simp[Builtin.len_,run_underlying (hT.und _ _ ht),e,goInt]
 ·rename_i ht;refine av ?_;intro own g w a m hle hm hr;obtain⟨p,e⟩:=p7 (one hr)
  exact⟨_,key _ (by simp[Builtin.len_,run_underlying (hT.und _ _ ht),e,goInt]),OC _ _⟩
 ·rename_i id ht;split
  ·rename_i t' l hrow;refine av ?_;intro own g w a m hle hm hr;refine⟨_,key _ ?_,OC _ _⟩;rcases bE (bj (one hr))with⟨hid,p,e⟩ | ⟨b,c',len,hid,h5,h6,e⟩
   ·rcases hm.ok id _ (hle _ _ hrow)with⟨_,rfl⟩ | ⟨_,_,_,_,k1,_⟩
    ·simp[Builtin.len_,run_underlying (hT.und _ _ ht),e,goInt]
    ·rw[hid]at k1;cases k1
   ·obtain⟨rfl,_,_⟩:=dj hm (hle _ _ hrow) hid;simp[Builtin.len_,run_underlying (hT.und _ _ ht),e,goInt]
  ·rename_i t' l hrow;refine av ?_;intro own g w a m hle hm hr;refine⟨_,key _ ?_,OC _ _⟩;rcases bE (bj (one hr))with⟨hid,p,e⟩ | ⟨b,c',len,hid,h5,h6,e⟩
   ·rcases hm.ok id _ (hle _ _ hrow)with⟨_,rfl⟩ | ⟨_,_,_,k1,_⟩
    ·simp[Builtin.len_,run_underlying (hT.und _ _ ht),e,goInt]
    ·rw[hid]at k1;cases k1
   ·obtain⟨_,rfl,_⟩:=pT hm (hle _ _ hrow) hid;simp[Builtin.len_,run_underlying (hT.und _ _ ht),e,goInt]
  ·rename_i t' l hrow;refine av ?_;intro own g w a m hle hm hr;refine⟨_,key _ ?_,OC _ _⟩;rcases bE (bj (one hr))with⟨hid,p,e⟩ | ⟨b,c',len,hid,h5,h6,e⟩
   ·obtain⟨pl,k1,k2⟩:=hm.ok id _ (hle _ _ hrow);rw[hid]at k1;cases k1;have k2:l = []:=k2;subst k2;simp[Builtin.len_,run_underlying (hT.und _ _ ht),e,goInt]
   ·obtain⟨k1,_⟩:=ky hm (hle _ _ hrow) hid;simp[Builtin.len_,run_underlying (hT.und _ _ ht),e,goInt,k1]
  ·rename_i t' l _ _ hrow;refine av ?_;intro own g w a m hle hm hr;refine⟨_,key _ ?_,OC _ _⟩;rcases bE (bj (one hr))with⟨hid,p,e⟩ | ⟨b,c',len,hid,h5,h6,e⟩
   ·obtain⟨pl,k1,k2⟩:=hm.ok id _ (hle _ _ hrow);rw[hid]at k1;cases k1;have k2:l = []:=k2;subst k2;simp[Builtin.len_,run_underlying (hT.und _ _ ht),e,goInt]
   ·obtain⟨pl,k1,k2⟩:=hm.ok id _ (hle _ _ hrow);rw[hid]at k1;cases k1;have k1:=k2.1;simp[Builtin.len_,run_underlying (hT.und _ _ ht),e,goInt,k1]
  ·rename_i t' l _ hrow;refine av ?_;intro own g w a m hle hm hr;refine⟨_,key _ ?_,OC _ _⟩;rcases bE (bj (one hr))with⟨hid,p,e⟩ | ⟨b,c',len,hid,h5,h6,e⟩
   ·obtain⟨pl,k1,k2⟩:=hm.ok id _ (hle _ _ hrow);rw[hid]at k1;cases k1;have k2:l = []:=k2;subst k2;simp[Builtin.len_,run_underlying (hT.und _ _ ht),e,goInt]
   ·obtain⟨pl,k1,k2⟩:=hm.ok id _ (hle _ _ hrow);rw[hid]at k1;cases k1;have k1:=k2.1;simp[Builtin.len_,run_underlying (hT.und _ _ ht),e,goInt,k1]
  ·exact af
 ·rename_i ht;refine av ?_;intro own g w a m hle hm hr;refine⟨_,key _ ?_,OC _ _⟩;rcases pG (bj (one hr))with⟨_,_,rfl,p,e⟩ | ⟨b,c',len,q,_,_,_,_,_,e⟩
  ·simp[Builtin.len_,run_underlying (hT.und _ _ ht),e,goInt]
  ·simp[Builtin.len_,run_underlying (hT.und _ _ ht),e,goInt]
 ·rename_i ht;refine av ?_;intro own g w a m hle hm hr;obtain⟨b,c',_,_,e⟩:=xB (one hr)
  exact⟨_,key _ (by simp[Builtin.len_,run_underlying (hT.und _ _ ht),e,goInt]),OC _ _⟩
 ·rename_i ht;refine av ?_;intro own g w a m hle hm hr
  exact⟨_,key _ (by simp[Builtin.len_,run_underlying (hT.und _ _ ht),goInt]),OC _ _⟩
 ·rename_i id ht;split
  ·rename_i t' l hrow;refine av ?_;intro own g w a m hle hm hr;refine⟨_,key _ ?_,OC _ _⟩;obtain⟨b,h1,es,h2,h3,h4⟩:=hm.ok id _ (hle _ _ hrow)
   obtain⟨b',c',h5,e⟩:∃b c,g.ids id=some (some (b,c))∧a.eval x = .map (some b):=by
    have h0:=bj (one hr);revert h0;generalize a.eval x=v;intro h0
    cases h0 with | Sz h=>exact⟨_,_,h,rfl⟩
   rw[h1]at h5;cases h5;simp[Builtin.len_,run_underlying (hT.und _ _ ht),e,goInt,MapKept.run_getObj_map h2,h3]
  ·exact af
 ·exact af
theorem ym:∀(l:List Int)(a:List UInt8),l.foldl (λr n=>r.push (UInt8.ofNat n.toNat)) (⟨⟨a⟩⟩:ByteArray)=⟨⟨a++l.map toB⟩⟩
 | [],a=>by simp
 | n::l,a=>by
  have h:(⟨⟨a⟩⟩:ByteArray).push (UInt8.ofNat n.toNat)=⟨⟨a++[toB n]⟩⟩:=by simp[ByteArray.push,toB]
  rw[TN,h,ym l];simp
theorem yn{b q cap:Nat}{l:List Int}(hc:∀k,(h:k<l.length)→w.cell? ⟨b,q+k,none⟩=some (.int .u8 l[k])) :
  (Conv.bytesToString (.slice (some ⟨b,q,none⟩) l.length cap)).run P w = .ok (.string ⟨⟨l.map toB⟩⟩) w:=by
 have hrun:=run_loadCells (P:=P) w ⟨b,q,none⟩ l.length (λj=>.int .u8 (l.getD j 0)) (by intro j hj;rw[Addr.add_lit,hc j hj];simp[hj])
 have hl:(List.range l.length).map (λj=>Value.int .u8 (l.getD j 0))=l.map (Value.int .u8):=by
  apply List.ext_getElem
  ·simp
  ·intro i h1 h2;simp at h1;simp[h1]
 rw[hl]at hrun;rw[run_bytesToString w ⟨b,q,none⟩ l.length cap l hrun];have e0:ByteArray.empty=(⟨⟨[]⟩⟩:ByteArray):=rfl;rw[e0,ym];simp
theorem Eh(hT:Mf P T){s d:TypeId}{x:Operand}(ho:o.op = .convert s d x):Rule P o vals mm c K (Zj T vals mm K s d):=by
 have key:∀{e:TypeId}{a:Act}{w:World}{p:Option Addr} {n cap:Nat} {v:Value},P.underlying s=some (.slice e)→P.underlying e=some (.int .u8)→P.underlying d=some .string→a.eval x = .slice p n cap→
   (Conv.bytesToString (.slice p n cap)).run P w = .ok v w→(execOp a.eval o).run P w = .ok (.value v) w:=by
  intro e a w p n cap v h1 h2 h3 h4 h5;simp only[execOp,ho,h4,OB,run_convert_bytes_string w s d e p n cap h1 h2 h3,h5,OO,PL]
 have nil:∀{w:World}{p:Option Addr}{cap:Nat},(Conv.bytesToString (.slice p 0 cap)).run P w = .ok (.string ⟨⟨[]⟩⟩) w:=by
  intro w p cap
  cases p<;>simp[Conv.bytesToString,loadCells,loadCellsFrom,PL,OB]<;>rfl
 unfold Zj;split
 ·rename_i hs hd;refine av ?_;intro own g w a m _ _ hr;rw[ho]at hr;have e:=cJ (Ny hr)
  exact⟨_,by simp[execOp,ho,e,convert,run_underlying (hT.und _ _ hs),run_underlying (hT.und _ _ hd),Conv.intToInt],OC _ _⟩
 ·rename_i hs hd;refine av ?_;intro own g w a m _ _ hr;rw[ho]at hr;have e:=u4 (Ny hr)
  exact⟨_,by simp[execOp,ho,e,convert,run_underlying (hT.und _ _ hs),run_underlying (hT.und _ _ hd)],WM _⟩
 ·rename_i id hs hd;split
  ·rename_i he;split
   ·rename_i l hrow;refine av ?_;intro own g w a m hle hm hr;rw[ho]at hr;have hr:=bj (Ny hr);rcases bE hr with⟨hid,p,e⟩ | ⟨b,c',len,hid,h5,h6,e⟩
    ·rcases hm.ok id _ (hle _ _ hrow)with⟨_,rfl⟩ | ⟨_,_,_,_,k1,_⟩
     ·exact⟨_,key (hT.und _ _ hs) (hT.und _ _ he) (hT.und _ _ hd) e nil,WM _⟩
     ·rw[hid]at k1;cases k1
    ·obtain⟨rfl,_,hcell⟩:=dj hm (hle _ _ hrow) hid;refine⟨_,key (hT.und _ _ hs) (hT.und _ _ he) (hT.und _ _ hd) e (yn λk hk=>?_),WM _⟩;have h1:(cells F (.int .u8) l)[k*LV F (.int .u8)+0]? = some (.i .u8 l[k]):=a_ (La hk) rfl
     have h1:(cells F (.int .u8) l)[k]? = some (.i .u8 l[k]):=by simpa[LV]using h1
     obtain⟨x,hx,hrep⟩:=hcell k _ h1;cases hrep;rw[OY];exact hx
   ·exact af
  ·exact af
 ·rename_i l hs hd;split
  ·rename_i he;refine av ?_;intro own g w a m hle hm hr;rw[ho]at hr;rcases tZ (tz (Ny hr))with⟨rfl,p,e⟩ | ⟨b,q,cap,f,_,_,_,e,hcell,hrep⟩
   ·exact⟨_,key (hT.und _ _ hs) (hT.und _ _ he) (hT.und _ _ hd) e nil,WM _⟩
   ·refine⟨_,key (hT.und _ _ hs) (hT.und _ _ he) (hT.und _ _ hd) e (yn λk hk=>?_),WM _⟩;have h1:(cells F (.int .u8) l)[k*LV F (.int .u8)+0]? = some (.i .u8 l[k]):=a_ (La hk) rfl
    have h1:(cells F (.int .u8) l)[k]? = some (.i .u8 l[k]):=by simpa[LV]using h1
    rw[hcell k _ h1];have hk2:=hrep k _ h1;generalize f k=v at hk2;cases hk2;rfl
  ·exact af
 ·exact af
end
set_option linter.unusedVariables false
set_option linter.unusedSimpArgs false
section
variable{F:Fam}{P:Program}{T:TypeId→Option (TI F)}{o:Oper}{vals:List (Dat F)}{mm:Nat→Option (Mi F)}{c:Nat}{R:Type}{K:SX F→Option R}{own:Ow}{g:G}{w:World}{m:Nat→Option (Mi F)}
theorem Aa(fn:Int→Int→Int)(step:Value→Value→Sem Value)(hs:∀(k:IntKind)(x y:Int)(w:World),(step (.int k x) (.int k y)).run P w = .ok (.int k (fn x y)) w) :
  ∀(l:List (Dat F)) (vs:List Value) (k:IntKind) (n r:Int),rW fn k n l=some r→vs.length=l.length→(∀(j:Nat)(d:Dat F)(x:Value),l[j]? = some d→vs[j]? = some x→Me P g w d x)→
   (vs.foldlM step (.int k n)).run P w = .ok (.int k r) w:=by
 intro l
 induction l with
 | nil=>
  intro vs k n r h hl _
  have:vs = []:=TQ (by simpa using hl)
  subst this;simp only[rW,NI]at h;subst h;simp
 | cons d l ih=>
  intro vs k n r h hl hr;unfold rW at h;split at h
  ·rename_i heq;cases heq
  ·rename_i k' m' l' heq;simp only[QgL]at heq;obtain⟨rfl,rfl⟩:=heq;split at h
   ·rename_i hk;subst hk
    match vs,hl with
    | v::vs,hl=>
     have hv:=cJ (hr 0 _ v rfl rfl);subst hv;simp only[List.foldlM_cons,OB,hs,OO]
     exact ih vs k (fn n m') r h (by simpa using hl) (λj d x h1 h2=>hr (j+1) d x (by simpa using h1) (by simpa using h2))
   ·cases h
  ·cases h
theorem yo{mx:Bool}{args:Array Operand}{ats:Array TypeId}(ho:o.op = .call { callee:=.builtin (if mx then .max else .min),args,argTypes:=ats }) :
  Rule P o vals mm c K (Xi vals K (if mx then imax else Nh)):=by
 unfold Xi;split
 ·rename_i k n0 l;split
  ·rename_i n hn;refine av ?_;intro own g w a m hle hm hr;rw[ho]at hr
   have hargs:(Op.call { callee:=.builtin (if mx then .max else .min),args,argTypes:=ats }).operands.toList.map a.eval=(args.map a.eval).toList:=by simp[Op.operands,Call.operands]
   rw[hargs]at hr
   cases hvs:(args.map a.eval).toList with
   | nil=>rw[hvs]at hr;have:=hr.1;simp at this
   | cons v vs=>
    rw[hvs,aX]at hr;have hv:=cJ hr.1;subst hv;obtain⟨hl,hr'⟩:=hr.2;refine⟨.int k n,?_,OC _ _⟩
    cases mx with
    | true=>
     have:=Aa (P:=P) (g:=g) (w:=w) imax Builtin.max2 (λk x y w=>by simp[Builtin.max2,imax]) l vs k n0 n hn hl hr'
     simp only[execOp,ho,resolve,invoke,builtin,OB,PL,OO,if_true,Builtin.max_,hvs,this]
    | false=>
     have:=Aa (P:=P) (g:=g) (w:=w) Nh Builtin.min2 (λk x y w=>by simp[Builtin.min2,Nh]) l vs k n0 n hn hl hr'
     simp only[execOp,ho,resolve,invoke,builtin,OB,PL,OO,R3,if_false,Builtin.min_,hvs,this]
  ·exact af
 ·exact af
theorem oX(isSlice:Bool)(len cap:Nat)(lo hi:Option Value)(x y:Int)(hlo:(lo=none∧x=0)∨∃k,lo=some (.int k x))(hhi:(hi=none∧y=len)∨∃k,hi=some (.int k y))
  (h0:0≤x) (hxy:x≤y) (hy:y≤cap):(Instr.sliceBounds isSlice len cap lo hi none).run P w = .ok (x.toNat,y.toNat,cap) w:=by
 have hb:∀(k:IntKind)(n:Int)(c:Nat)(code:BoundsCode),0≤n→n≤c→(Instr.sliceBound (.int k n) c code).run P w = .ok n.toNat w:=by intro k n c code h1 h2;simp[Instr.sliceBound,asIntOf,h1,h2]
 have hyn:(y.toNat:Int)=y:=QgI (by omega)
 rcases hlo with⟨rfl,rfl⟩ | ⟨k,rfl⟩<;>rcases hhi with⟨rfl,rfl⟩ | ⟨k',rfl⟩
 ·simp[Instr.sliceBounds]
 ·simp[Instr.sliceBounds,hb k' y cap _ (by omega) hy]
 ·simp only[Instr.sliceBounds,OB,PL,OO];rw[hb k x len _ h0 hxy];simp
 ·simp only[Instr.sliceBounds,OB,PL,OO]
  rw[hb k' y cap _ (by omega) hy]
  simp only[OO]
  rw[hb k x y.toNat _ h0 (by rw[hyn];exact hxy)]
  simp
theorem Df(l:List UInt8)(i j:Nat):(⟨⟨l⟩⟩:ByteArray).extract i j=⟨⟨(l.take j).drop i⟩⟩:=by apply ByteArray.ext;apply Array.ext';simp[List.extract_eq_take_drop,List.drop_take]
theorem Cf{α : Type}{l r:List α}{a b:Int}(h:slc l a b=some r):r=sub l a.toNat (b.toNat - a.toNat):=by obtain⟨_,_,_,rfl⟩:=wt h;simp[sub,List.drop_take]
theorem wR{t:Ty}{l:List (ET F t)}{v:Value}(hv:Md w g.Lj (.sl t l) v){p q:Nat}(hpq:p≤q)(hq:q≤l.length) :
  ∃ptr cap,v = .slice ptr l.length cap∧q≤cap∧Md w g.Lj (.sl t (sub l p (q - p))) (.slice (if cap=p then ptr else ptr.map (·.add (p*LV F t))) (q - p) (cap - p)):=by
 rcases tZ hv with⟨rfl,ptr,rfl⟩ | ⟨b,o,cap,f,hb,hcap,hmx,rfl,hc,hr⟩
 ·refine⟨ptr,0,rfl,by simpa using hq,?_⟩
  simp only[Xb]at hq
  have h1:p=0:=by omega
  have h2:q=0:=by omega
  subst h1 h2;simp only[sub,List.drop_nil,List.take_nil,Nat.sub_self,if_true];exact .sl0 t ptr
 ·refine⟨_,cap,rfl,by omega,?_⟩
  have hlen:(sub l p (q - p)).length=q - p:=by simp only[sub,Ox,Rn];omega
  have mk:∀(b' o':Nat)(f':Nat→Value),g.Lj b'→(∀k d,(cells F t (sub l p (q - p)))[k]? = some d→w.cell? ⟨b',o'+k,none⟩=some (f' k))→(∀k d,(cells F t (sub l p (q - p)))[k]? = some d→Md w g.Lj d (f' k))→
    Md w g.Lj (.sl t (sub l p (q - p))) (.slice (some ⟨b',o',none⟩) (q - p) (cap - p)):=by
   intro b' o' f' h1 h2 h3
   have:=Md.sl (F:=F) (w:=w) (Lj:=g.Lj) t (sub l p (q - p)) b' o' (cap - p) f' h1 (by omega) (by omega) h2 h3
   rwa [hlen]at this
  split
  ·refine mk b o f hb ?_ ?_
   all_goals
    intro k d hk
    have h0:q - p=0:=by omega
    rw[h0]at hk;simp[sub,cells]at hk
  ·simp only[Ya,Addr.add_lit];refine mk b (o+p*LV F t) (λk=>f (p*LV F t+k)) hb ?_ ?_
   ·intro k d hk;rw[UF];exact hc _ d (mi hk)
   ·intro k d hk;exact hr _ d (mi hk)
theorem Dq(hT:Mf P T){t:TypeId}{x:Operand}{lo hi:Option Operand}(ho:o.op = .slice t x lo hi none) :
  Rule P o vals mm c K (Bq T vals mm K t (ob lo 1) (ob hi (Xu lo))):=by
 have hops:∀a:Act,o.op.operands.toList.map a.eval=a.eval x::((lo.map a.eval).toList++(hi.map a.eval).toList):=by
  intro a;rw[ho]
  cases lo<;>cases hi<;>simp[Op.operands]
 have hlo:∀{dflt n:Int}{a:Act}{g:G}{w:World},MG P g w vals (o.op.operands.toList.map a.eval)→bound vals (ob lo 1) dflt=some n→(lo.map a.eval=none∧n=dflt)∨∃k,lo.map a.eval=some (.int k n):=by
  intro dflt n a g w hr hh;rw[hops]at hr
  cases lo with
  | none=>simp only[ob,bound,NI]at hh;exact .inl ⟨rfl,hh.symm⟩
  | some l=>
   simp only[ob,bound]at hh;split at hh
   ·rename_i k n' hq;cases hh
    have:=hr.2 1 _ (a.eval l) hq (by simp)
    exact .inr ⟨k,by rw[Ya,cJ this]⟩
   ·cases hh
 have hhi:∀{dflt n:Int}{a:Act}{g:G}{w:World},MG P g w vals (o.op.operands.toList.map a.eval)→bound vals (ob hi (Xu lo)) dflt=some n→(hi.map a.eval=none∧n=dflt)∨∃k,hi.map a.eval=some (.int k n):=by
  intro dflt n a g w hr hh;rw[hops]at hr
  cases hi with
  | none=>simp only[ob,bound,NI]at hh;exact .inl ⟨rfl,hh.symm⟩
  | some l=>
   simp only[ob,bound]at hh;split at hh
   ·rename_i k n' hq;cases hh
    have:=hr.2 _ _ (a.eval l) hq (by cases lo<;>simp[Xu])
    exact .inr ⟨k,by rw[Ya,cJ this]⟩
   ·cases hh
 have hx0:∀{d:Dat F}{a:Act}{g:G}{w:World},MG P g w vals (o.op.operands.toList.map a.eval)→vals[0]? = some d→Me P g w d (a.eval x):=by intro d a g w hr hd;rw[hops]at hr;exact hr.2 0 d _ hd rfl
 have run:∀{w:World}{a:Act}{e:TypeId}{i te:TI F} {ptr:Option Addr} {len cap:Nat} {p q:Int},T t=some i→i.desc = .slice e→T e=some te→a.eval x = .slice ptr len cap→
   ((lo.map a.eval=none∧p=0)∨∃k,lo.map a.eval=some (.int k p))→((hi.map a.eval=none∧q=len)∨∃k,hi.map a.eval=some (.int k q))→0≤p→p≤q→q≤cap→
   (execOp a.eval o).run P w = .ok (.value (.slice (if cap=p.toNat then ptr else ptr.map (·.add (p.toNat*te.size))) (q.toNat - p.toNat) (cap - p.toNat))) w:=by
  intro w a e i te ptr len cap p q hi' hd hte e1 h1 h2 h3 h4 h5;have hu:=hT.und _ _ hi';rw[hd]at hu;have hr:=oX (P:=P) (w:=w) true len cap (lo.map a.eval) (hi.map a.eval) p q h1 h2 h3 h4 h5;simp only[execOp,ho,Instr.sliceAt,Instr.slice,OB,run_underlying hu,OO,e1,Option.map_none];rw[hr];simp only[OO,cv hT hte,PL]
 unfold Bq;split
 ·rename_i l ht h0;split
  ·rename_i p q hp hq;refine aE λr hr=>av ?_;intro own g w a m hle hm hrep;obtain⟨c1,c2,c3,rfl⟩:=wt hr;have hs:(⟨⟨l⟩⟩:ByteArray).size=l.length:=rfl;have hb:=oX (P:=P) (w:=w) false l.length l.length (lo.map a.eval) (hi.map a.eval) p q (hlo hrep hp) (hhi hrep hq) c1 c2 c3;refine⟨_,?_,WM _⟩;simp only[execOp,ho,Instr.sliceAt,Instr.slice,OB,run_underlying (hT.und _ _ ht),OO,u4 (hx0 hrep h0),Option.map_none,Option.isSome_none,R3,if_false,hs,PL];rw[hb];simp only[OO,Df]
  ·exact af
 ·rename_i e _ _ _ _ _ y ht h0;split
  ·exact af
  ·rename_i te hte;split
   ·rename_i t' l;refine aA (λhsz=>?_) (λ_=>af);split
    ·rename_i p q hp hq;refine aE λr hr=>av ?_;intro own g w a m hle hm hrep;obtain⟨c1,c2,c3,_⟩:=wt hr;rw[Cf hr]
     obtain⟨ptr,cap,ev,h5,h6⟩:=wR (tz (hx0 hrep h0)) (p:=p.toNat) (q:=q.toNat) (by omega) (by omega)
     rw[hsz]at h6
     exact⟨_,run ht rfl hte ev (hlo hrep hp) (hhi hrep hq) c1 c2 (by omega),.c (.im h6)⟩
    ·exact af
   ·rename_i id;split
    ·rename_i t' l hrow;refine aA (λhsz=>?_) (λ_=>af);split
     ·rename_i p q hp hq;refine aE λpr hr=>av ?_;intro own g w a m hle hm hrep;obtain⟨c1,c2,c3,rfl⟩:=D6 hr;rcases bE (bj (hx0 hrep h0))with⟨hid,ptr,ev⟩ | ⟨b,c',len,hid,h5,h6,ev⟩
      ·rcases hm.ok id _ (hle _ _ hrow)with⟨_,rfl⟩ | ⟨_,_,_,_,k1,_⟩
       ·simp only[Xb]at c3 hq
        have hp0:p=0:=by omega
        have hq0:q=0:=by omega
        have hr:=run (w:=w) ht rfl hte ev (hlo hrep hp) (hhi hrep hq) c1 c2 (by omega)
        subst hp0 hq0
        exact⟨_,hr,by simpa using .c (.Tx ptr hid)⟩
       ·rw[hid]at k1;cases k1
      ·obtain⟨rfl,h7,_⟩:=dj hm (hle _ _ hrow) hid
       have hr:=run (w:=w) ht rfl hte ev (hlo hrep hp) (hhi hrep hq) c1 c2 (by omega)
       refine⟨_,hr,.c ?_⟩;by_cases hpc:c'=p.toNat
       ·rw[if_pos hpc]
        refine .Rz hid (by omega) h7 ?_ h6
        by_cases h0:c'=0
        ·right;rw[← hpc,h0];simp
        ·left;omega
       ·rw[if_neg hpc,Ya,Addr.add_lit,OY]
        exact .Rz hid (by omega) h7 (.inr rfl) h6
     ·exact af
    ·rename_i t' l hrow;refine aA (λhsz=>?_) (λ_=>af);split
     ·rename_i p q hp hq;refine aE λr hr=>av ?_;intro own g w a m hle hm hrep;obtain⟨c1,c2,c3,_⟩:=wt hr;rw[Cf hr]
      obtain⟨ptr,cap,ev,h5,h6⟩:=wR (rz hm (hle _ _ hrow) (bj (hx0 hrep h0))) (p:=p.toNat) (q:=q.toNat) (by omega) (by omega)
      rw[hsz]at h6
      exact⟨_,run ht rfl hte ev (hlo hrep hp) (hhi hrep hq) c1 c2 (by omega),.c (.im h6)⟩
     ·exact af
    ·exact af
   ·exact af
 ·exact af
theorem Fq{v:Value}(h:v.oneCell'=true):v.cells = #[v]:=by
 cases v<;>first | rfl | simp[Value.oneCell']at h
theorem m7{d:Dat F}{v:Value}(h:Me P g w d v)(hn:d.cells.all MK.RP=true)(hne:0<d.cells.length) :
  v.cells.toList.length=d.cells.length∧(∀(k:Nat)(c:MK F)(x:Value),d.cells[k]? = some c→v.cells.toList[k]? = some x→Mj g w c x)∧∀x∈v.cells.toList,x.oneCell'=true:=by
 cases d with
 | c x=>
  cases h with
  | c h=>
   have hx:x≠.any:=by rintro rfl;simp[Dat.cells,MK.RP]at hn
   have h1:=h.oneCell hx;rw[Fq h1]
   refine⟨rfl,?_,by simpa using h1⟩
   intro k c y h2 h3
   cases k with
   | zero=>simp only[Dat.cells,Rh,NI]at h2 h3;subst h2 h3;exact h
   | succ k=>simp[Dat.cells]at h2
 | agg cs=>
  obtain⟨vs,rfl,hl,hr⟩:=pw h
  refine⟨by simpa[Value.cells,Dat.cells]using hl,by simpa[Value.cells,Dat.cells]using hr,?_⟩
  intro x hx;simp only[Value.cells]at hx;obtain⟨k,hk⟩:=Ye hx
  have hlt:k<cs.length:=by rw[← hl];exact(Lb.1 hk).1
  have hc:=hr k _ x (La hlt) hk;refine hc.oneCell ?_;intro e
  have:=Tg.1 hn cs[k] (by simp[Dat.cells])
  rw[e]at this;simp[MK.RP]at this
 | Pt ds=>simp[Dat.cells]at hne
 | RZ fn fs cs=>simp[Dat.cells]at hne
 | gh id=>simp[Dat.cells]at hne
 | fv ks r φ=>simp[Dat.cells]at hne
theorem zZ(off:Nat):∀(l:List Value)(i:Nat)(arr:List Value),off+i+l.length≤arr.length→
  (l.zipIdx i).foldl (λ(cs:Array Value)(p:Value×Nat)=>cs.setIfInBounds (off+p.2) p.1) ⟨arr⟩=⟨arr.take (off+i)++l++arr.drop (off+i+l.length)⟩
 | [],i,arr,_=>by simp
 | v::l,i,arr,h=>by
  simp only[List.zipIdx_cons,TN]
  have e:(⟨arr⟩:Array Value).setIfInBounds (off+i) v=⟨arr.set (off+i) v⟩:=by apply Array.ext';simp
  rw[e,zZ off l (i+1) (arr.set (off+i) v) (by simp at h ⊢;omega)]
  congr 1
  have e2:=list_seg_step arr (off+i) v l (by simp at h;omega)
  simpa[UF]using e2
theorem Ft(off:Nat)(v:Value)(arr:List Value)(h:off+v.cells.size≤arr.length) :
  v.cells.zipIdx.foldl (λ(cs:Array Value)(p:Value×Nat)=>cs.setIfInBounds (off+p.2) p.1) ⟨arr⟩=⟨arr.take off++v.cells.toList++arr.drop (off+v.cells.size)⟩:=by
 have:=zZ off v.cells.toList 0 arr (by simpa using h)
 rw[← Array.foldl_toList];simpa using this
theorem Cm{cs ds:List (MK F)}{xs ys:List Value}{off:Nat}(hl:xs.length=cs.length)(hr:∀(k:Nat)(c:MK F)(x:Value),cs[k]? = some c→xs[k]? = some x→Mj g w c x)
  (kl:ys.length=ds.length) (kr:∀(k:Nat)(c:MK F)(x:Value),ds[k]? = some c→ys[k]? = some x→Mj g w c x) :
  (xs.take off++ys++xs.drop (off+ys.length)).length=(cs.take off++ds++cs.drop (off+ds.length)).length∧
  ∀(k:Nat)(c:MK F)(x:Value),(cs.take off++ds++cs.drop (off+ds.length))[k]? = some c→(xs.take off++ys++xs.drop (off+ys.length))[k]? = some x→Mj g w c x:=by
 constructor
 ·simp[hl,kl]
 ·intro k c x h1 h2
  have e1:(xs.take off).length=(cs.take off).length:=by simp[hl]
  rw[PS]at h1 h2;by_cases hk:k<(cs.take off).length
  ·rw[Ru hk]at h1
   rw[Ru (by rw[e1];exact hk)]at h2
   rw[RF]at h1 h2;split at h1
   ·rename_i hk2;rw[if_pos hk2]at h2;exact hr k c x h1 h2
   ·cases h1
  ·rw[RD (by omega)]at h1
   rw[RD (by omega)]at h2
   rw[e1]at h2;by_cases hk2:k - (cs.take off).length<ds.length
   ·rw[Ru hk2]at h1
    rw[Ru (by rw[kl];exact hk2)]at h2
    exact kr _ c x h1 h2
   ·rw[RD (by omega)]at h1
    rw[RD (by omega)]at h2
    rw[Tc]at h1 h2;rw[kl]at h2;exact hr _ c x h1 h2
theorem v7(place:Nat→Option (Nat×Nat)):∀(ps:List (Nat×Dat F)) (vs:List (Nat×Value)) (cs cs':List (MK F)) (arr:List Value),lay place cs ps=some cs'→
  vs.map (·.1)=ps.map (·.1)→(∀(k:Nat)(d:Nat×Dat F)(x:Nat×Value),ps[k]? = some d→vs[k]? = some x→Me P g w d.2 x.2)→
  arr.length=cs.length→(∀(k:Nat)(c:MK F)(x:Value),cs[k]? = some c→arr[k]? = some x→Mj g w c x)→
  ∃arr':List Value,Instr.fill place ⟨arr⟩ vs=some ⟨arr'⟩∧arr'.length=cs'.length∧cs'.length=cs.length∧∀(k:Nat)(c:MK F)(x:Value),cs'[k]? = some c→arr'[k]? = some x→Mj g w c x
 | [],vs,cs,cs',arr,h,hv,_,hl,hr=>by
  have:vs = []:=by simpa using hv
  subst this;simp only[lay,NI]at h;subst h;exact⟨arr,rfl,hl,rfl,hr⟩
 | (i,d)::ps,vs,cs,cs',arr,h,hv,hd,hl,hr=>by
  match vs,hv with
  | (j,v)::vs,hv=>
   simp only[Nr,QgL]at hv;obtain⟨rfl,hv2⟩:=hv;unfold lay at h
   cases hp:place j with
   | none=>rw[hp]at h;cases h
   | some q=>
    obtain⟨off,size⟩:=q;rw[hp]at h;dsimp only at h;split at h
    ·rename_i hc;simp only[Ng,decide_eq_true_eq,R6]at hc;obtain⟨⟨⟨h1,h2⟩,h3⟩,h4⟩:=hc;have h2:=Va h2;have hvd:=hd 0 (j,d) (j,v) rfl rfl
     obtain⟨c1,c2,c3⟩:=m7 (d:=d) (v:=v) hvd h3 (by omega)
     have hsz:v.cells.size=size:=by rw[← WA,c1,h1]
     have hle:off+size≤arr.length:=by omega
     have hseg:=Cm (off:=off) hl hr c1 c2;have e1:v.cells.toList.length=v.cells.size:=WA;rw[h1]at hseg;rw[e1,hsz]at hseg;obtain⟨arr',r1,r2,r3,r4⟩:=v7 place ps vs _ cs' (arr.take off++v.cells.toList++arr.drop (off+size)) h hv2 (λk d x a b=>hd (k+1) d x a b) hseg.1 hseg.2;refine⟨arr',?_,r2,?_,r4⟩
     ·unfold Instr.fill;rw[hp];dsimp only
      rw[if_neg (by simp[hsz];omega)]
      have:=Ft off v arr (by omega)
      rw[hsz]at this;rw[this];exact r1
     ·rw[r3];simp[h1];omega
    ·cases h
theorem sY(hT:Mf P T):∀(fs:List Field)(pl:List (Nat×Nat)),qU T fs=some pl→fs.mapM (λf=>(P.info? f.type).map λi=>(f.offset,i.size))=some pl
 | [],pl,h=>by simp only[qU,NI]at h;subst h;rfl
 | f::fs,pl,h=>by
  simp only[qU]at h;split at h
  ·cases h
  ·rename_i ti hti;split at h
   ·cases h
   ·rename_i r hr;cases h;obtain⟨j,hj,hs,_⟩:=hT.info _ _ hti;simp[List.mapM_cons,hj,hs,sY hT fs r hr]
theorem xn(hT:Mf P T){t:TypeId}{ti:TI F}(ht:T t=some ti):∃(j:TypeInfo)(z:Value),P.info? t=some j∧j.zero=some z∧z.cells.toList.length=(ti.zero.map (MK.im (F:=F))).length∧
  ∀(w:World)(g:G)(k:Nat)(c:MK F) (x:Value),(ti.zero.map MK.im)[k]? = some c→z.cells.toList[k]? = some x→Mj g w c x:=by
 obtain⟨j,hj,hs,hb,z,hz,hzs,hzl,hr⟩:=hT.info t ti ht
 refine⟨j,z,hj,hz,by rw[WA,hzs,PI,hzl],?_⟩
 intro w g k c x h1 h2;obtain⟨d,hd,rfl⟩:=kO h1
 exact .im (hr w g.Lj k d x hd (by simpa using h2))
theorem uA{a:Act}:∀(parts:List (Nat×Operand)) (vals:List (Dat F)),MG P g w vals (parts.map λp=>a.eval p.2)→
  (parts.map λ(i,x)=>(i,a.eval x)).map (·.1)=((parts.map (·.1)).zip vals).map (·.1)∧
  ∀(k:Nat)(d:Nat×Dat F)(x:Nat×Value),((parts.map (·.1)).zip vals)[k]? = some d→(parts.map λ(i,x)=>(i,a.eval x))[k]? = some x→Me P g w d.2 x.2
 | [],vals,h=>by simp
 | p::l,vals,h=>by
  match vals,h with
  | [],h=>have:=h.1;simp at this
  | v::vals,h=>
   simp only[Nr,aX]at h;obtain⟨h1,h2⟩:=uA l vals h.2
   refine⟨by simpa using h1,?_⟩
   intro k d x h3 h4
   cases k with
   | zero=>simp only[Nr,List.zip_cons_cons,Rh,NI]at h3 h4;subst h3 h4;exact h.1
   | succ k=>simp only[Nr,List.zip_cons_cons,QdK]at h3 h4;exact h2 k d x h3 h4
theorem Dy(hT:Mf P T){t:TypeId}{parts:Array (Nat×Operand)}(ho:o.op = .build t parts):Rule P o vals mm c K (zA T vals K t (parts.toList.map (·.1))):=by
 have fin:∀(place:Nat→Option (Nat×Nat)) (ti:TI F) (cs:List (MK F)),T t=some ti→(∀cells vs z j,P.info? t=some j→j.zero=some z→Instr.fill place z.cells vs=some cells→P.built t vs=some cells)→
   lay place (ti.zero.map .im) ((parts.toList.map (·.1)).zip vals)=some cs→U7 P o vals mm (.agg cs):=by
  intro place ti cs hti hb hcs own g w a m hle hm hr;rw[ho]at hr
  have hr':MG P g w vals (parts.toList.map λp=>a.eval p.2):=by
   have:(Op.build t parts).operands.toList.map a.eval=parts.toList.map λp=>a.eval p.2:=by simp[Op.operands,Function.comp_def]
   rwa [this]at hr
  obtain⟨p1,p2⟩:=uA parts.toList vals hr';obtain⟨j,z,hj,hz,hzl,hzr⟩:=xn hT hti;obtain⟨arr,r1,r2,r3,r4⟩:=v7 (P:=P) (g:=g) (w:=w) place _ (parts.toList.map λ(i,x)=>(i,a.eval x)) _ cs z.cells.toList hcs p1 p2 hzl (hzr w g)
  have hbt:=hb ⟨arr⟩ (parts.map λ(i,x)=>(i,a.eval x)).toList z j hj hz (by simpa using r1)
  refine⟨.agg ⟨arr⟩,?_,.agg r2 r4⟩;simp only[execOp,ho,OB,run_build w t _ _ hbt,OO,PL]
 unfold zA;split
 ·rename_i fs sz bt zero _ _ ht;split
  ·exact af
  ·rename_i pl hpl;split
   ·exact af
   ·rename_i cs hcs;refine av (fin _ _ cs ht ?_ hcs);intro cells vs z j hj hz hf;have hu:=hT.und _ _ ht;simp only[Program.built,hj,hu,hz,sY hT _ _ hpl];simpa using hf
 ·rename_i n e' sz bt zero _ _ ht;split
  ·exact af
  ·rename_i te hte;split
   ·exact af
   ·rename_i cs hcs;refine av (fin _ _ cs ht ?_ hcs);intro cells vs z j hj hz hf;have hu:=hT.und _ _ ht;obtain⟨j',hj',hs',_⟩:=hT.info _ _ hte;simp only[Program.built,hj,hu,hz,hj',hs'];exact hf
 ·exact af
end
end Go.Fx
