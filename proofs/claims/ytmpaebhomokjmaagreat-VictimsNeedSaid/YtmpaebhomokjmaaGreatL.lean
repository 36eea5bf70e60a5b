/-
  The law over plain data: true at all inputs. Conditions: none.
-/
import Derived.Test.YtmpaebhomokjmaaGreatS18
import Derived.Lib.Mul64
import Derived.WalkKit
import Derived.Test.YtmpaebhomokjmaaGreatV
namespace Go.Fx.D
open Go Go.Fx
set_option linter.unusedVariables false
set_option linter.unusedSimpArgs false
theorem tR (a : Vec) : gJ a = some (decide (VB 1125899906842624 a)):=by
 unfold gJ
 have e : decide (VB 1125899906842624 a) = ((decide (a.Mem ≥ 0) && decide (a.Mem ≤ 1125899906842624)) && (decide (a.Cores ≥ 0) && decide (a.Cores ≤ 1125899906842624))):=by
  rw [Bool.eq_iff_iff,decide_eq_true_iff]
  simp only [Bool.and_eq_true,decide_eq_true_eq,VB,ge_iff_le]
 rw [e]
 cases decide (a.Mem ≥ 0) <;> cases decide (a.Mem ≤ 1125899906842624) <;> cases decide (a.Cores ≥ 0) <;> cases decide (a.Cores ≤ 1125899906842624) <;> rfl
theorem AZ {a : Vec} (h : VB 1125899906842624 a) : qk a = some (a,0):=by
 unfold qk
 rw [tR,decide_eq_true h]
 rfl
theorem AS {a b : Vec} {n m : Int} (ha : VB n a) (hb : VB m b) (h : n + m ≤ 1125899906842624) : nR a b = some (vplus a b,0):=by
 have hn : 0 ≤ n ∧ 0 ≤ m:=by unfold VB at ha hb; omega
 have hs:=wk ha hb
 unfold nR
 rw [tR,tR,decide_eq_true (ha.mono (by omega)),decide_eq_true (hb.mono (by omega))]
 simp only [Jw,Bool.not_true,cond_false]
 have e : (⟨w64 (a.Mem + b.Mem),w64 (a.Cores + b.Cores)⟩ : Vec) = vplus a b:=by
  unfold VB vplus at hs
  dsimp only at hs
  rw [ao (by omega) (by omega),ao (by omega) (by omega)]
  rfl
 rw [e,AZ (hs.mono h)]
 rfl
theorem Dl (a b : Vec) : vplus a b = vplus b a:=by unfold vplus; congr 1 <;> omega
theorem Bv (a b c : Vec) : vplus (vplus a b) c = vplus a (vplus b c):=by unfold vplus; dsimp only; congr 1 <;> omega
theorem wX (a : Vec) : vplus ⟨0,0⟩ a = a:=by cases a; simp [vplus]
theorem BB (l : List Vec) (z : Vec) : l.foldl vplus z = vplus z (vsum l):=by
 induction l generalizing z with
 | nil => rw [GH,Dl,wX]; rfl
 | cons x l ih => rw [List.foldl_cons,ih,vd,Bv]
theorem Jg {l : List Vec} (hl : l.length ≤ 1000) (h : ∀ v ∈ l,VB 1099511627776 v) : oq l = some (vsum l):=by
 unfold oq
 rw [(fE (fun v i => (v,i)) l vplus (fun k v => VB (1099511627776 * k) v) (fun v => v) (step:=kS l) (by omega) ?_ ?_ (s:=(⟨0,0⟩ : Vec)) (by simp [VB])).1]
 ·rw [BB,wX]; rfl
 ·intro k hk s hs
  have hb:=h _ (List.getElem_mem hk)
  refine ⟨?_,(wk hs hb).mono (by omega)⟩
  unfold kS
  rw [aj hk,ai hk]
  simp only [cond_true,Jw]
  rw [AS hs hb (by omega)]
  rfl
 ·intro s _
  unfold kS
  rw [ar]
  rfl
theorem u64w (x : Int) : IntKind.u64.wrap x = x % 18446744073709551616:=by rw [IntKind.wrap_u64]
theorem u64id {x : Int} (h : 0 ≤ x) (h2 : x < 18446744073709551616) : IntKind.u64.wrap x = x:=by rw [u64w]; omega
theorem shr32 (x : Int) : shrK .u64 x 32 = x / 4294967296:=by
 show x.fdiv (2 ^ min (32 : Int).toNat IntKind.u64.bits) = _
 rw [show (2 ^ min (32 : Int).toNat IntKind.u64.bits : Int) = 4294967296 from by decide,Int.fdiv_eq_ediv_of_nonneg _ (by decide)]
theorem andN (a b : Nat) (ha : a < 18446744073709551616) (hb : b < 18446744073709551616) : andK .u64 (a : Int) (b : Int) = ((a &&& b : Nat) : Int):=by
 show IntKind.u64.wrap ((BitVec.ofInt 64 (a : Int) &&& BitVec.ofInt 64 (b : Int)).toNat) = _
 have e : ((BitVec.ofInt 64 (a : Int) &&& BitVec.ofInt 64 (b : Int)).toNat) = a &&& b:=by
  rw [BitVec.toNat_and,BitVec.toNat_ofInt,BitVec.toNat_ofInt]
  congr 1 <;> omega
 rw [e]
 have : a &&& b ≤ a:=Nat.and_le_left
 exact u64id (by omega) (by omega)
theorem and32 (a : Nat) (ha : a < 18446744073709551616) : andK .u64 (a : Int) 4294967295 = ((a % 4294967296 : Nat) : Int):=by
 have:=andN a 4294967295 ha (by omega)
 rw [show ((4294967295 : Nat) : Int) = 4294967295 from rfl] at this
 rw [this,show (4294967295 : Nat) = 2 ^ 32 - 1 from rfl,Nat.and_two_pow_sub_one_eq_mod]
theorem G0 (x y : Nat) (hx : x < 18446744073709551616) (hy : y < 18446744073709551616) :
  qE (x : Int) (y : Int) = some (((x * y / 18446744073709551616 : Nat) : Int),((x * y % 18446744073709551616 : Nat) : Int)):=by
 obtain ⟨h1,h2,h3,h4⟩:=Lib.mul64_hi x y hx hy
 have a1:=Lib.half_mul_le (a:=x / 4294967296) (b:=y / 4294967296) (by omega) (by omega)
 have a2:=Lib.half_mul_le (a:=x / 4294967296) (b:=y % 4294967296) (by omega) (by omega)
 have a3:=Lib.half_mul_le (a:=x % 4294967296) (b:=y / 4294967296) (by omega) (by omega)
 have a4:=Lib.half_mul_le (a:=x % 4294967296) (b:=y % 4294967296) (by omega) (by omega)
 have w : ∀ a : Nat,a < 18446744073709551616 → IntKind.u64.wrap (a : Int) = (a : Int):=fun a ha => u64id (by omega) (by omega)
 have d : ∀ a : Nat,(a : Int) / 4294967296 = ((a / 4294967296 : Nat) : Int):=fun a => by omega
 have m : ∀ a b : Nat,(a : Int) * (b : Int) = ((a * b : Nat) : Int):=fun a b => (Int.natCast_mul a b).symm
 have p : ∀ a b : Nat,(a : Int) + (b : Int) = ((a + b : Nat) : Int):=fun a b => (Int.natCast_add a b).symm
 unfold qE
 simp only [shr32,d]
 rw [and32 y hy,and32 x hx]
 simp only [m,p]
 rw [w _ (Nat.lt_of_le_of_lt a1 (by omega)),w _ (Nat.lt_of_le_of_lt a2 (by omega)),w _ (Nat.lt_of_le_of_lt a3 (by omega)),w _ (Nat.lt_of_le_of_lt a4 (by omega))]
 simp only [d,p]
 rw [w _ h2]
 simp only [d,p]
 rw [and32 _ h2]
 simp only [p]
 rw [w _ h3]
 simp only [d]
 have hq : x * y / 18446744073709551616 < 18446744073709551616:=by
  have : x * y < 18446744073709551616 * 18446744073709551616:=Nat.mul_lt_mul_of_lt_of_lt hx hy
  omega
 have hs : x / 4294967296 * (y / 4294967296) + (x / 4294967296 * (y % 4294967296) + x % 4294967296 * (y % 4294967296) / 4294967296) / 4294967296 < 18446744073709551616:=by omega
 rw [w _ hs]
 simp only [p]
 rw [h4,w _ hq,u64w]
 simp
theorem Cp {n bp : Int} (h0 : 0 ≤ n) (h1 : n ≤ 1099511627776) (b0 : 0 ≤ bp) (b1 : bp ≤ 1000000) : qo n bp = some (n * bp / 10000) ∧ 0 ≤ n * bp / 10000 ∧ n * bp / 10000 ≤ 109951162777600:=by
 obtain ⟨a,rfl⟩:=Int.eq_ofNat_of_zero_le h0
 obtain ⟨b,rfl⟩:=Int.eq_ofNat_of_zero_le b0
 have m3:=oK h0 h1 b0 b1
 have hm : (a : Int) * (b : Int) = ((a * b : Nat) : Int):=(Int.natCast_mul a b).symm
 rw [hm] at m3 ⊢
 refine ⟨?_,by omega,by omega⟩
 unfold qo
 rw [u64id (by omega) (by omega),u64id (by omega) (by omega),G0 _ _ (by omega) (by omega)]
 generalize a * b = c at m3 ⊢
 have e1 : c / 18446744073709551616 = 0:=by omega
 have e2 : c % 18446744073709551616 = c:=by omega
 rw [e1,e2]
 simp only [Jw]
 unfold tx
 have n0 : nz 10000 = some ():=rfl
 have c1 : ((10000 : Int) == 0) = false:=rfl
 have c2 : decide ((10000 : Int) ≤ ((0 : Nat) : Int)) = false:=rfl
 have c3 : (((0 : Nat) : Int) == 0) = true:=rfl
 simp only [c1,c2,c3,n0,cond_true,cond_false,Jw]
 rw [Int.tdiv_eq_ediv_of_nonneg (by omega),u64id (by omega) (by omega),ao (by omega) (by omega)]
theorem Ey {a : Vec} {bp : Int} (ha : VB 1099511627776 a) (b0 : 0 ≤ bp) (b1 : bp ≤ 1000000) : pc a bp = some (gV a bp,0):=by
 have ha':=ha
 unfold VB at ha'
 obtain ⟨e1,p1,p2⟩:=Cp ha'.1.1 ha'.1.2 b0 b1
 obtain ⟨e2,p3,p4⟩:=Cp ha'.2.1 ha'.2.2 b0 b1
 have hv : VB 109951162777600 (gV a bp):=⟨⟨p1,p2⟩,p3,p4⟩
 unfold pc
 rw [tR,decide_eq_true (ha.mono (by omega))]
 simp only [Jw,Bool.not_true,cond_false]
 rw [decide_eq_false (by omega),decide_eq_false (by omega)]
 simp only [Jw,cond_false]
 rw [e1,e2]
 simp only [Jw]
 have : (⟨a.Mem * bp / 10000,a.Cores * bp / 10000⟩ : Vec) = gV a bp:=rfl
 rw [this,AZ (hv.mono (by omega))]
 rfl
theorem uL {s : State} (h : SC s) (label : Int) : iF s label = some (iO s label):=by
 unfold iF
 have hn:=h.n
 rw [bS (fun (l : List Vec) i => (l,i)) s.Nodes (fun n => n.Up && n.Label == label) (·.Cap) (step:=iL s label) (by omega) ?_ ?_]
 ·rw [Jw,Jg]
  ·rfl
  ·rw [List.length_map]
   have:=List.length_filter_le (fun n : Node => n.Up && n.Label == label) s.Nodes
   omega
  ·intro v hv
   obtain ⟨n,hn,rfl⟩:=List.mem_map.1 hv
   exact (h.b.nc n (List.mem_filter.1 hn).1).mono (by omega)
 ·intro k hk l hl
  unfold iL
  rw [aj hk,ai hk]
  simp only [cond_true,Jw]
  rw [am (by simp; omega) (by omega)]
  cases s.Nodes[k].Up <;> cases s.Nodes[k].Label == label <;> rfl
 ·intro l
  unfold iL
  rw [ar]
  rfl
theorem tJ {α τ ρ : Type} (mk : Int → τ) (l : List α) (p : α → Bool) (g : Int → ρ) (z : ρ) {step : τ → Option (τ ⊕ ρ)} (hn : l.length < 1000000000)
  (h1 : ∀ k (hk : k < l.length),p l[k] = false → step (mk (k : Int)) = some (.inl (mk (w64 ((k : Int) + 1)))))
  (h2 : ∀ k (hk : k < l.length),p l[k] = true → step (mk (k : Int)) = some (.inr (g (k : Int))))
  (h3 : step (mk (l.length : Int)) = some (.inr z)) : (∃ k,∃ (hk : k < l.length),l.find? p = some l[k] ∧ loop step (mk 0) = some (g (k : Int))) ∨ (l.find? p = none ∧ loop step (mk 0) = some z):=by
 have h:=aG (σ:=Unit) (Q:=fun x => (∃ k,∃ (hk : k < l.length),l.find? p = some l[k] ∧ x = g (k : Int)) ∨ (l.find? p = none ∧ x = z)) (fun _ i => mk i) l.length (fun k _ => (l.take k).find? p = none) (step:=step) hn ?_ ?_ (s:=()) rfl
 ·obtain ⟨x,e,h⟩:=h
  rcases h with ⟨k,hk,h1,rfl⟩ | ⟨h1,rfl⟩
  ·exact .inl ⟨k,hk,h1,e⟩
  ·exact .inr ⟨h1,e⟩
 ·intro k hk _ hs
  cases hp : p l[k] with
  | false =>
   refine bz (h1 k hk hp) (.inl ⟨(),rfl,?_⟩)
   rw [List.take_succ_eq_append_getElem hk,List.find?_append,hs]
   simp [hp]
  | true =>
   refine bz (h2 k hk hp) (.inr ⟨_,rfl,.inl ⟨k,hk,?_,rfl⟩⟩)
   conv => lhs; rw [← List.take_append_drop k l]
   rw [List.find?_append,hs,Option.none_or,List.drop_eq_getElem_cons hk,List.find?_cons_of_pos hp]
 ·intro _ hs
  rw [List.take_length] at hs
  exact bz h3 ⟨_,rfl,.inr ⟨hs,rfl⟩⟩
theorem zT {c : Conf} (h : CSmall c) (p : Str) : mq c p = some ((pFind c p).elim (noQ,false) fun q => (q,true)):=by
 unfold mq pa
 have hq:=h.q
 have e:=tJ (fun i => i) c.Queues (fun q => q.Path == p) (fun i => (.inl i : Int ⊕ Unit)) (.inr ()) (step:=gI c.Queues fun a' => kc a'.1 p) (by omega) ?_ ?_ ?_
 ·unfold pFind
  rcases e with ⟨k,hk,e1,e2⟩ | ⟨e1,e2⟩
  ·rw [e1,e2]
   simp only [Jw,Option.elim_some]
   rw [decide_eq_false (by omega),ai hk]
   simp only [cond_false,Jw]
   unfold pT
   rw [am (by have:=h.c _ (List.getElem_mem hk); simp; omega) (by omega)]
   rfl
  ·rw [e1,e2]
   rfl
 ·intro k hk hf
  unfold gI kc
  rw [aj hk,ai hk]
  simp only [cond_true,Jw,hf,cond_false]
 ·intro k hk hf
  unfold gI kc
  rw [aj hk,ai hk]
  simp only [cond_true,Jw,hf]
 ·unfold gI
  rw [ar]
  rfl
theorem yY (p : Str) (hp : p.length < 1000000000) : ∀ m,m ≤ p.length → loop (bo p 46) ((m : Int) - 1) = some (if ((p.take m).reverse.dropWhile (· != 46)).length = 0 then .inr () else .inl ((((p.take m).reverse.dropWhile (· != 46)).length : Int) - 1)):=by
 intro m
 induction m with
 | zero =>
  intro _
  rw [cM]
  rfl
 | succ m ih =>
  intro hm
  rw [cM]
  have e0 : ((m + 1 : Nat) : Int) - 1 = (m : Int):=by omega
  rw [e0]
  unfold bo
  rw [decide_eq_true (by omega),ai (show m < p.length by omega)]
  have hb : ((p[m].toNat : Int) == 46) = !(p[m] != 46):=by
   rw [Bool.eq_iff_iff,beq_iff_eq,Bool.not_eq_true',bne_eq_false_iff_eq]
   refine ⟨fun h => ?_,fun h => by rw [h]; rfl⟩
   exact UInt8.toNat_inj.1 (by have : (46 : UInt8).toNat = 46:=rfl; omega)
  have ht : (p.take (m + 1)).reverse = p[m] :: (p.take m).reverse:=by rw [List.take_succ_eq_append_getElem (by omega),List.reverse_append]; rfl
  rw [ht,List.dropWhile_cons]
  simp only [cond_true,Jw,hb]
  cases h : (p[m] != 46) with
  | true =>
   simp only [Bool.not_true,cond_false,if_true]
   rw [ao (by omega) (by omega)]
   exact ih (by omega)
  | false =>
   simp only [Bool.not_false,cond_true,Bool.false_eq_true,if_false,List.length_cons,List.length_reverse,List.length_take]
   rw [if_neg (by omega)]
   congr 2
   omega
theorem EE {p : Str} (hp : p.length < 1000000000) : ∃ b,hG p = some (aV p,b):=by
 have e : bV p [46] = aL p 46:=by
  unfold bV
  rw [show ((([46] : List UInt8).length : Int) == 0) = false from rfl,show ((([46] : List UInt8).length : Int) == 1) = true from rfl]
  simp only [cond_true,cond_false]
  rw [show idx ([46] : List UInt8) 0 = some 46 from rfl,Jw]
  show (aL p 46).bind some = _
  cases aL p 46 <;> rfl
 unfold hG
 rw [e]
 unfold aL
 dsimp only
 rw [ao (by omega) (by omega),yY p hp p.length (Nat.le_refl _),List.take_length,nE]
 have hle:=(List.dropWhile_suffix (· != 46) (l:=p.reverse)).length_le
 rw [List.length_reverse] at hle
 generalize (p.reverse.dropWhile (· != 46)).length = n at hle ⊢
 by_cases h : n = 0
 ·subst h; exact ⟨false,rfl⟩
 ·rw [if_neg h]
  simp only [Jw]
  rw [decide_eq_false (by omega)]
  unfold slc
  simp only [cond_false]
  rw [if_pos ⟨by omega,by omega,by omega⟩]
  simp only [Jw,Int.toNat_zero,List.drop_zero]
  refine ⟨true,?_⟩
  congr 3
  omega
theorem zH : ∀ (n : Nat) (p : Str) (l : List Str),p.length ≤ n → p.length + l.length ≤ 1000000 → loop li (p,l) = some (l ++ pUp p)
 | n,p,l,h1,h2 => by
  by_cases h : p = []
  ·subst h
   rw [cM]
   simp [li,mU]
  ·have hl:=fh h
   have hb : (p == []) = false:=by simp [h]
   have hs : li (p,l) = some (.inl (aV p,l ++ [p])):=by
    unfold li
    simp only [hb,Bool.not_false,cond_true]
    obtain ⟨b,e⟩:=EE (p:=p) (by omega)
    rw [am (by simp; omega) (by omega),e]
    rfl
   rw [cM,hs]
   dsimp only
   match n with
   | 0 => omega
   | n + 1 =>
    rw [zH n (aV p) (l ++ [p]) (by omega) (by simp; omega),ls h]
    simp
theorem Jb {p : Str} (h : p.length ≤ 1000000) : qP p = some (pUp p):=by
 unfold qP
 rw [zH p.length p [] (Nat.le_refl _) (by simpa using h)]
 rfl
theorem A9 {s : State} (h : SC s) {path : Str} (hp : path.length ≤ 1000000) {label : Int} (h0 : 0 ≤ label) (h1 : label < s.Conf.Labels.length) (least : Bool) {part : TupT fam [.st 1] → Option Int}
  (hpart : ∀ c : Cap,part (c,()) = some (bif least then c.Least else c.Most)) : lw s path label part = some (pDown s path label least):=by
 have hn:=h.n
 unfold lw pDown
 rw [Jb hp,Jw,zT h.b.cf]
 cases hf : pFind s.Conf path with
 | none => simp
 | some q =>
  simp only [Option.elim_some,Jw,Bool.not_true,cond_false,Option.isSome_some,true_and]
  rw [if_pos ⟨h0,h1⟩,uL h,Jw]
  have hfound:=pX h.c path.length path (Nat.le_refl _) (by rw [hf]; rfl)
  have hul:=vr path
  have hpos : 0 < (pUp path).length:=by
   have : path ≠ []:=by
    intro e
    obtain ⟨hm,hq⟩:=mv hf
    obtain ⟨i,hi,rfl⟩:=List.getElem_of_mem hm
    have:=(h.c.q i hi).path.root
    rw [hq,e] at this
    simp at this
   rw [ls this]
   simp
  rw [ao (by omega) (by omega)]
  have key : ∀ m,m ≤ (pUp path).length → ∀ v,VB (s.Nodes.length * 1073741824) v → loop (jv s label part (pUp path)) ((⟨0,0⟩ : Vec),v,(m : Int) - 1) = some (.inr (⟨0,0⟩,((pUp path).take m).reverse.foldl (fun v p => gV v (bpOf s.Conf label least p)) v)):=by
   intro m
   induction m with
   | zero =>
    intro _ v _
    rw [cM]
    rfl
   | succ m ih =>
    intro hm v hv
    have hfm:=hfound _ (List.getElem_mem (show m < (pUp path).length by omega))
    have hbp:=zy h.c hfm h0 h1 least
    have hs : jv s label part (pUp path) ((⟨0,0⟩ : Vec),v,((m + 1 : Nat) : Int) - 1) = some (.inl (⟨0,0⟩,gV v (bpOf s.Conf label least (pUp path)[m]),(m : Int) - 1)):=by
     unfold jv
     dsimp only
     rw [show ((m + 1 : Nat) : Int) - 1 = (m : Int) by omega,decide_eq_true (by omega),aM (show m < (pUp path).length by omega)]
     simp only [cond_true,Jw,Jx (show m < (pUp path).length by omega)]
     obtain ⟨q',e1,e2,e3,e4⟩:=ve h.c hfm h0 h1
     rw [zT h.b.cf,e1]
     simp only [Option.elim_some,Jw,Bool.not_true,cond_false]
     rw [decide_eq_false (show ¬ label < 0 by omega),decide_eq_false (show ¬ label ≥ (q'.Caps.length : Int) by omega)]
     simp only [cond_false,Jw]
     have hin : inb label q'.Caps.length = some label.toNat:=by
      unfold inb
      rw [if_pos ⟨by omega,e2⟩]
     rw [hin]
     simp only [Jw,e3]
     rw [hpart]
     simp only [Jw]
     rw [show (bif least then (capAt s.Conf label (pUp path)[m]).Least else (capAt s.Conf label (pUp path)[m]).Most) = bpOf s.Conf label least (pUp path)[m] from rfl]
     rw [Ey (hv.mono (by omega)) hbp.1 (by omega),Jw,ao (by omega) (by omega)]
    rw [cM,hs]
    dsimp only
    rw [ih (by omega) _ (uv hv hbp.1 hbp.2),List.take_succ_eq_append_getElem (by omega),List.reverse_append]
    rfl
  have:=key ((pUp path).length - 1) (by omega) _ (pF h.b label)
  rw [show (((pUp path).length - 1 : Nat) : Int) - 1 = ((pUp path).length : Int) - 2 by omega] at this
  rw [this,List.dropLast_eq_take]
  rfl
theorem yV {s : State} (h : SC s) {path : Str} (hp : path.length ≤ 1000000) {label : Int} (h0 : 0 ≤ label) (h1 : label < s.Conf.Labels.length) : j9 s path label = some (pDown s path label true):=by
 unfold j9; rw [A9 h hp h0 h1 true (fun c => rfl)]; rfl
theorem F2 {s : State} (h : SC s) {path : Str} (hp : path.length ≤ 1000000) {label : Int} (h0 : 0 ≤ label) (h1 : label < s.Conf.Labels.length) : qH s path label = some (pDown s path label false):=by
 unfold qH; rw [A9 h hp h0 h1 false (fun c => rfl)]; rfl
theorem wy (q : Str) : (46 ∉ q ∧ aV q = []) ∨ ∃ r,46 ∉ r ∧ q = aV q ++ 46 :: r:=by
 have h0 : q.reverse.takeWhile (· != 46) ++ q.reverse.dropWhile (· != 46) = q.reverse:=List.takeWhile_append_dropWhile
 have h1 : 46 ∉ (q.reverse.takeWhile (· != 46)).reverse:=by
  intro h
  have:=List.all_eq_true.1 (List.all_takeWhile (p:=(· != 46)) (l:=q.reverse)) _ (List.mem_reverse.1 h)
  simp at this
 have h2 : q = (q.reverse.dropWhile (· != 46)).reverse ++ (q.reverse.takeWhile (· != 46)).reverse:=by rw [← List.reverse_append,h0,List.reverse_reverse]
 cases hd : q.reverse.dropWhile (· != 46) with
 | nil =>
  left
  rw [hd] at h2
  refine ⟨?_,by unfold aV; rw [hd]; rfl⟩
  rw [h2]
  simpa using h1
 | cons x d =>
  right
  have hx : x = 46:=by
   have : (q.reverse.dropWhile (· != 46)).head? = some x:=by rw [hd]; rfl
   have:=List.head?_dropWhile_not (· != 46) q.reverse
   rw [hd] at this
   simpa using this
  refine ⟨(q.reverse.takeWhile (· != 46)).reverse,h1,?_⟩
  unfold aV
  rw [hd]
  conv => lhs; rw [h2,hd,hx]
  simp
theorem Iz {p u r : Str} (hr : 46 ∉ r) : (p ++ [46]) <+: (u ++ 46 :: r) ↔ p = u ∨ (p ++ [46]) <+: u:=by
 constructor
 ·intro h
  by_cases h1 : p.length < u.length
  ·right
   exact List.prefix_of_prefix_length_le h (List.prefix_append _ _) (by simp; omega)
  ·by_cases h2 : p.length = u.length
   ·left
    have:=List.prefix_of_prefix_length_le (List.IsPrefix.trans (List.prefix_append p [46]) h) (List.prefix_append u _) (by omega)
    exact List.IsPrefix.eq_of_length this h2
   ·exfalso
    have hp : u ++ [46] <+: p:=by
     refine List.prefix_of_prefix_length_le (l₃:=u ++ 46 :: r) ⟨r,by simp⟩ (List.IsPrefix.trans (List.prefix_append p [46]) h) (by simp; omega)
    obtain ⟨z,rfl⟩:=hp
    obtain ⟨y,hy⟩:=h
    have : z ++ [46] ++ y = r:=by
     have : u ++ (46 :: (z ++ [46] ++ y)) = u ++ (46 :: r):=by rw [← hy]; simp
     have:=List.append_cancel_left this
     simpa using this
    exact hr (by rw [← this]; simp)
 ·rintro (rfl | h)
  ·exact ⟨r,by simp⟩
  ·exact List.IsPrefix.trans h (List.prefix_append _ _)
theorem DJ {p : Str} (hp : p ≠ []) : ∀ (n : Nat) (q : Str),q.length ≤ n → (p ∈ pUp q ↔ p = q ∨ (p ++ [46]) <+: q)
 | n,q,hn => by
  by_cases hq : q = []
  ·subst hq
   rw [mU]
   constructor
   ·intro h; cases h
   ·rintro (h | h)
    ·exact absurd h hp
    ·have:=h.length_le; simp at this
  ·rw [ls hq,List.mem_cons]
   refine or_congr Iff.rfl ?_
   have ha:=fh hq
   match n with
   | 0 => omega
   | n + 1 =>
    rw [DJ hp n (aV q) (by omega)]
    rcases wy q with ⟨h1,h2⟩ | ⟨r,h1,h2⟩
    ·rw [h2]
     constructor
     ·rintro (h | h)
      ·exact absurd h hp
      ·have:=h.length_le; simp at this
     ·intro h
      exact absurd (h.subset (by simp)) h1
    ·conv => rhs; rw [h2]
     rw [Iz h1]
def pHasP (q p : Str) : Bool:=q == p || (p ++ [46]).isPrefixOf q
theorem H3 {q : Str} (hq : PathOk q) (p : Str) : pHasP q p = iY q p:=by
 have hqn : q ≠ []:=by
  intro e
  have:=hq.root
  rw [e] at this
  simp at this
 unfold pHasP iY
 rw [Bool.eq_iff_iff,Bool.or_eq_true,beq_iff_eq,List.isPrefixOf_iff_prefix,List.contains_iff_mem]
 by_cases hp : p = []
 ·subst hp
  constructor
  ·rintro (h | h)
   ·exact absurd h hqn
   ·exfalso
    rcases hq.root with h1 | h1
    ·rw [h1] at h; revert h; decide
    ·obtain ⟨z,rfl⟩:=h1
     obtain ⟨y,hy⟩:=h
     have:=congrArg List.head? hy
     simp at this
  ·intro h
   exfalso
   have key : ∀ (n : Nat) (x : Str),x.length ≤ n → [] ∉ pUp x:=by
    intro n
    induction n with
    | zero =>
     intro x hx
     have : x = []:=List.length_eq_zero_iff.1 (by omega)
     subst this
     simp [mU]
    | succ n ih =>
     intro x hx
     by_cases h : x = []
     ·subst h; simp [mU]
     ·have:=fh h
      rw [ls h]
      simp only [List.mem_cons,not_or]
      exact ⟨fun e => h e.symm,ih _ (by omega)⟩
   exact key _ _ (Nat.le_refl _) h
 ·rw [DJ hp q.length q (Nat.le_refl _)]
  constructor
  ·rintro (rfl | h)
   ·exact .inl rfl
   ·exact .inr h
  ·rintro (rfl | h)
   ·exact .inl rfl
   ·exact .inr h
theorem DR (s p : Str) : kz s p = some (p.isPrefixOf s):=by
 unfold kz k8
 by_cases h : p.length ≤ s.length
 ·rw [decide_eq_true (by omega)]
  unfold slc
  simp only [cond_true]
  rw [if_pos ⟨by omega,by omega,by omega⟩]
  simp only [Jw,Int.toNat_zero,List.drop_zero,Int.toNat_natCast]
  congr 1
  rw [Bool.eq_iff_iff,beq_iff_eq,List.isPrefixOf_iff_prefix,List.prefix_iff_eq_take]
  exact eq_comm
 ·rw [decide_eq_false (by omega)]
  have : p.isPrefixOf s = false:=by
   rw [Bool.eq_false_iff]
   intro hc
   have:=(List.isPrefixOf_iff_prefix.1 hc).length_le
   omega
  rw [this]
  rfl
theorem DL {v : View} {a : App} (hp : v.path.length ≤ 1000000) (ha : PathOk a.Queue) : iK v a = some (iY a.Queue v.path && (v.user == (-1) || a.User == v.user)):=by
 unfold iK
 rw [dR (by simp; omega),Jw,DR,← H3 ha]
 unfold pHasP
 cases a.Queue == v.path <;> cases (v.path ++ [46]).isPrefixOf a.Queue <;> cases v.user == (-1) <;> rfl
theorem GS {v : View} (h : v.s.Apps.length ≤ 100000) (c : Cont) : iQ v c = some ((appAt v.s c.App).elim (noA,false) fun x => (x,true)):=by
 unfold iQ
 have e:=d6 (fun i => (noA,i)) v.s.Apps (fun x => x.Id == c.App) (fun x => (.inl (x,true) : (App × Bool) ⊕ App)) (.inr noA) (step:=eH v c) (by omega) ?_ ?_ ?_
 ·unfold noA at e
  rw [e]
  unfold appAt noA
  cases v.s.Apps.find? fun x => x.Id == c.App <;> rfl
 ·intro k hk hf
  unfold eH
  rw [aj hk,ai hk]
  simp only [cond_true,Jw,hf,cond_false]
 ·intro k hk hf
  unfold eH
  rw [aj hk,ai hk]
  simp only [cond_true,Jw,hf]
 ·unfold eH
  rw [ar]
  rfl
theorem GO {N : Nat} {s : State} (h : Inv N s) {path : Str} (hp : path.length ≤ 1000000) (label user : Int) : gv ⟨s,path,label,user⟩ = some (pUsed s path label (user == (-1)) user):=by
 have hcl:=h.cl
 have hal:=h.al
 unfold gv
 rw [iG (fun v i => (v,i)) s.Conts (pHas s path label (user == (-1)) user) (·.Size) (step:=dq ⟨s,path,label,user⟩) (by omega) (fun c hc _ => ((h.sb.cs c hc).mono (by omega))) ?_ ?_]
 ·rfl
 ·intro k hk v hv
  unfold dq
  dsimp only
  rw [aj hk]
  simp only [ai hk,cond_true,Jw]
  rw [GS (by dsimp only; omega),Jw,AS hv (h.sb.cs _ (List.getElem_mem hk)) (by omega)]
  unfold pHas
  dsimp only
  cases ha : appAt s s.Conts[k].App with
  | none => simp
  | some a =>
   simp only [Option.elim_some,Jw,cond_true]
   rw [DL (by dsimp only; omega) (h.ak a (nV (id:=fun x : App => x.Id) ha).1).path]
   dsimp only
   rcases Bool.eq_false_or_eq_true (iY a.Queue path) with hb | hb <;> simp only [hb] <;> cases s.Conts[k].Label == label <;> cases user == (-1) <;> cases a.User == user <;> rfl
 ·intro v
  unfold dq
  dsimp only
  rw [ar]
  rfl
theorem EH (s : State) (path : Str) (label u w : Int) : pUsed s path label true u = pUsed s path label true w:=by
 have : pHas s path label true u = pHas s path label true w:=by
  funext c
  unfold pHas
  cases appAt s c.App <;> simp
 unfold pUsed
 rw [this]
theorem tv {N : Nat} {s : State} (h : Inv N s) {path : Str} (hp : path.length ≤ 1000000) (label : Int) : il s path label = some (pUsed s path label true 0):=by
 unfold il
 have:=GO h hp label (-1)
 rw [show ((-1 : Int) == -1) = true from rfl,EH s path label (-1) 0] at this
 rw [this]
 rfl
theorem Ek (least most : Int) {l : List Int} (hl : l.length ≤ 1000) : rD least most l = some (l.all fun n => decide (least ≤ n) && decide (n ≤ most)):=by
 unfold rD dO fD
 have e:=tJ (fun i => i) l (fun n => !(decide (least ≤ n) && decide (n ≤ most))) (fun i => (.inl i : Int ⊕ Unit)) (.inr ()) (step:=bk l fun a' => oJ a'.1 least most) (by omega) ?_ ?_ ?_
 ·rw [← AX l]
  rcases e with ⟨k,hk,e1,e2⟩ | ⟨e1,e2⟩
  ·rw [e1,e2]
   simp only [Jw,Option.isNone_some]
   rw [decide_eq_true (show (k : Int) ≥ 0 by omega)]
   rfl
  ·rw [e1,e2]
   rfl
 ·intro k hk hf
  unfold bk oJ
  rw [aj hk,ai hk]
  simp only [cond_true,Jw]
  simp only [Bool.not_eq_false',Bool.and_eq_true,decide_eq_true_eq] at hf
  rw [decide_eq_false (show ¬ l[k] < least by omega),decide_eq_false (show ¬ l[k] > most by omega)]
  rfl
 ·intro k hk hf
  unfold bk oJ
  rw [aj hk,ai hk]
  simp only [cond_true,Jw]
  simp only [Bool.not_eq_true',Bool.and_eq_false_iff,decide_eq_false_iff_not] at hf
  by_cases h1 : l[k] < least
  ·rw [decide_eq_true h1]; rfl
  ·rw [decide_eq_false h1,decide_eq_true (show l[k] > most by omega)]; rfl
 ·unfold bk
  rw [ar]
  rfl
theorem IC {c : Conf} {l : List Ask} (hl : l.length ≤ 100) (h : ∀ x ∈ l,AskOk c x) (label : Int) : pg l label = some (oO l label):=by
 unfold pg
 rw [iG (fun v i => (v,i)) l (fun x => x.Label == label) oS (step:=mc l label) (by omega) (fun x hx _ => (qf (h x hx)).1.mono (by omega)) ?_ ?_]
 ·rfl
 ·intro k hk v hv
  have hx:=h _ (List.getElem_mem hk)
  obtain ⟨t1,t2,t3⟩:=qf hx
  have hs:=hx.size
  have hc:=hx.count
  unfold SzOk at hs
  unfold mc
  dsimp only
  rw [aj hk,cond_true,ai hk]
  simp only [Jw,t2,t3]
  rw [Ek _ _ (by simp),Ek _ _ (by simp)]
  have e1 : ([l[k].Size.Mem,l[k].Size.Cores].all fun n => decide (0 ≤ n) && decide (n ≤ 1125899906842624)) = true:=by
   simp; omega
  have e2 : ([l[k].Count].all fun n => decide (0 ≤ n) && decide (n ≤ 50)) = true:=by
   simp; omega
  rw [e1,e2]
  have hp:=wk hv t1
  have e : (⟨w64 (v.Mem + l[k].Size.Mem * l[k].Count),w64 (v.Cores + l[k].Size.Cores * l[k].Count)⟩ : Vec) = vplus v (oS l[k]):=by
   unfold VB vplus oS at hp
   dsimp only at hp
   rw [ao (by omega) (by omega),ao (by omega) (by omega)]
   rfl
  rw [e]
  cases l[k].Label == label <;> rfl
 ·intro v
  unfold mc
  rw [ar]
  rfl
theorem vW {N : Nat} {s : State} (h : Inv N s) {path : Str} (hp : path.length ≤ 1000000) (label : Int) : lN s path label = some (gG s path label):=by
 have hal:=h.al
 unfold lN ms
 rw [iG (fun v i => (v,i)) s.Apps (fun a => pLive a && iY a.Queue path) (fun a => oO a.Asks label) (by omega) (fun a ha _ => (qW (h.ak a ha).al (h.ak a ha).ask label).mono (by omega)) ?_ ?_]
 ·rfl
 ·intro k hk v hv
  have hak:=h.ak _ (List.getElem_mem hk)
  unfold kU
  dsimp only
  rw [aj hk,cond_true]
  simp only [ai hk,Jw]
  rw [DL (by dsimp only; omega) hak.path,IC (by have:=hak.al; omega) hak.ask,Jw,Jw,AS hv (qW hak.al hak.ask label) (by omega)]
  unfold ml pLive
  cases s.Apps[k].State == 1 <;> cases s.Apps[k].State == 2 <;> rcases Bool.eq_false_or_eq_true (iY s.Apps[k].Queue path) with hb | hb <;> simp only [hb] <;> rfl
 ·intro v
  unfold kU
  dsimp only
  rw [ar]
  rfl
theorem EK {p : Str} (h : PathOk p) : hG p = some (aV p,!(aV p == [])):=by
 have hp : p.length < 1000000000:=by have:=h.len; omega
 have e : bV p [46] = aL p 46:=by
  unfold bV
  rw [show ((([46] : List UInt8).length : Int) == 0) = false from rfl,show ((([46] : List UInt8).length : Int) == 1) = true from rfl]
  simp only [cond_true,cond_false]
  rw [show idx ([46] : List UInt8) 0 = some 46 from rfl,Jw]
  show (aL p 46).bind some = _
  cases aL p 46 <;> rfl
 have hhead : ∀ r,p ≠ 46 :: r:=by
  intro r er
  rcases h.root with h1 | h1
  ·rw [h1] at er; cases er
  ·obtain ⟨t,h1⟩:=h1
   rw [er] at h1; cases h1
 unfold hG
 rw [e]
 unfold aL
 dsimp only
 rw [ao (by omega) (by omega),yY p hp p.length (Nat.le_refl _),List.take_length,nE]
 have hle:=(List.dropWhile_suffix (· != 46) (l:=p.reverse)).length_le
 rw [List.length_reverse] at hle
 have hone : (p.reverse.dropWhile (· != 46)).length ≠ 1:=by
  intro h1
  rcases wy p with ⟨h2,_⟩ | ⟨r,h2,h3⟩
  ·cases hd : p.reverse.dropWhile (· != 46) with
   | nil => rw [hd] at h1; cases h1
   | cons x d =>
    have:=List.head?_dropWhile_not (fun y : UInt8 => y != 46) p.reverse
    rw [hd] at this
    have hx : x = 46:=by simpa using this
    have hm : x ∈ p.reverse:=List.dropWhile_subset _ (by rw [hd]; simp)
    exact h2 (hx ▸ List.mem_reverse.1 hm)
  ·rw [nE,h1] at h3
   exact hhead r (by simpa using h3)
 generalize (p.reverse.dropWhile (· != 46)).length = n at hle hone ⊢
 by_cases h : n = 0
 ·subst h; rfl
 ·rw [if_neg h]
  simp only [Jw]
  rw [decide_eq_false (by omega)]
  unfold slc
  simp only [cond_false]
  rw [if_pos ⟨by omega,by omega,by omega⟩]
  simp only [Jw,Int.toNat_zero,List.drop_zero]
  have hne : (p.take (n - 1) == []) = false:=by
   rw [beq_eq_false_iff_ne]
   intro e0
   have:=congrArg List.length e0
   rw [List.length_take,List.length_nil] at this
   omega
  have e1 : ((n : Int) - 1).toNat = n - 1:=by omega
  rw [e1,hne]
  rfl
theorem Be {c : Conf} (h : ConfOk c) (p : Str) : oy c p = some (pKids c p):=by
 have hq:=h.qs
 have e:=bS (fun (l : List Str) i => (l,i)) c.Queues (fun q => !(aV q.Path == []) && aV q.Path == p) (·.Path) (step:=kM c p) (by omega) ?_ ?_
 ·unfold oy
  rw [e,Jw]
  unfold pKids
  by_cases hp : p = []
  ·subst hp
   rw [if_pos rfl,List.filter_eq_nil_iff.2 (by simp)]
   rfl
  ·rw [if_neg hp]
   congr 2
   refine List.filter_congr fun q _ => ?_
   by_cases e1 : aV q.Path = p
   ·have : aV q.Path ≠ []:=by rw [e1]; exact hp
    rw [beq_eq_false_iff_ne.2 this]; simp
   ·rw [beq_eq_false_iff_ne.2 e1]; simp
 ·intro k hk l hl
  unfold kM
  rw [aj hk,cond_true]
  dsimp only
  rw [ai hk,Jw,EK (lE h (List.getElem_mem hk)),Jw]
  dsimp only
  cases e1 : (aV c.Queues[k].Path == []) with
  | true => simp
  | false =>
   cases e2 : (aV c.Queues[k].Path == p) with
   | false => simp
   | true =>
    simp only [Bool.not_false,cond_true,Jw,Bool.and_self,if_true]
    rw [am (by simp; omega) (by omega)]
    rfl
 ·intro l
  unfold kM
  rw [ar]
  rfl
theorem ke (n : Int) : 0 ≤ pGood n ∧ pGood n ≤ 1125899906842624:=by
 unfold pGood
 split <;> omega
theorem FU {n : Int} (h : 0 ≤ n) : pGood n ≤ n:=by
 unfold pGood
 split <;> omega
theorem pB (n : Int) : jS n = some (pGood n):=iM n
def sp1 (x : Int × Int × Int) (left : Int) : Int:=imin (imin (imin (pGood x.1) (pGood x.2.1)) (pGood x.2.2)) left
def st1 (t : List Int × Int) (x : Int × Int × Int) : List Int × Int:=(t.1 ++ [sp1 x t.2],t.2 - sp1 x t.2)
def sp2 (x : (Int × Int × Int) × Int) (left : Int) : Int:=imin (imax (imin (pGood x.1.2.1) (pGood x.1.2.2) - x.2) 0) left
def st2 (t : List Int × Int) (x : (Int × Int × Int) × Int) : List Int × Int:=(t.1 ++ [x.2 + sp2 x t.2],t.2 - sp2 x t.2)
def aD (total : Int) (l : List (Int × Int × Int)) : List Int × Int:=l.foldl st1 ([],pGood total)
def kP (total : Int) (l : List (Int × Int × Int)) : List Int:=((l.zip (aD total l).1).foldl st2 ([],(aD total l).2)).1
theorem Bb (x : Int × Int × Int) {left : Int} (h : 0 ≤ left) : 0 ≤ sp1 x left ∧ sp1 x left ≤ left ∧ sp1 x left ≤ pGood x.2.1 ∧ sp1 x left ≤ pGood x.2.2:=by
 have h1:=ke x.1
 have h2:=ke x.2.1
 have h3:=ke x.2.2
 unfold sp1 imin
 repeat' split
 all_goals omega
theorem xq (x : (Int × Int × Int) × Int) {left : Int} (h : 0 ≤ left) (h2 : x.2 ≤ pGood x.1.2.1 ∧ x.2 ≤ pGood x.1.2.2) : 0 ≤ sp2 x left ∧ sp2 x left ≤ left ∧ x.2 + sp2 x left ≤ pGood x.1.2.1 ∧ x.2 + sp2 x left ≤ pGood x.1.2.2:=by
 obtain ⟨q1,q2⟩:=h2
 unfold sp2 imin imax
 repeat' split
 all_goals omega
structure S1Ok (left0 : Int) (l : List (Int × Int × Int)) (t : List Int × Int) : Prop where
 len : t.1.length = l.length
 left : 0 ≤ t.2
 sum : t.1.sum + t.2 = left0
 bd : ∀ k (h : k < l.length) (h' : k < t.1.length),0 ≤ t.1[k] ∧ t.1[k] ≤ pGood l[k].2.1 ∧ t.1[k] ≤ pGood l[k].2.2
theorem IZ {left0 : Int} {l : List (Int × Int × Int)} {t : List Int × Int} (h : S1Ok left0 l t) (x : Int × Int × Int) : S1Ok left0 (l ++ [x]) (st1 t x):=by
 have hb:=Bb x h.left
 have hl:=h.len
 refine ⟨by simp [st1,hl],by unfold st1; dsimp only; omega,?_,?_⟩
 ·have:=h.sum
  simp only [st1,List.sum_append,List.sum_cons,List.sum_nil]
  omega
 ·intro k h1 h2
  by_cases hk : k < l.length
  ·have:=h.bd k hk (by omega)
   simp only [st1]
   rw [List.getElem_append_left (by omega),List.getElem_append_left hk]
   exact this
  ·have hk : k = l.length:=by simp at h1; omega
   subst hk
   simp only [st1]
   rw [List.getElem_append_right (by omega),List.getElem_append_right (by omega)]
   simp only [hl,Nat.sub_self,List.getElem_cons_zero]
   exact ⟨hb.1,hb.2.2.1,hb.2.2.2⟩
theorem wB {left0 : Int} : ∀ (r l : List (Int × Int × Int)) (t : List Int × Int),S1Ok left0 l t → S1Ok left0 (l ++ r) (r.foldl st1 t)
 | [],l,t,h => by simpa using h
 | x :: r,l,t,h => by
  have:=wB r (l ++ [x]) _ (IZ h x)
  simpa using this
theorem d7 (total : Int) (l : List (Int × Int × Int)) : S1Ok (pGood total) l (aD total l):=by
 have:=wB (left0:=pGood total) l [] ([],pGood total) ⟨rfl,(ke total).1,by simp,fun k h => absurd h (by simp)⟩
 simpa [aD] using this
structure S2Ok (left0 : Int) (l : List ((Int × Int × Int) × Int)) (t : List Int × Int) : Prop where
 len : t.1.length = l.length
 left : 0 ≤ t.2
 sum : t.1.sum + t.2 = left0 + (l.map (·.2)).sum
 bd : ∀ k (h : k < l.length) (h' : k < t.1.length),0 ≤ t.1[k] ∧ t.1[k] ≤ pGood l[k].1.2.1 ∧ t.1[k] ≤ pGood l[k].1.2.2
theorem Jc {left0 : Int} {l : List ((Int × Int × Int) × Int)} {t : List Int × Int} (h : S2Ok left0 l t) {x : (Int × Int × Int) × Int} (hx : 0 ≤ x.2 ∧ x.2 ≤ pGood x.1.2.1 ∧ x.2 ≤ pGood x.1.2.2) : S2Ok left0 (l ++ [x]) (st2 t x):=by
 have hb:=xq x h.left hx.2
 have hl:=h.len
 refine ⟨by simp [st2,hl],by unfold st2; dsimp only; omega,?_,?_⟩
 ·have:=h.sum
  simp only [st2,List.sum_append,List.sum_cons,List.sum_nil,List.map_append,List.map_cons,List.map_nil]
  omega
 ·intro k h1 h2
  by_cases hk : k < l.length
  ·have:=h.bd k hk (by omega)
   simp only [st2]
   rw [List.getElem_append_left (by omega),List.getElem_append_left hk]
   exact this
  ·have hk : k = l.length:=by simp at h1; omega
   subst hk
   simp only [st2]
   rw [List.getElem_append_right (by omega),List.getElem_append_right (by omega)]
   simp only [hl,Nat.sub_self,List.getElem_cons_zero]
   omega
theorem wq {left0 : Int} : ∀ (r l : List ((Int × Int × Int) × Int)) (t : List Int × Int),S2Ok left0 l t → (∀ x ∈ r,0 ≤ x.2 ∧ x.2 ≤ pGood x.1.2.1 ∧ x.2 ≤ pGood x.1.2.2) → S2Ok left0 (l ++ r) (r.foldl st2 t)
 | [],l,t,h,_ => by simpa using h
 | x :: r,l,t,h,hr => by
  have:=wq r (l ++ [x]) _ (Jc h (hr x (by simp))) (fun y hy => hr y (by simp [hy]))
  simpa using this
theorem uV (total : Int) (l : List (Int × Int × Int)) : ∀ x ∈ l.zip (aD total l).1,0 ≤ x.2 ∧ x.2 ≤ pGood x.1.2.1 ∧ x.2 ≤ pGood x.1.2.2:=by
 have h:=d7 total l
 intro x hx
 obtain ⟨k,hk,rfl⟩:=List.getElem_of_mem hx
 have hl:=h.len
 have hz : k < l.length:=by simp at hk; omega
 rw [List.getElem_zip]
 exact h.bd k hz (by omega)
theorem uT (total : Int) (l : List (Int × Int × Int)) : S2Ok (aD total l).2 (l.zip (aD total l).1) ((l.zip (aD total l).1).foldl st2 ([],(aD total l).2)):=by
 have:=wq (left0:=(aD total l).2) (l.zip (aD total l).1) [] ([],(aD total l).2) ⟨rfl,(d7 total l).left,by simp,fun k h => absurd h (by simp)⟩ (uV total l)
 simpa using this
theorem EU (total : Int) (l : List (Int × Int × Int)) : (kP total l).length = l.length:=by
 have h1:=(d7 total l).len
 have h2:=(uT total l).len
 unfold kP
 rw [h2,List.length_zip,h1,Nat.min_self]
theorem xN {α β : Type} : ∀ {l : List α} {m : List β},l.length = m.length → (l.zip m).map (·.2) = m
 | [],[],_ => rfl
 | a :: l,b :: m,h => by simp only [List.zip_cons_cons,List.map_cons]; rw [xN (by simpa using h)]
 | [],_ :: _,h => by simp at h
 | _ :: _,[],h => by simp at h
theorem D5 {total : Int} (h0 : 0 ≤ total) (l : List (Int × Int × Int)) : (kP total l).sum ≤ total:=by
 have h1:=d7 total l
 have h2:=uT total l
 have h3:=h2.sum
 rw [xN h1.len.symm] at h3
 have h4:=h1.sum
 have h5:=FU h0
 have h6:=h2.left
 show ((l.zip (aD total l).1).foldl st2 ([],(aD total l).2)).1.sum ≤ total
 omega
theorem Fm (total : Int) (l : List (Int × Int × Int)) (k : Nat) (h : k < l.length) (h' : k < (kP total l).length) : 0 ≤ (kP total l)[k] ∧ (kP total l)[k] ≤ pGood l[k].2.1:=by
 have h1:=d7 total l
 have h2:=uT total l
 have hz : k < (l.zip (aD total l).1).length:=by rw [List.length_zip,h1.len]; omega
 have:=h2.bd k hz h'
 rw [List.getElem_zip] at this
 exact ⟨this.1,this.2.1⟩
theorem se (first : Int) (l : List Int) (hl : l.length ≤ 100) : iW first l = some (l.foldl imin first):=by
 unfold iW
 have h:=aG (Q:=fun x => x = l.foldl imin first) (fun (n : Int) i => (n,i)) l.length (fun k n => n = (l.take k).foldl imin first) (step:=me l) (by omega) ?_ ?_ (s:=first) (by simp)
 ·obtain ⟨x,e,rfl⟩:=h
  rw [e,Jw]
 ·rintro k hk n rfl
  refine bz (a:=.inl ((l.take (k + 1)).foldl imin first,w64 ((k : Int) + 1))) ?_ (.inl ⟨_,rfl,rfl⟩)
  unfold me
  dsimp only
  rw [aj hk,cond_true,ai hk,Jw,List.take_succ_eq_append_getElem hk,List.foldl_append]
  rfl
 ·rintro n rfl
  refine bz (a:=.inr ((l.take l.length).foldl imin first)) ?_ ⟨_,rfl,by rw [List.take_length]⟩
  unfold me
  dsimp only
  rw [ar]
  rfl
theorem yv (a : Int) : imin a a = a:=by unfold imin; split <;> rfl
section
variable (total : Int) (l : List (Int × Int × Int))
def fs1 (k : Nat) : List Int × Int:=(l.take k).foldl st1 ([],pGood total)
def fs2 (k : Nat) : List Int × Int:=((l.zip (aD total l).1).take k).foldl st2 ([],(aD total l).2)
theorem Ah (k : Nat) : S1Ok (pGood total) (l.take k) (fs1 total l k):=by
 have:=wB (left0:=pGood total) (l.take k) [] ([],pGood total) ⟨rfl,(ke total).1,by simp,fun k h => absurd h (by simp)⟩
 simpa [fs1] using this
theorem zE {k : Nat} (hk : k < l.length) : fs1 total l (k + 1) = st1 (fs1 total l k) l[k]:=by
 unfold fs1
 rw [List.take_succ_eq_append_getElem hk,List.foldl_append]
 rfl
theorem zR (k : Nat) : S2Ok (aD total l).2 ((l.zip (aD total l).1).take k) (fs2 total l k):=by
 have:=wq (left0:=(aD total l).2) ((l.zip (aD total l).1).take k) [] ([],(aD total l).2) ⟨rfl,(d7 total l).left,by simp,fun k h => absurd h (by simp)⟩ (fun x hx => uV total l x (List.mem_of_mem_take hx))
 simpa [fs2] using this
theorem zlen : (l.zip (aD total l).1).length = l.length:=by rw [List.length_zip,(d7 total l).len,Nat.min_self]
theorem z6 {k : Nat} (hk : k < l.length) (hk' : k < (aD total l).1.length) : fs2 total l (k + 1) = st2 (fs2 total l k) (l[k],(aD total l).1[k]):=by
 have hz : k < (l.zip (aD total l).1).length:=by rw [zlen]; exact hk
 unfold fs2
 rw [List.take_succ_eq_append_getElem hz,List.foldl_append,List.getElem_zip]
 rfl
theorem wt (k : Nat) : 0 ≤ (fs1 total l k).2 ∧ (fs1 total l k).2 ≤ 1125899906842624:=by
 have h:=Ah total l k
 have h1:=h.sum
 have h2:=(ke total).2
 have h3 : 0 ≤ (fs1 total l k).1.sum:=by
  have gen : ∀ m : List Int,(∀ j (h : j < m.length),0 ≤ m[j]) → 0 ≤ m.sum:=by
   intro m
   induction m with
   | nil => intro _; simp
   | cons a m ih =>
    intro hm
    have h0:=hm 0 (by simp)
    have:=ih fun j hj => by have:=hm (j + 1) (by simp; omega); simpa using this
    simp only [List.sum_cons]
    simp only [List.getElem_cons_zero] at h0
    omega
  exact gen _ fun j hj => (h.bd j (by have:=h.len; omega) hj).1
 have:=h.left
 omega
theorem zW (k : Nat) : 0 ≤ (fs2 total l k).2 ∧ (fs2 total l k).2 ≤ 1125899906842624:=by
 have h1:=(wt total l l.length).2
 have e : fs1 total l l.length = aD total l:=by unfold fs1 aD; rw [List.take_length]
 rw [e] at h1
 refine ⟨(zR total l k).left,?_⟩
 have gen : ∀ (m : List ((Int × Int × Int) × Int)) (t : List Int × Int),0 ≤ t.2 → (∀ x ∈ m,0 ≤ x.2 ∧ x.2 ≤ pGood x.1.2.1 ∧ x.2 ≤ pGood x.1.2.2) → (m.foldl st2 t).2 ≤ t.2:=by
  intro m
  induction m with
  | nil => intro t _ _; exact Int.le_refl _
  | cons x m ih =>
   intro t ht hm
   have hb:=xq x ht (hm x (by simp)).2
   have:=ih (st2 t x) (by unfold st2; dsimp only; omega) (fun y hy => hm y (by simp [hy]))
   simp only [List.foldl_cons]
   unfold st2 at this ⊢
   dsimp only at this ⊢
   omega
 have:=gen ((l.zip (aD total l).1).take k) ([],(aD total l).2) (d7 total l).left (fun x hx => uV total l x (List.mem_of_mem_take hx))
 unfold fs2
 dsimp only at this
 omega
theorem DZ (hl : l.length ≤ 100) : cJ total (l.map (·.1)) (l.map (·.2.1)) (l.map (·.2.2)) = some (kP total l):=by
 unfold cJ
 simp only [List.length_map,yv]
 rw [iM,Jw]
 have h1:=aG (Q:=fun x => x = ((aD total l).2,(aD total l).1)) (fun (t : Int × List Int) i => (t.1,t.2,i)) l.length (fun k t => t = ((fs1 total l k).2,(fs1 total l k).1)) (step:=bu (l.map (·.1)) (l.map (·.2.1)) (l.map (·.2.2)) (l.length : Int)) (by omega) ?_ ?_ (s:=(pGood total,[])) rfl
 ·obtain ⟨x,e,rfl⟩:=h1
  rw [e,Jw]
  dsimp only
  have h2:=aG (Q:=fun x => x = kP total l) (fun (t : Int × List Int) i => (t.1,t.2,i)) l.length (fun k t => t = ((fs2 total l k).2,(fs2 total l k).1 ++ (aD total l).1.drop k)) (step:=bw (l.map (·.2.1)) (l.map (·.2.2)) (l.length : Int)) (by omega) ?_ ?_ (s:=((aD total l).2,(aD total l).1)) (by simp [fs2])
  ·obtain ⟨x,e,rfl⟩:=h2
   rw [e,Jw]
  ·rintro k hk t rfl
   have hp:=(d7 total l).len
   have hk' : k < (aD total l).1.length:=by omega
   have hlen:=(zR total l k).len
   rw [List.length_take,zlen] at hlen
   have hL:=zW total l k
   have hz:=uV total l (l[k],(aD total l).1[k]) (by
    have : k < (l.zip (aD total l).1).length:=by rw [zlen]; exact hk
    have e : (l.zip (aD total l).1)[k] = (l[k],(aD total l).1[k]):=List.getElem_zip
    rw [← e]; exact List.getElem_mem this)
   have hb:=xq (l[k],(aD total l).1[k]) hL.1 hz.2
   dsimp only at hb hz
   have g1:=ke l[k].2.1
   have g2:=ke l[k].2.2
   have hm : 0 ≤ imin (pGood l[k].2.1) (pGood l[k].2.2) ∧ imin (pGood l[k].2.1) (pGood l[k].2.2) ≤ 1125899906842624:=by unfold imin; split <;> omega
   have hget : ((fs2 total l k).1 ++ (aD total l).1.drop k)[k]? = some (aD total l).1[k]:=by
    rw [List.getElem?_append_right (by omega),show k - (fs2 total l k).1.length = 0 by omega,List.getElem?_drop,Nat.add_zero,Jx hk']
   have hlen2 : k < ((fs2 total l k).1 ++ (aD total l).1.drop k).length:=by simp; omega
   have hset : ∀ v : Int,List.set ((fs2 total l k).1 ++ (aD total l).1.drop k) k v = (fs2 total l k).1 ++ [v] ++ (aD total l).1.drop (k + 1):=by
    intro v
    rw [List.set_append_right _ _ (by omega),show k - (fs2 total l k).1.length = 0 by omega,List.drop_eq_getElem_cons hk',List.set_cons_zero]
    simp
   refine bz (a:=.inl ((fs2 total l (k + 1)).2,(fs2 total l (k + 1)).1 ++ (aD total l).1.drop (k + 1),w64 ((k : Int) + 1))) ?_ (.inl ⟨(_,_),rfl,rfl⟩)
   unfold bw
   dsimp only
   rw [aj hk,cond_true,ai (by simpa using hk),Jw,iM,Jw,ai (by simpa using hk),Jw,iM,Jw]
   simp only [aM hlen2,Jw,hget,List.getElem_map,hset]
   rw [z6 total l hk hk',ao (x:=imin _ _ - _) (by omega) (by omega)]
   have esp : imin (imax (imin (pGood l[k].2.1) (pGood l[k].2.2) - (aD total l).1[k]) 0) (fs2 total l k).2 = sp2 (l[k],(aD total l).1[k]) (fs2 total l k).2:=rfl
   rw [esp,ao (x:=(fs2 total l k).2 - _) (by omega) (by omega),ao (x:=(aD total l).1[k] + _) (by omega) (by omega)]
   rfl
  ·rintro t rfl
   have hp:=(d7 total l).len
   refine bz (a:=.inr ((fs2 total l l.length).1 ++ (aD total l).1.drop l.length)) ?_ ⟨_,rfl,?_⟩
   ·unfold bw
    dsimp only
    rw [ar]
    rfl
   ·rw [← hp,List.drop_length,List.append_nil,hp]
    unfold fs2 kP
    rw [List.take_of_length_le (by rw [zlen]; exact Nat.le_refl _)]
 ·rintro k hk t rfl
  have hL:=wt total l k
  have hb:=Bb l[k] hL.1
  have hlen:=(Ah total l k).len
  rw [List.length_take] at hlen
  refine bz (a:=.inl ((fs1 total l (k + 1)).2,(fs1 total l (k + 1)).1,w64 ((k : Int) + 1))) ?_ (.inl ⟨(_,_),rfl,rfl⟩)
  unfold bu
  dsimp only
  rw [aj hk,cond_true,ai (by simpa using hk),Jw,iM,Jw,ai (by simpa using hk),Jw,iM,Jw,ai (by simpa using hk),Jw,iM,Jw,am (by simp; omega) (by omega),Jw]
  simp only [List.getElem_map]
  have esp : imin (imin (imin (pGood l[k].1) (pGood l[k].2.1)) (pGood l[k].2.2)) (fs1 total l k).2 = sp1 l[k] (fs1 total l k).2:=rfl
  rw [zE total l hk,esp,ao (by omega) (by omega)]
  rfl
 ·rintro t rfl
  refine bz (a:=.inr ((fs1 total l l.length).2,(fs1 total l l.length).1)) ?_ ⟨_,rfl,?_⟩
  ·unfold bu
   dsimp only
   rw [ar]
   rfl
  ·unfold fs1 aD
   rw [List.take_length]
theorem Ez (hl : l.length ≤ 100) : nG total (l.map (·.1)) (l.map (·.2.1)) (l.map (·.2.2)) = some (kP total l):=by
 unfold nG
 rw [se _ _ (by simp),Jw]
 simp only [List.length_map,List.foldl_cons,List.foldl_nil,yv]
 have e0 : mkl 8 (l.length : Int) (l.length : Int) (0 : Int) = some (List.replicate l.length 0):=by
  unfold mkl
  rw [if_pos ⟨by omega,by omega,by unfold maxLen; omega,by omega⟩]
  simp
 rw [e0,Jw,pB,Jw]
 have h1:=aG (Q:=fun x => x = aD total l) (fun (t : List Int × Int) i => (t.1,t.2,i)) l.length (fun k t => t = ((fs1 total l k).1 ++ List.replicate (l.length - k) 0,(fs1 total l k).2)) (step:=mQ (l.map (·.1)) (l.map (·.2.1)) (l.map (·.2.2)) (l.length : Int)) (by omega) ?_ ?_ (s:=(List.replicate l.length 0,pGood total)) (by simp [fs1])
 ·obtain ⟨x,e,rfl⟩:=h1
  rw [e,Jw]
  have h2:=aG (Q:=fun x => x = kP total l) (fun (t : List Int × Int) i => (t.1,t.2,i)) l.length (fun k t => t = ((fs2 total l k).1 ++ (aD total l).1.drop k,(fs2 total l k).2)) (step:=mW (l.map (·.2.1)) (l.map (·.2.2)) (l.length : Int)) (by omega) ?_ ?_ (s:=aD total l) (by simp [fs2])
  ·obtain ⟨x,e,rfl⟩:=h2
   rw [e,Jw]
  ·rintro k hk t rfl
   have hp:=(d7 total l).len
   have hk' : k < (aD total l).1.length:=by omega
   have hlen:=(zR total l k).len
   rw [List.length_take,zlen] at hlen
   have hL:=zW total l k
   have hz:=uV total l (l[k],(aD total l).1[k]) (by
    have : k < (l.zip (aD total l).1).length:=by rw [zlen]; exact hk
    have e : (l.zip (aD total l).1)[k] = (l[k],(aD total l).1[k]):=List.getElem_zip
    rw [← e]; exact List.getElem_mem this)
   have hb:=xq (l[k],(aD total l).1[k]) hL.1 hz.2
   dsimp only at hb hz
   have g1:=ke l[k].2.1
   have g2:=ke l[k].2.2
   have hm : 0 ≤ imin (pGood l[k].2.1) (pGood l[k].2.2) ∧ imin (pGood l[k].2.1) (pGood l[k].2.2) ≤ 1125899906842624:=by unfold imin; split <;> omega
   have hget : ((fs2 total l k).1 ++ (aD total l).1.drop k)[k]? = some (aD total l).1[k]:=by
    rw [List.getElem?_append_right (by omega),show k - (fs2 total l k).1.length = 0 by omega,List.getElem?_drop,Nat.add_zero,Jx hk']
   have hlen2 : k < ((fs2 total l k).1 ++ (aD total l).1.drop k).length:=by simp; omega
   have hset : ∀ v : Int,List.set ((fs2 total l k).1 ++ (aD total l).1.drop k) k v = (fs2 total l k).1 ++ [v] ++ (aD total l).1.drop (k + 1):=by
    intro v
    rw [List.set_append_right _ _ (by omega),show k - (fs2 total l k).1.length = 0 by omega,List.drop_eq_getElem_cons hk',List.set_cons_zero]
    simp
   refine bz (a:=.inl ((fs2 total l (k + 1)).1 ++ (aD total l).1.drop (k + 1),(fs2 total l (k + 1)).2,w64 ((k : Int) + 1))) ?_ (.inl ⟨(_,_),rfl,rfl⟩)
   unfold mW
   dsimp only
   rw [aj hk,cond_true,ai (by simpa using hk),Jw,pB,Jw,ai (by simpa using hk),Jw,pB,Jw,se _ _ (by simp),Jw]
   simp only [aM hlen2,Jw,hget,List.getElem_map,hset,List.foldl_cons,List.foldl_nil]
   rw [se _ _ (by simp),Jw]
   simp only [List.foldl_cons,List.foldl_nil]
   rw [z6 total l hk hk',ao (x:=imin _ _ - _) (by omega) (by omega)]
   have esp : imin (imax (imin (pGood l[k].2.1) (pGood l[k].2.2) - (aD total l).1[k]) 0) (fs2 total l k).2 = sp2 (l[k],(aD total l).1[k]) (fs2 total l k).2:=rfl
   rw [esp,ao (x:=(fs2 total l k).2 - _) (by omega) (by omega),ao (x:=(aD total l).1[k] + _) (by omega) (by omega)]
   rfl
  ·rintro t rfl
   have hp:=(d7 total l).len
   refine bz (a:=.inr ((fs2 total l l.length).1 ++ (aD total l).1.drop l.length)) ?_ ⟨_,rfl,?_⟩
   ·unfold mW
    dsimp only
    rw [ar]
    rfl
   ·rw [← hp,List.drop_length,List.append_nil,hp]
    unfold fs2 kP
    rw [List.take_of_length_le (by rw [zlen]; exact Nat.le_refl _)]
 ·rintro k hk t rfl
  have hL:=wt total l k
  have hb:=Bb l[k] hL.1
  have hlen:=(Ah total l k).len
  rw [List.length_take] at hlen
  have hr : List.replicate (l.length - k) (0 : Int) = 0 :: List.replicate (l.length - (k + 1)) 0:=by
   rw [show l.length - k = (l.length - (k + 1)) + 1 by omega,List.replicate_succ]
  have hlen2 : k < ((fs1 total l k).1 ++ List.replicate (l.length - k) (0 : Int)).length:=by simp; omega
  have hset : ∀ v : Int,List.set ((fs1 total l k).1 ++ List.replicate (l.length - k) (0 : Int)) k v = (fs1 total l k).1 ++ [v] ++ List.replicate (l.length - (k + 1)) 0:=by
   intro v
   rw [List.set_append_right _ _ (by omega),show k - (fs1 total l k).1.length = 0 by omega,hr,List.set_cons_zero]
   simp
  have hget : ∀ v : Int,((fs1 total l k).1 ++ [v] ++ List.replicate (l.length - (k + 1)) (0 : Int))[k]? = some v:=by
   intro v
   rw [List.append_assoc,List.getElem?_append_right (by omega),show k - (fs1 total l k).1.length = 0 by omega]
   rfl
  have hlen3 : ∀ v : Int,k < ((fs1 total l k).1 ++ [v] ++ List.replicate (l.length - (k + 1)) (0 : Int)).length:=by intro v; simp; omega
  refine bz (a:=.inl ((fs1 total l (k + 1)).1 ++ List.replicate (l.length - (k + 1)) 0,(fs1 total l (k + 1)).2,w64 ((k : Int) + 1))) ?_ (.inl ⟨(_,_),rfl,rfl⟩)
  unfold mQ
  dsimp only
  rw [aj hk,cond_true,ai (by simpa using hk),Jw,pB,Jw,ai (by simpa using hk),Jw,pB,Jw,ai (by simpa using hk),Jw,pB,Jw,se _ _ (by simp),Jw,aM hlen2,Jw,Jx hlen2,Jw]
  simp only [hset,aM (hlen3 _),Jw,hget,List.getElem_map,List.foldl_cons,List.foldl_nil]
  have esp : imin (imin (imin (pGood l[k].1) (pGood l[k].2.1)) (pGood l[k].2.2)) (fs1 total l k).2 = sp1 l[k] (fs1 total l k).2:=rfl
  rw [zE total l hk,esp,ao (by omega) (by omega)]
  rfl
 ·rintro t rfl
  refine bz (a:=.inr ((fs1 total l l.length).1 ++ List.replicate (l.length - l.length) 0,(fs1 total l l.length).2)) ?_ ⟨_,rfl,?_⟩
  ·unfold mQ
   dsimp only
   rw [ar]
   rfl
  ·unfold fs1 aD
   simp
end
def pWant (s : State) (label : Int) (x : Str) : Int × Int × Int:=((pDown s x label true).Mem,(pUsed s x label true 0).Mem + (gG s x label).Mem,(pDown s x label false).Mem)
def bn (s : State) (label mem : Int) (kids : List Str) : List Int:=kP mem (kids.map (pWant s label))
def pI : Nat → State → Str → Int → Int → List Share
 | 0,s,path,label,mem => [⟨path,mem⟩]
 | d + 1,s,path,label,mem => if (pKids s.Conf path).isEmpty then [⟨path,mem⟩] else ((pKids s.Conf path).zip (bn s label mem (pKids s.Conf path))).flatMap fun x => pI d s x.1 label x.2
theorem qh (s : State) (label mem : Int) (kids : List Str) : (bn s label mem kids).length = kids.length:=by
 unfold bn
 rw [EU,List.length_map]
theorem tU (s : State) (label mem : Int) (kids : List Str) : (kids.zip (bn s label mem kids)).length = kids.length:=by rw [List.length_zip,qh,Nat.min_self]
theorem mA {α β : Type} (f : α → List β) (n : Nat) : ∀ (l : List α),(∀ x ∈ l,(f x).length ≤ n) → (l.flatMap f).length ≤ l.length * n
 | [],_ => by simp
 | a :: l,h => by
  have h1:=h a (by simp)
  have h2:=mA f n l fun x hx => h x (by simp [hx])
  rw [List.flatMap_cons,Jz,List.length_cons,Nat.succ_mul]
  omega
theorem sX (s : State) (label : Int) : ∀ (d : Nat) (path : Str) (mem : Int),(pKids s.Conf path).length ≤ 16 → (∀ p,(pKids s.Conf p).length ≤ 16) → (pI d s path label mem).length ≤ 16 ^ d
 | 0,path,mem,_,_ => by simp [pI]
 | d + 1,path,mem,hk,ha => by
  unfold pI
  split
  ·simp; exact Nat.one_le_pow _ _ (by omega)
  ·refine Nat.le_trans (mA _ (16 ^ d) _ fun x _ => sX s label d x.1 x.2 (ha _) ha) ?_
   rw [tU,Nat.pow_succ,Nat.mul_comm (16 ^ d)]
   exact Nat.mul_le_mul_right _ hk
theorem lJ {N : Nat} {s : State} (h : Inv N s) (p : Str) : (pKids s.Conf p).length ≤ 16:=by
 have:=oz s.Conf p
 have:=h.cf.qs
 omega
theorem u9 {N : Nat} {s : State} (h : Inv N s) {path x : Str} (hx : x ∈ pKids s.Conf path) : PathOk x ∧ x.count 46 = path.count 46 + 1 ∧ (pFind s.Conf x).isSome = true:=by
 obtain ⟨hp,q,hq',rfl,ha⟩:=d5 hx
 obtain ⟨q',e,_⟩:=pz hq'
 exact ⟨lE h.cf hq',kg hp ha,by rw [e]; rfl⟩
theorem CM {N : Nat} {s : State} (h : Inv N s) {path : Str} (hc : 3 ≤ path.count 46) : pKids s.Conf path = []:=by
 cases hk : pKids s.Conf path with
 | nil => rfl
 | cons x l =>
  obtain ⟨h1,h2,_⟩:=u9 h (path:=path) (x:=x) (by rw [hk]; simp)
  have:=h1.deep
  omega
theorem vE {N : Nat} {s : State} (h : Inv N s) (label : Int) (x : Str) : (0 ≤ (pUsed s x label true 0).Mem ∧ (pUsed s x label true 0).Mem ≤ 214748364800) ∧ 0 ≤ (gG s x label).Mem ∧ (gG s x label).Mem ≤ 6871947673600:=by
 have h1:=xW h.sb x label true 0
 have h2:=Ds h x label
 have hcl:=h.cl
 unfold VB at h1 h2
 omega
theorem Gw {N : Nat} {s : State} (h : Inv N s) (label : Int) : ∀ (d n : Nat) (path : Str) (mem : Int),3 ≤ path.count 46 + d → d ≤ n → d ≤ 3 →
  aU (n + 1) s path label mem = some (pI d s path label mem):=by
 have hsc:=h.sc
 have hq:=h.cf.qs
 intro d
 induction d with
 | zero =>
  intro n path mem hc _ _
  show be _ s path label mem = _
  unfold be
  rw [ot h.cf.small,Jw,CM h (by omega)]
  rfl
 | succ d ih =>
  intro n path mem hc hn hd3
  obtain ⟨n,rfl⟩ : ∃ m,n = m + 1:=⟨n - 1,by omega⟩
  have hkl:=lJ h path
  have hkf:=fun x hx => u9 h (path:=path) (x:=x) hx
  show be (aU (n + 1)) s path label mem = _
  unfold be pI
  rw [ot h.cf.small,Jw]
  generalize hK : pKids s.Conf path = kids at hkl hkf
  cases hkn : kids with
  | nil => rfl
  | cons k0 kr =>
   rw [← hkn]
   have hne : kids.length ≠ 0:=by rw [hkn]; simp
   have hz : ((kids.length : Int) == 0) = false:=by rw [beq_eq_false_iff_ne]; omega
   have hz2 : kids.isEmpty = false:=by rw [hkn]; rfl
   rw [hz,cond_false,hz2,if_neg (by simp)]
   have hw : ∀ k (hk : k < kids.length),w64 ((pUsed s kids[k] label true 0).Mem + (gG s kids[k] label).Mem) = (pUsed s kids[k] label true 0).Mem + (gG s kids[k] label).Mem:=fun k hk => by
    have:=vE h label kids[k]
    exact ao (by omega) (by omega)
   have h1:=aG (Q:=fun x => x = ((kids.map (pWant s label)).map (·.1),(kids.map (pWant s label)).map (·.2.1),(kids.map (pWant s label)).map (·.2.2))) (fun (t : List Int × List Int × List Int) i => (t.1,t.2.1,t.2.2,i)) kids.length (fun k t => t = (((kids.take k).map (pWant s label)).map (·.1),((kids.take k).map (pWant s label)).map (·.2.1),((kids.take k).map (pWant s label)).map (·.2.2))) (step:=bh s label kids) (by omega) ?_ ?_ (s:=([],[],[])) (by simp)
   ·obtain ⟨x,e,rfl⟩:=h1
    rw [e,Jw]
    dsimp only
    rw [DZ mem (kids.map (pWant s label)) (by rw [List.length_map]; omega),Jw]
    have hpl:=qh s label mem kids
    have hzl:=tU s label mem kids
    have h2:=aG (Q:=fun x => x = (kids.zip (bn s label mem kids)).flatMap fun x => pI d s x.1 label x.2) (fun (t : List Share) i => (t,i)) kids.length (fun k t => t = ((kids.zip (bn s label mem kids)).take k).flatMap fun x => pI d s x.1 label x.2) (step:=a_ s label (aU (n + 1)) kids (bn s label mem kids)) (by omega) ?_ ?_ (s:=[]) (by simp)
    ·obtain ⟨x,e,rfl⟩:=h2
     show ((loop (a_ s label (aU (n + 1)) kids (bn s label mem kids)) ([],0)).bind fun out => some out) = _
     rw [e]
     rfl
    ·rintro k hk t rfl
     have hk2 : k < (bn s label mem kids).length:=by omega
     have hkz : k < (kids.zip (bn s label mem kids)).length:=by omega
     obtain ⟨f1,f2,f3⟩:=hkf kids[k] (List.getElem_mem hk)
     have hpow : 16 ^ d ≤ 16 ^ 3:=Nat.pow_le_pow_right (by omega) (by omega)
     have b1:=sX s label d kids[k] (bn s label mem kids)[k] (lJ h _) (lJ h)
     have b2:=mA (fun x : Str × Int => pI d s x.1 label x.2) (16 ^ d) ((kids.zip (bn s label mem kids)).take k) fun x _ => sX s label d x.1 x.2 (lJ h _) (lJ h)
     have b3 : ((kids.zip (bn s label mem kids)).take k).length * 16 ^ d ≤ 16 * 16 ^ 3:=Nat.mul_le_mul (by rw [List.length_take]; omega) hpow
     refine bz (a:=.inl (((kids.zip (bn s label mem kids)).take (k + 1)).flatMap (fun x => pI d s x.1 label x.2),w64 ((k : Int) + 1))) ?_ (.inl ⟨_,rfl,rfl⟩)
     unfold a_
     dsimp only
     rw [aj hk,cond_true,aM hk,Jw,Jx hk,Jw,aM hk2,Jw,Jx hk2,Jw,ih n kids[k] _ (by omega) (by omega) (by omega),Jw,am (by omega) (by omega),Jw,
      List.take_succ_eq_append_getElem hkz,List.flatMap_append,List.getElem_zip]
     simp
    ·rintro t rfl
     refine bz (a:=.inr (((kids.zip (bn s label mem kids)).take kids.length).flatMap fun x => pI d s x.1 label x.2)) ?_ ⟨_,rfl,by rw [List.take_of_length_le (by omega)]⟩
     unfold a_
     dsimp only
     rw [ar]
     rfl
   ·rintro k hk t rfl
    obtain ⟨f1,f2,f3⟩:=hkf kids[k] (List.getElem_mem hk)
    have hlen : kids[k].length ≤ 1000000:=by have:=f1.len; omega
    refine bz (a:=.inl (((kids.take (k + 1)).map (pWant s label)).map (·.1),((kids.take (k + 1)).map (pWant s label)).map (·.2.1),((kids.take (k + 1)).map (pWant s label)).map (·.2.2),w64 ((k : Int) + 1))) ?_ (.inl ⟨(_,_,_),rfl,rfl⟩)
    unfold bh
    dsimp only
    rw [aj hk,cond_true]
    simp only [aM hk,Jw,Jx hk]
    rw [mI hsc hlen,Jw,am (by simp; omega) (by omega),Jw,yi hsc hlen,Jw,am (by simp; omega) (by omega),Jw,jw h.sb,Jw,
     tY h,Jw,am (by simp; omega) (by omega),Jw,hw k hk,List.take_succ_eq_append_getElem hk]
    simp only [List.map_append,List.map_cons,List.map_nil]
    rfl
   ·rintro t rfl
    refine bz (a:=.inr (((kids.take kids.length).map (pWant s label)).map (·.1),((kids.take kids.length).map (pWant s label)).map (·.2.1),((kids.take kids.length).map (pWant s label)).map (·.2.2))) ?_ ⟨_,rfl,by rw [List.take_length]⟩
    unfold bh
    dsimp only
    rw [ar]
    rfl
theorem z_ {a b n : Nat} (h1 : a ≤ b) (h2 : b ≤ n) : inS (a : Int) (b : Int) n = some (a,b - a):=by
 unfold inS
 rw [if_pos ⟨by omega,by omega,by omega⟩]
 simp
theorem IR (l : List Int) (k : Nat) (n : Nat) (hk : k < l.length) (hn : 0 < n) (v : Int) : cpy l k n [v] = l.take k ++ [v] ++ l.drop (k + 1):=by
 unfold cpy
 obtain ⟨m,rfl⟩ : ∃ m,n = m + 1:=⟨n - 1,by omega⟩
 simp
theorem E1 {N : Nat} {s : State} (h : Inv N s) {label : Int} (hl0 : 0 ≤ label) (hl1 : label < s.Conf.Labels.length) : ∀ (d n : Nat) (path : Str) (mem deep : Int),3 ≤ path.count 46 + d → d ≤ n → d ≤ 3 → deep + d = 4 →
  cg (n + 1) s path label mem deep = some (pI d s path label mem):=by
 have hsc:=h.sc
 have hq:=h.cf.qs
 intro d
 induction d with
 | zero =>
  intro n path mem deep hc _ _ hdp
  show gK _ s path label mem deep = _
  unfold gK
  rw [Be h.cf,Jw,CM h (by omega)]
  rfl
 | succ d ih =>
  intro n path mem deep hc hn hd3 hdp
  obtain ⟨n,rfl⟩ : ∃ m,n = m + 1:=⟨n - 1,by omega⟩
  have hkl:=lJ h path
  have hkf:=fun x hx => u9 h (path:=path) (x:=x) hx
  show gK (cg (n + 1)) s path label mem deep = _
  unfold gK pI
  rw [Be h.cf,Jw]
  generalize hK : pKids s.Conf path = kids at hkl hkf
  cases hkn : kids with
  | nil => rfl
  | cons k0 kr =>
   rw [← hkn]
   have hne : kids.length ≠ 0:=by rw [hkn]; simp
   have hz : ((kids.length : Int) == 0) = false:=by rw [beq_eq_false_iff_ne]; omega
   have hz2 : kids.isEmpty = false:=by rw [hkn]; rfl
   rw [hz,cond_false,decide_eq_false (by omega),Jw,cond_false,hz2,if_neg (by simp)]
   have hw : ∀ k (hk : k < kids.length),w64 ((pUsed s kids[k] label true 0).Mem + (gG s kids[k] label).Mem) = (pUsed s kids[k] label true 0).Mem + (gG s kids[k] label).Mem:=fun k hk => by
    have:=vE h label kids[k]
    exact ao (by omega) (by omega)
   have e0 : mkl 8 (kids.length : Int) (kids.length : Int) (0 : Int) = some (List.replicate kids.length 0):=by
    unfold mkl
    rw [if_pos ⟨by omega,by omega,by unfold maxLen; omega,by omega⟩]
    simp
   rw [e0,Jw,Jw,Jw]
   have h1:=aG (Q:=fun x => x = (⟨(kids.map (pWant s label)).map (·.1),(kids.map (pWant s label)).map (·.2.1),(kids.map (pWant s label)).map (·.2.2)⟩ : Rows3_ListInt)) (fun (t : Rows3_ListInt) i => (t,i)) kids.length
    (fun k t => t = ⟨((kids.take k).map (pWant s label)).map (·.1) ++ List.replicate (kids.length - k) 0,((kids.take k).map (pWant s label)).map (·.2.1) ++ List.replicate (kids.length - k) 0,((kids.take k).map (pWant s label)).map (·.2.2) ++ List.replicate (kids.length - k) 0⟩)
    (step:=iV s label kids) (by omega) ?_ ?_ (s:=⟨List.replicate kids.length 0,List.replicate kids.length 0,List.replicate kids.length 0⟩) (by simp)
   ·obtain ⟨x,e,rfl⟩:=h1
    rw [e,Jw]
    dsimp only
    rw [Ez mem (kids.map (pWant s label)) (by rw [List.length_map]; omega),Jw]
    have hpl:=qh s label mem kids
    have hzl:=tU s label mem kids
    have h2:=aG (Q:=fun x => x = (kids.zip (bn s label mem kids)).flatMap fun x => pI d s x.1 label x.2) (fun (t : List Share) i => (t,i)) kids.length (fun k t => t = ((kids.zip (bn s label mem kids)).take k).flatMap fun x => pI d s x.1 label x.2) (step:=eR s label deep (cg (n + 1)) kids (bn s label mem kids)) (by omega) ?_ ?_ (s:=[]) (by simp)
    ·obtain ⟨x,e,rfl⟩:=h2
     show ((loop (eR s label deep (cg (n + 1)) kids (bn s label mem kids)) ([],0)).bind fun out => some out) = _
     rw [e]
     rfl
    ·rintro k hk t rfl
     have hk2 : k < (bn s label mem kids).length:=by omega
     have hkz : k < (kids.zip (bn s label mem kids)).length:=by omega
     obtain ⟨f1,f2,f3⟩:=hkf kids[k] (List.getElem_mem hk)
     have hpow : 16 ^ d ≤ 16 ^ 3:=Nat.pow_le_pow_right (by omega) (by omega)
     have b1:=sX s label d kids[k] (bn s label mem kids)[k] (lJ h _) (lJ h)
     have b2:=mA (fun x : Str × Int => pI d s x.1 label x.2) (16 ^ d) ((kids.zip (bn s label mem kids)).take k) fun x _ => sX s label d x.1 x.2 (lJ h _) (lJ h)
     have b3 : ((kids.zip (bn s label mem kids)).take k).length * 16 ^ d ≤ 16 * 16 ^ 3:=Nat.mul_le_mul (by rw [List.length_take]; omega) hpow
     refine bz (a:=.inl (((kids.zip (bn s label mem kids)).take (k + 1)).flatMap (fun x => pI d s x.1 label x.2),w64 ((k : Int) + 1))) ?_ (.inl ⟨_,rfl,rfl⟩)
     unfold eR
     dsimp only
     have hd4 : w64 (deep + 1) = deep + 1:=ao (by omega) (by omega)
     rw [hpl,aj hk,cond_true,aM hk,Jw,Jx hk2,Jw,Jw,Jx hk,Jw,hd4,ih n kids[k] _ _ (by omega) (by omega) (by omega) (by omega),Jw,am (by omega) (by omega),Jw,
      List.take_succ_eq_append_getElem hkz,List.flatMap_append,List.getElem_zip]
     simp
    ·rintro t rfl
     refine bz (a:=.inr (((kids.zip (bn s label mem kids)).take kids.length).flatMap fun x => pI d s x.1 label x.2)) ?_ ⟨_,rfl,by rw [List.take_of_length_le (by omega)]⟩
     unfold eR
     dsimp only
     rw [hpl,ar]
     rfl
   ·rintro k hk t rfl
    obtain ⟨f1,f2,f3⟩:=hkf kids[k] (List.getElem_mem hk)
    have hlen : kids[k].length ≤ 1000000:=by have:=f1.len; omega
    have hr : List.replicate (kids.length - k) (0 : Int) = 0 :: List.replicate (kids.length - (k + 1)) 0:=by
     rw [show kids.length - k = (kids.length - (k + 1)) + 1 by omega,List.replicate_succ]
    have row : ∀ (f : Int × Int × Int → Int) (v : Int),cpy (((kids.take k).map (pWant s label)).map f ++ List.replicate (kids.length - k) 0) k (kids.length - k) [v] = ((kids.take k).map (pWant s label)).map f ++ [v] ++ List.replicate (kids.length - (k + 1)) 0:=by
     intro f v
     have hl : (((kids.take k).map (pWant s label)).map f).length = k:=by simp; omega
     rw [IR _ _ _ (by simp; omega) (by omega),List.take_append_of_le_length (by omega),List.take_of_length_le (by omega),List.drop_append,hl,List.drop_of_length_le (by omega),hr]
     simp
    have hlr : ∀ (f : Int × Int × Int → Int),(((kids.take k).map (pWant s label)).map f ++ List.replicate (kids.length - k) (0 : Int)).length = kids.length:=by intro f; simp; omega
    refine bz (a:=.inl (⟨((kids.take (k + 1)).map (pWant s label)).map (·.1) ++ List.replicate (kids.length - (k + 1)) 0,((kids.take (k + 1)).map (pWant s label)).map (·.2.1) ++ List.replicate (kids.length - (k + 1)) 0,((kids.take (k + 1)).map (pWant s label)).map (·.2.2) ++ List.replicate (kids.length - (k + 1)) 0⟩,w64 ((k : Int) + 1))) ?_ (.inl ⟨_,rfl,rfl⟩)
    unfold iV
    dsimp only
    rw [aj hk,cond_true,aM hk,Jw,Jx hk,Jw,yV hsc hlen hl0 hl1,Jw,tv h hlen,Jw,vW h hlen,Jw,F2 hsc hlen hl0 hl1,Jw,hw k hk]
    simp only [hlr,z_ (show k ≤ kids.length by omega) (Nat.le_refl _),Jw]
    have s0 : ∀ a b c : Int,inS 0 1 [a,b,c].length = some (0,1):=fun _ _ _ => rfl
    have s1 : ∀ a b c : Int,inS 1 2 [a,b,c].length = some (1,1):=fun _ _ _ => rfl
    have s2 : ∀ a b c : Int,inS 2 3 [a,b,c].length = some (2,1):=fun _ _ _ => rfl
    have u0 : ∀ a b c : Int,sub [a,b,c] 0 1 = [a]:=fun _ _ _ => rfl
    have u1 : ∀ a b c : Int,sub [a,b,c] 1 1 = [b]:=fun _ _ _ => rfl
    have u2 : ∀ a b c : Int,sub [a,b,c] 2 1 = [c]:=fun _ _ _ => rfl
    simp only [s0,s1,s2,Jw,u0,u1,u2,row]
    rw [List.take_succ_eq_append_getElem hk]
    simp only [List.map_append,List.map_cons,List.map_nil]
    rfl
   ·rintro t rfl
    refine bz (a:=.inr ⟨((kids.take kids.length).map (pWant s label)).map (·.1) ++ List.replicate (kids.length - kids.length) 0,((kids.take kids.length).map (pWant s label)).map (·.2.1) ++ List.replicate (kids.length - kids.length) 0,((kids.take kids.length).map (pWant s label)).map (·.2.2) ++ List.replicate (kids.length - kids.length) 0⟩) ?_ ⟨_,rfl,by simp⟩
    unfold iV
    dsimp only
    rw [ar]
    rfl
theorem rY : ∀ a : Str,Op.bytesLess a a = false
 | [] => rfl
 | x :: a => by
  unfold Op.bytesLess
  rw [rY a]
  have : ¬ x < x:=by rw [UInt8.lt_iff_toNat_lt]; omega
  simp [this]
theorem wx : ∀ {a b c : Str},Op.bytesLess a b = true → Op.bytesLess b c = true → Op.bytesLess a c = true
 | _,[],_,h,_ => by simp [Op.bytesLess] at h
 | _,_ :: _,[],_,h => by simp [Op.bytesLess] at h
 | [],y :: b,z :: c,_,_ => by simp [Op.bytesLess]
 | x :: a,y :: b,z :: c,h1,h2 => by
  unfold Op.bytesLess at *
  simp only [Bool.or_eq_true,decide_eq_true_eq,Bool.and_eq_true,beq_iff_eq] at *
  simp only [UInt8.lt_iff_toNat_lt] at *
  rcases h1 with h1 | ⟨rfl,h1⟩
  ·rcases h2 with h2 | ⟨rfl,h2⟩
   ·left; omega
   ·left; exact h1
  ·rcases h2 with h2 | ⟨rfl,h2⟩
   ·left; exact h2
   ·right; exact ⟨rfl,wx h1 h2⟩
theorem A_ : ∀ {a b : Str},Op.bytesLess a b = false → a ≠ b → Op.bytesLess b a = true
 | [],[],_,h => absurd rfl h
 | [],_ :: _,h,_ => by simp [Op.bytesLess] at h
 | _ :: _,[],_,_ => by simp [Op.bytesLess]
 | x :: a,y :: b,h,hn => by
  unfold Op.bytesLess at *
  simp only [Bool.or_eq_false_iff,decide_eq_false_iff_not,Bool.and_eq_false_iff,beq_eq_false_iff_ne,Bool.or_eq_true,decide_eq_true_eq,Bool.and_eq_true,beq_iff_eq] at *
  simp only [UInt8.lt_iff_toNat_lt] at *
  by_cases hx : x = y
  ·subst hx
   right
   refine ⟨rfl,A_ ?_ (fun e => hn (by rw [e]))⟩
   rcases h.2 with h | h
   ·exact absurd rfl h
   ·exact h
  ·left
   have : x.toNat ≠ y.toNat:=fun e => hx (UInt8.toNat_inj.1 e)
   omega
theorem Do {c : Conf} (h : ConfOk c) : (c.Queues.map (·.Path)).Pairwise fun x y => Op.bytesLess x y = true:=by
 have hn : ∀ j (hj : j + 1 < c.Queues.length),Op.bytesLess c.Queues[j].Path c.Queues[j + 1].Path = true:=by
  intro j hj
  have:=(h.q (j + 1) hj).less c.Queues[j] (by omega) (by simp)
  unfold strLe at this
  rw [Bool.or_eq_false_iff,beq_eq_false_iff_ne] at this
  exact A_ this.1 this.2
 have key : ∀ j i (hij : i < j) (hj : j < c.Queues.length),Op.bytesLess (c.Queues[i]'(by omega)).Path c.Queues[j].Path = true:=by
  intro j
  induction j with
  | zero => intro i hij; omega
  | succ j ih =>
   intro i hij hj
   by_cases he : i = j
   ·subst he; exact hn i hj
   ·exact wx (ih i (by omega) (by omega)) (hn j hj)
 rw [List.pairwise_iff_getElem]
 intro i j hi hj hij
 rw [List.getElem_map,List.getElem_map]
 exact key j i hij (by simpa using hj)
def Ext (p x : Str) : Prop:=x = p ∨ ∃ r,x = p ++ 46 :: r
theorem Ext.trans {p q x : Str} (h : Ext p q) (k : Ext q x) : Ext p x:=by
 rcases k with rfl | ⟨r,rfl⟩
 ·exact h
 ·rcases h with rfl | ⟨t,rfl⟩
  ·exact .inr ⟨r,rfl⟩
  ·exact .inr ⟨t ++ 46 :: r,by simp⟩
theorem Af : ∀ (u a b : Str),Op.bytesLess (u ++ a) (u ++ b) = Op.bytesLess a b
 | [],_,_ => rfl
 | x :: u,a,b => by
  have e : Op.bytesLess (x :: u ++ a) (x :: u ++ b) = (decide (x < x) || (x == x && Op.bytesLess (u ++ a) (u ++ b))):=rfl
  have : ¬ x < x:=by rw [UInt8.lt_iff_toNat_lt]; omega
  rw [e,decide_eq_false this,beq_self_eq_true,Bool.false_or,Bool.true_and]
  exact Af u a b
theorem Fk {α : Type} {p : α → Bool} : ∀ {l : List α},(∀ x ∈ l,p x = true) → l.takeWhile p = l
 | [],_ => rfl
 | a :: l,h => by rw [List.takeWhile_cons,if_pos (h a (by simp)),Fk fun x hx => h x (by simp [hx])]
theorem DQ : ∀ {n m : Str},(∀ c ∈ m,c ≠ 46 ∧ 46 ≤ c.toNat) → Op.bytesLess n m = true → ∀ {n' m' : Str},Ext n n' → Ext m m' → Op.bytesLess n' m' = true
 | _,[],_,h,_,_,_,_ => by simp [Op.bytesLess] at h
 | [],y :: m,hm,_,n',m',hn',hm' => by
  have hy:=hm y (by simp)
  have hy2 : (46 : UInt8) < y:=by
   rw [UInt8.lt_iff_toNat_lt]
   have : (46 : UInt8).toNat ≠ y.toNat:=fun e => hy.1 (UInt8.toNat_inj.1 e).symm
   have e : (46 : UInt8).toNat = 46:=rfl
   omega
  rcases hn' with rfl | ⟨r,rfl⟩ <;> rcases hm' with rfl | ⟨t,rfl⟩ <;> simp [Op.bytesLess,hy2]
 | x :: n,y :: m,hm,h,n',m',hn',hm' => by
  have hh : ∃ n2,n' = x :: n2 ∧ Ext n n2:=by
   rcases hn' with rfl | ⟨r,rfl⟩
   ·exact ⟨n,rfl,.inl rfl⟩
   ·exact ⟨n ++ 46 :: r,rfl,.inr ⟨r,rfl⟩⟩
  have hk : ∃ m2,m' = y :: m2 ∧ Ext m m2:=by
   rcases hm' with rfl | ⟨r,rfl⟩
   ·exact ⟨m,rfl,.inl rfl⟩
   ·exact ⟨m ++ 46 :: r,rfl,.inr ⟨r,rfl⟩⟩
  obtain ⟨n2,rfl,en⟩:=hh
  obtain ⟨m2,rfl,em⟩:=hk
  unfold Op.bytesLess at h ⊢
  simp only [Bool.or_eq_true,decide_eq_true_eq,Bool.and_eq_true,beq_iff_eq] at h ⊢
  rcases h with h | ⟨rfl,h⟩
  ·exact .inl h
  ·exact .inr ⟨rfl,DQ (fun c hc => hm c (by simp [hc])) h en em⟩
theorem yn {c : Conf} {path x : Str} (hx : x ∈ pKids c path) : ∃ r,46 ∉ r ∧ x = path ++ 46 :: r:=by
 obtain ⟨hp,q,hq,rfl,ha⟩:=d5 hx
 rcases wy q.Path with ⟨_,h⟩ | ⟨r,h1,h2⟩
 ·rw [ha] at h; exact absurd h hp
 ·rw [ha] at h2; exact ⟨r,h1,h2⟩
theorem DF {c : Conf} (h : ConfOk c) (p : Str) : (pKids c p).Pairwise fun x y => Op.bytesLess x y = true:=by
 unfold pKids
 split
 ·exact List.Pairwise.nil
 ·exact (Do h).sublist (List.filter_sublist.map _)
theorem Fq {c : Conf} (h : ConfOk c) {path a b a' b' : Str} (ha : a ∈ pKids c path) (hb : b ∈ pKids c path) (hl : Op.bytesLess a b = true) (ea : Ext a a') (eb : Ext b b') : Op.bytesLess a' b' = true:=by
 obtain ⟨r,hr,rfl⟩:=yn ha
 obtain ⟨t,ht,rfl⟩:=yn hb
 have hch : ∀ c ∈ t,c ≠ 46 ∧ 46 ≤ c.toNat:=by
  intro x hx
  obtain ⟨_,q,hq,e,_⟩:=d5 hb
  have h1:=(lE h hq).ch x (by rw [e]; simp [hx])
  have h2:=h.nd q hq x (by rw [e]; simp [hx])
  refine ⟨fun e => ht (by rw [← e]; exact hx),?_⟩
  have : x.toNat ≠ 45:=fun e => h2 (UInt8.toNat_inj.1 e)
  omega
 have cut : ∀ {r a' : Str},Ext (path ++ 46 :: r) a' → ∃ a2,a' = (path ++ [46]) ++ a2 ∧ Ext r a2:=by
  intro r a' e
  rcases e with rfl | ⟨u,rfl⟩
  ·exact ⟨r,by simp,.inl rfl⟩
  ·exact ⟨r ++ 46 :: u,by simp,.inr ⟨u,rfl⟩⟩
 obtain ⟨a2,rfl,e1⟩:=cut ea
 obtain ⟨b2,rfl,e2⟩:=cut eb
 rw [Af]
 have hl2 : Op.bytesLess ((path ++ [46]) ++ r) ((path ++ [46]) ++ t) = true:=by simpa using hl
 rw [Af] at hl2
 exact DQ hch hl2 e1 e2
theorem zP {N : Nat} {s : State} (h : Inv N s) (label : Int) : ∀ (d : Nat) (path : Str) (mem : Int),∀ x ∈ pI d s path label mem,Ext path x.Path
 | 0,path,mem,x,hx => by
  have : x = ⟨path,mem⟩:=by simpa [pI] using hx
  subst this
  exact .inl rfl
 | d + 1,path,mem,x,hx => by
  unfold pI at hx
  split at hx
  ·have : x = ⟨path,mem⟩:=by simpa using hx
   subst this
   exact .inl rfl
  ·obtain ⟨y,hy,hxy⟩:=List.mem_flatMap.1 hx
   have hk : y.1 ∈ pKids s.Conf path:=(List.of_mem_zip (a:=y.1) (b:=y.2) hy).1
   obtain ⟨r,_,e⟩:=yn hk
   exact Ext.trans (.inr ⟨r,e⟩) (zP h label d y.1 y.2 x hxy)
theorem I9 {α β : Type} {R : α → α → Prop} {l : List α} {m : List β} (h : l.Pairwise R) : (l.zip m).Pairwise fun a b => R a.1 b.1:=by
 rw [List.pairwise_iff_getElem] at h ⊢
 intro i j hi hj hij
 rw [List.getElem_zip,List.getElem_zip]
 exact h i j (by rw [List.length_zip] at hi; omega) (by rw [List.length_zip] at hj; omega) hij
theorem yb {N : Nat} {s : State} (h : Inv N s) (label : Int) : ∀ (d : Nat) (path : Str) (mem : Int),(pI d s path label mem).Pairwise fun x y => Op.bytesLess x.Path y.Path = true
 | 0,path,mem => by simp [pI]
 | d + 1,path,mem => by
  unfold pI
  split
  ·simp
  ·rw [List.pairwise_flatMap]
   refine ⟨fun x _ => yb h label d x.1 x.2,?_⟩
   have hz:=I9 (m:=bn s label mem (pKids s.Conf path)) (DF h.cf path)
   refine List.Pairwise.imp_of_mem ?_ hz
   intro a b ha hb hab x hx y hy
   exact Fq h.cf (List.of_mem_zip (a:=a.1) (b:=a.2) ha).1 (List.of_mem_zip (a:=b.1) (b:=b.2) hb).1 hab (zP h label d _ _ x hx) (zP h label d _ _ y hy)
theorem Hk (s : State) (label mem : Int) (kids : List Str) : ∀ x ∈ kids.zip (bn s label mem kids),0 ≤ x.2 ∧ x.2 ≤ pGood (pWant s label x.1).2.1:=by
 intro x hx
 obtain ⟨k,hk,rfl⟩:=List.getElem_of_mem hx
 have hk1 : k < kids.length:=by rw [tU] at hk; exact hk
 have hk2 : k < (bn s label mem kids).length:=by rw [qh]; exact hk1
 rw [List.getElem_zip]
 have:=Fm mem (kids.map (pWant s label)) k (by rw [List.length_map]; exact hk1) hk2
 rw [List.getElem_map] at this
 exact this
theorem xc : ∀ (l : List Share),(∀ x ∈ l,0 ≤ x.Mem) → 0 ≤ (l.map (·.Mem)).sum
 | [],_ => by simp
 | a :: l,h => by
  have h1:=h a (by simp)
  have h2:=xc l fun x hx => h x (by simp [hx])
  simp only [List.map_cons,List.sum_cons]
  omega
theorem AC (f : Str × Int → List Share) : ∀ (l : List (Str × Int)),(∀ x ∈ l,((f x).map (·.Mem)).sum ≤ x.2) → ((l.flatMap f).map (·.Mem)).sum ≤ (l.map (·.2)).sum
 | [],_ => by simp
 | a :: l,h => by
  have h1:=h a (by simp)
  have h2:=AC f l fun x hx => h x (by simp [hx])
  simp only [List.flatMap_cons,List.map_append,List.sum_append,List.map_cons,List.sum_cons]
  omega
theorem z5 (s : State) (label : Int) : ∀ (d : Nat) (path : Str) (mem : Int),0 ≤ mem → ((pI d s path label mem).map (·.Mem)).sum ≤ mem ∧ ∀ x ∈ pI d s path label mem,0 ≤ x.Mem
 | 0,path,mem,h0 => by simp [pI,h0]
 | d + 1,path,mem,h0 => by
  unfold pI
  split
  ·simp [h0]
  ·have hb:=Hk s label mem (pKids s.Conf path)
   constructor
   ·refine Int.le_trans (AC _ _ fun x hx => (z5 s label d x.1 x.2 (hb x hx).1).1) ?_
    rw [xN (qh s label mem _).symm]
    exact D5 h0 _
   ·intro x hx
    obtain ⟨y,hy,hxy⟩:=List.mem_flatMap.1 hx
    exact (z5 s label d y.1 y.2 (hb y hy).1).2 x hxy
theorem GA (l : List Share) (hl : l.length ≤ 4096) (hr : l.Pairwise fun x y => Op.bytesLess x.Path y.Path = true) : loop (bc l) ([],0) = some l:=by
 have h:=aG (Q:=fun x => x = l) (fun (t : List Share) i => (t,i)) l.length (fun k t => t = l.take k) (step:=bc l) (by omega) ?_ ?_ (s:=[]) (by simp)
 ·obtain ⟨x,e,rfl⟩:=h
  exact e
 ·rintro k hk t rfl
  have hlt : (l.take k).length = k:=by rw [List.length_take]; omega
  have ht : (l.take k).takeWhile (fun y => Op.bytesLess y.Path l[k].Path) = l.take k:=by
   refine Fk fun y hy => ?_
   obtain ⟨j,hj,rfl⟩:=List.getElem_of_mem hy
   rw [List.getElem_take]
   exact (List.pairwise_iff_getElem.1 hr) j k (by omega) hk (by omega)
  have ew:=jz (l.take k) (fun y => Op.bytesLess y.Path l[k].Path) (step:=bi l (l.take k,(k : Int))) (by omega) ?_ ?_
  ·rw [ht,hlt] at ew
   refine bz (a:=.inl (l.take (k + 1),w64 ((k : Int) + 1))) ?_ (.inl ⟨_,rfl,rfl⟩)
   unfold bc
   dsimp only
   rw [aj hk,cond_true,ew,Jw,hlt]
   have i0 : inS 0 (k : Int) k = some (0,k):=by have:=z_ (a:=0) (b:=k) (n:=k) (by omega) (Nat.le_refl _); simpa using this
   rw [i0,Jw]
   have u0 : sub (l.take k) 0 k = l.take k:=by unfold sub; rw [List.drop_zero,List.take_take,Nat.min_self]
   dsimp only
   rw [u0,am (by simp; omega) (by omega),Jw,aM hk,Jw,Jx hk,Jw,am (by simp; omega) (by omega),Jw,z_ (Nat.le_refl _) (Nat.le_refl _),Jw]
   have u1 : sub (l.take k) k (k - k) = []:=by simp [sub]
   dsimp only
   rw [u1,am (by simp; omega) (by omega),Jw,List.take_succ_eq_append_getElem hk]
   simp
  ·intro j hj
   unfold bi
   dsimp only
   rw [aj hj,cond_true,aM hj,Jw,Jx hj,Jw,aM hk,Jw,Jx hk,Jw,Jw]
   cases Op.bytesLess (l.take k)[j].Path l[k].Path <;> rfl
  ·unfold bi
   dsimp only
   rw [ar]
   rfl
 ·rintro t rfl
  refine bz (a:=.inr (l.take l.length)) ?_ ⟨_,rfl,by rw [List.take_length]⟩
  unfold bc
  dsimp only
  rw [ar]
  rfl
def pIdeal (s : State) (label : Int) : List Share:=pI 3 s root label (iO s label).Mem
theorem rO {N : Nat} {s : State} (h : Inv N s) (label : Int) : (pIdeal s label).length ≤ 4096:=sX s label 3 root _ (lJ h _) (lJ h)
theorem yK {N : Nat} {s : State} (h : Inv N s) (label : Int) : bM s label = some (pIdeal s label):=by
 unfold bM jM
 rw [pL h.sb,Jw]
 have e : aU 64 s ([114,111,111,116] : List UInt8) label (iO s label).Mem = some (pIdeal s label):=Gw h label 3 63 root _ (by decide) (by omega) (by omega)
 rw [e,Jw,GA _ (rO h label) (yb h label 3 root _)]
 rfl
theorem yP {N : Nat} {s : State} (h : Inv N s) {label : Int} (hl0 : 0 ≤ label) (hl1 : label < s.Conf.Labels.length) : iP s label = some (pIdeal s label):=by
 unfold iP nF
 rw [uL h.sc,Jw]
 have e : cg 64 s ([114,111,111,116] : List UInt8) label (iO s label).Mem 1 = some (pIdeal s label):=E1 h hl0 hl1 3 63 root _ 1 (by decide) (by omega) (by omega) (by omega)
 rw [e]
 rfl
theorem Jk {α : Type} {b : Nat} {l m : List α} (h : (l ++ m).length ≤ 1000000) (hb : b ≤ 100000) : app b l m = some (l ++ m):=by
 unfold app
 rw [if_pos]
 have : (l ++ m).length * b ≤ 1000000 * 100000:=Nat.mul_le_mul h hb
 unfold maxLen
 omega
theorem Ih {α : Type} {b : Nat} {l : List α} (h : l.length ≤ 1000000) (hb : b ≤ 100000) : app b [] l = some l:=by
 have:=Jk (b:=b) (l:=[]) (m:=l) (by simpa using h) hb
 simpa using this
theorem IV {α : Type} {b : Nat} {n : Nat} {z : α} (h : n ≤ 1000000) (hb : b ≤ 100000) : mkl b (n : Int) (n : Int) z = some (List.replicate n z):=by
 unfold mkl
 rw [if_pos]
 ·simp
 ·have : b * n ≤ 100000 * 1000000:=Nat.mul_le_mul hb h
  refine ⟨by omega,by omega,?_,?_⟩ <;> simp only [Int.toNat_natCast] <;> unfold maxLen at * <;> omega
theorem HQ {α : Type} {l m : List α} (h : l.length = m.length) : cpy l 0 l.length m = m:=by
 unfold cpy
 rw [h,List.take_length,Nat.min_self,← h]
 simp
structure SmallA (a : App) : Prop where
 asks : a.Asks.length ≤ 1000000
 grants : a.Grants.length ≤ 1000000
 kills : a.Kills.length ≤ 1000000
 told : a.Told.length ≤ 1000000
 lost : a.Lost.length ≤ 1000000
structure Small (s : State) : Prop where
 labels : s.Conf.Labels.length ≤ 1000
 queues : s.Conf.Queues.length ≤ 1000
 caps : ∀ q ∈ s.Conf.Queues,q.Caps.length ≤ 1000
 nodes : s.Nodes.length ≤ 1000
 apps : s.Apps.length ≤ 1000
 app : ∀ a ∈ s.Apps,SmallA a
 conts : s.Conts.length ≤ 1000
 slots : s.Slots.length ≤ 1000
 plans : s.Plans.length ≤ 1000
theorem vz {l : List Int} (h : l.length ≤ 1000000) : mz l = some l:=by
 unfold mz
 rw [IV (by omega) (by omega)]
 simp only [Jw]
 rw [HQ (by simp)]
theorem xj {a : App} (h : SmallA a) : pQ a = some a:=by
 unfold pQ wI
 rw [Ih (by have:=h.asks; omega) (by omega),vz h.grants,vz h.kills,vz h.told,vz h.lost]
 rfl
theorem Inv.small {N : Nat} {s : State} (h : Inv N s) (hN : N ≤ 1000000) : Small s:=by
 have c:=h.cf
 have h1:=c.lab
 have h2:=c.qs
 have h3:=h.nl
 have h4:=h.al
 have h5:=h.cl
 have h6:=h.sl
 have h7:=h.pl
 refine ⟨by omega,by omega,?_,by omega,by omega,?_,by omega,by omega,by omega⟩
 ·intro q hq
  obtain ⟨i,hi,rfl⟩:=List.getElem_of_mem hq
  have:=(c.q i hi).caps
  omega
 ·intro a ha
  have:=h.ak a ha
  have k1:=this.al
  have k2:=this.gr
  have k3:=this.ki
  have k4:=this.to
  have k5:=this.lo
  exact ⟨by omega,by omega,by omega,by omega,by omega⟩
theorem Es {s : State} (hn : s.Apps.length ≤ 1000) (i : Int) : (∃ k,∃ (hk : k < s.Apps.length),appAt s i = some s.Apps[k] ∧ pO s i = some (k : Int)) ∨ (appAt s i = none ∧ pO s i = some (-1)):=by
 unfold pO appAt wv
 have e:=tJ (fun i => i) s.Apps (fun x => x.Id == i) (fun k => (.inl k : Int ⊕ Unit)) (.inr ()) (step:=nA s.Apps (fun a' => qd a'.1 i)) (by omega) ?_ ?_ ?_
 ·rcases e with ⟨k,hk,e1,e2⟩ | ⟨e1,e2⟩
  ·exact .inl ⟨k,hk,e1,by rw [e2]; rfl⟩
  ·exact .inr ⟨e1,by rw [e2]; rfl⟩
 ·intro k hk hp
  unfold nA qd
  rw [aj hk,ai hk]
  simp only [cond_true,Jw,hp,cond_false]
 ·intro k hk hp
  unfold nA qd
  rw [aj hk,ai hk]
  simp only [cond_true,Jw,hp]
 ·unfold nA
  rw [ar]
  rfl
theorem BJ {s : State} (h : Small s) (i : Int) : qe s i = some ((appAt s i).elim (noA,false) fun x => (x,true)):=by
 unfold qe
 rcases Es h.apps i with ⟨k,hk,e1,e2⟩ | ⟨e1,e2⟩
 ·rw [e2,e1]
  simp only [Jw,Option.elim_some]
  rw [decide_eq_false (by omega),cond_false,ai hk,Jw,xj (h.app _ (List.getElem_mem hk))]
  rfl
 ·rw [e2,e1]
  rfl
section
variable {α κ : Type} [DecidableEq κ] [BEq κ] [LawfulBEq κ] {key : α → κ}
theorem n8 {q q' : κ} : ∀ {l : List α} {y z : α},key y = q' → mget (fun x => q == key x) (mput (fun x => q' == key x) l y) z = if q = q' then y else mget (fun x => q == key x) l z
 | [],y,z,hy => by
  unfold mget mput
  subst hy
  by_cases h : q = key y
  ·rw [if_pos h]; simp [h]
  ·rw [if_neg h]
   have : (q == key y) = false:=by rw [beq_eq_false_iff_ne]; exact h
   simp [List.find?,this]
 | x :: l,y,z,hy => by
  have ih:=n8 (q:=q) (l:=l) (y:=y) (z:=z) hy
  subst hy
  unfold mput
  cases hx : key y == key x with
  | true =>
   rw [cond_true]
   have hxy : key y = key x:=by simpa using hx
   unfold mget
   by_cases h : q = key y
   ·rw [if_pos h]; simp [h]
   ·rw [if_neg h]
    have h1 : (q == key y) = false:=by rw [beq_eq_false_iff_ne]; exact h
    have h2 : (q == key x) = false:=by rw [beq_eq_false_iff_ne,← hxy]; exact h
    simp [List.find?,h1,h2]
  | false =>
   rw [cond_false]
   unfold mget at ih ⊢
   cases hq : q == key x with
   | true =>
    have hqx : q = key x:=by simpa using hq
    have hne : q ≠ key y:=fun e => by
     rw [beq_eq_false_iff_ne] at hx
     exact hx (e ▸ hqx)
    rw [if_neg hne]
    simp [List.find?,hq]
   | false =>
    simp only [List.find?,hq]
    exact ih
end
section
variable {α κ : Type} [BEq κ] [LawfulBEq κ] {key : α → κ}
theorem zd {q q' : κ} : ∀ {l : List α} {y : α},key y = q' → mhas (fun x => q == key x) (mput (fun x => q' == key x) l y) = (q == q' || mhas (fun x => q == key x) l)
 | [],y,hy => by subst hy; simp [mhas,mput]
 | x :: l,y,hy => by
  have ih:=zd (l:=l) (y:=y) (q:=q) hy
  subst hy
  unfold mput
  cases hx : key y == key x with
  | true =>
   rw [cond_true]
   have hxy : key y = key x:=by simpa using hx
   simp [mhas,hxy]
  | false =>
   rw [cond_false]
   unfold mhas at ih ⊢
   simp only [List.any_cons,ih]
   cases q == key x <;> cases q == key y <;> simp
end
section
variable {α : Type}
theorem A7 {p : α → Bool} : ∀ {l : List α} {y x : α},x ∈ mput p l y → x = y ∨ x ∈ l
 | [],y,x,h => by simpa [mput] using h
 | a :: l,y,x,h => by
  unfold mput at h
  cases hp : p a with
  | true =>
   rw [hp,cond_true] at h
   rcases List.mem_cons.1 h with h | h
   ·exact .inl h
   ·exact .inr (List.mem_cons_of_mem _ h)
  | false =>
   rw [hp,cond_false] at h
   rcases List.mem_cons.1 h with h | h
   ·exact .inr (by simp [h])
   ·rcases A7 h with h | h
    ·exact .inl h
    ·exact .inr (List.mem_cons_of_mem _ h)
theorem FB {p : α → Bool} {l : List α} (h : mhas p l = true) (z : α) : mget p l z ∈ l ∧ p (mget p l z) = true:=by
 unfold mhas at h
 rw [List.any_eq_true] at h
 obtain ⟨x,hx,hp⟩:=h
 unfold mget
 cases hf : l.find? p with
 | none => exact absurd hp (by simpa using List.find?_eq_none.1 hf x hx)
 | some y => exact ⟨List.mem_of_find?_eq_some hf,List.find?_some hf⟩
end
theorem tB : ∀ {l1 l2 : List Nat},l1.Nodup → (∀ x ∈ l1,x ∈ l2) → l1.length ≤ l2.length
 | [],_,_,_ => Nat.zero_le _
 | a :: l,l2,hn,hs => by
  have hn':=List.nodup_cons.1 hn
  have h:=tB (l2:=l2.erase a) hn'.2 (fun x hx => by
   have hxa : x ≠ a:=fun e => hn'.1 (e ▸ hx)
   exact (List.mem_erase_of_ne hxa).2 (hs x (by simp [hx])))
  have ha:=hs a (by simp)
  rw [List.length_erase_of_mem ha] at h
  have:=List.length_pos_of_mem ha
  simp only [List.length_cons]
  omega
theorem Fp {n m : Nat} {seen : List Nat} (hn : seen.Nodup) (hl : ∀ x ∈ seen,x < n) (h : m + 1 + seen.length = n) : ∃ k,k < n ∧ k ∉ seen:=by
 refine Classical.byContradiction fun hc => ?_
 have hall : ∀ k ∈ List.range n,k ∈ seen:=by
  intro k hk
  refine Classical.byContradiction fun hk' => hc ⟨k,List.mem_range.1 hk,hk'⟩
 have:=tB List.nodup_range hall
 simp at this
 omega
theorem Au {τ α ω : Type} (ob : ω) {step : ω → τ → α → Option τ} {l : List α} : ∀ {m : Nat} {seen : List Nat} {t r r' : τ},seen.Nodup → (∀ x ∈ seen,x < l.length) → m + seen.length = l.length → rngOk step l m seen t r → rngOk step l m seen t r' → r' = r
 | 0,seen,t,r,r',_,_,_,h,h' => by
  have h1 : t = r:=h
  have h2 : t = r':=h'
  rw [← h1,← h2]
 | m + 1,seen,t,r,r',hn,hl,hc,h,h' => by
  obtain ⟨k,hk,hks⟩:=Fp hn hl hc
  obtain ⟨t1,a1,b1⟩:=h k l[k] hks (Jx hk)
  obtain ⟨t2,a2,b2⟩:=h' k l[k] hks (Jx hk)
  have : t1 = t2:=by have:=a1 ob; rw [a2 ob] at this; exact (Option.some.inj this).symm
  subst this
  refine Au ob ?_ ?_ ?_ b1 b2
  ·rw [List.nodup_append]
   exact ⟨hn,by simp,fun x hx y hy => by rw [JA] at hy; subst hy; exact fun e => hks (e ▸ hx)⟩
  ·intro x hx
   rcases List.mem_append.1 hx with hx | hx
   ·exact hl x hx
   ·rw [JA] at hx; subst hx; exact hk
  ·simp; omega
theorem Ge {τ α ω : Type} (ob : ω) {t0 : ω → Option τ} {step : ω → τ → α → Option τ} {l : List α} (I : List Nat → τ → Prop) {t r : τ} (h0 : ∀ ob,t0 ob = some t) (hI : I [] t)
  (hstep : ∀ seen t k (hk : k < l.length),I seen t → k ∉ seen → ∃ t',(∀ ob,step ob t l[k] = some t') ∧ I (seen ++ [k]) t') (hend : ∀ seen t,I seen t → (∀ k,k < l.length → k ∈ seen) → t = r) : rng t0 step l = some r:=by
 have key : ∀ (m : Nat) (seen : List Nat) (t : τ),seen.Nodup → (∀ x ∈ seen,x < l.length) → m + seen.length = l.length → I seen t → rngOk step l m seen t r:=by
  intro m
  induction m with
  | zero =>
   intro seen t hn hl hc hi
   refine hend seen t hi fun k hk => ?_
   refine Classical.byContradiction fun hks => ?_
   have h1 : (k :: seen).Nodup:=List.nodup_cons.2 ⟨hks,hn⟩
   have h2:=tB (l2:=List.range l.length) h1 (fun x hx => by
    rw [List.mem_range]
    rcases List.mem_cons.1 hx with rfl | hx
    ·exact hk
    ·exact hl x hx)
   simp at h2
   omega
  | succ m ih =>
   intro seen t hn hl hc hi k x hks hx
   have hk : k < l.length:=(Jy.1 hx).1
   have hxe : l[k] = x:=(Jy.1 hx).2
   obtain ⟨t',a,b⟩:=hstep seen t k hk hi hks
   rw [hxe] at a
   refine ⟨t',a,ih _ _ ?_ ?_ ?_ b⟩
   ·rw [List.nodup_append]
    exact ⟨hn,by simp,fun a ha b hb => by rw [JA] at hb; subst hb; exact fun e => hks (e ▸ ha)⟩
   ·intro x hx
    rcases List.mem_append.1 hx with hx | hx
    ·exact hl x hx
    ·rw [JA] at hx; subst hx; exact hk
   ·simp; omega
 have h:=key l.length [] t List.nodup_nil (by simp) (by simp) hI
 have hx : ∃ r t,(∀ ob,t0 ob = some t) ∧ rngOk step l l.length [] t r:=⟨r,t,h0,h⟩
 unfold rng
 rw [dif_pos hx]
 obtain ⟨t',h1,h2⟩:=hx.choose_spec
 have : t' = t:=by have:=h1 ob; rw [h0 ob] at this; exact (Option.some.inj this).symm
 subst this
 rw [Au ob List.nodup_nil (by simp) (by simp) h h2]
theorem Fy (x y : Int) : lA x y = some (if x < y then -1 else if y < x then 1 else 0):=by
 unfold lA iI
 simp only [Jw,bne_self_eq_false,cond_false]
 by_cases h : x < y
 ·rw [decide_eq_true h,if_pos h]; rfl
 ·rw [decide_eq_false h,if_neg h,cond_false]
  by_cases h2 : y < x
  ·rw [if_pos h2,decide_eq_true (show x > y from h2)]; rfl
  ·rw [if_neg h2,decide_eq_false (show ¬ x > y from h2)]; rfl
theorem GD (x y : Str) : jm x y = some (if Op.bytesLess x y = true then -1 else if x = y then 0 else 1):=by
 unfold jm ky
 simp only [Jw,beq_self_eq_true,Bool.not_true,cond_false]
 cases h : Op.bytesLess x y with
 | true => rfl
 | false =>
  simp only [cond_false,Bool.false_eq_true,if_false]
  unfold strLe
  rw [h,Bool.false_or]
  by_cases e : x = y
  ·rw [if_pos e]; subst e; simp
  ·rw [if_neg e]
   have : (x == y) = false:=by rw [beq_eq_false_iff_ne]; exact e
   rw [this]; rfl
theorem GV (x y : Int) : pY [x,y] = some (if x ≠ 0 then x else y):=by
 unfold pY
 have e0 : iJ [x,y] 0 = some (bif x != 0 then .inr (.inl x) else .inl 1):=by
  unfold iJ
  rw [show idx [x,y] 0 = some x from rfl]
  simp only [Jw]
  cases x != 0 <;> rfl
 have e1 : iJ [x,y] 1 = some (bif y != 0 then .inr (.inl y) else .inl 2):=by
  unfold iJ
  rw [show idx [x,y] 1 = some y from rfl]
  simp only [Jw]
  cases y != 0 <;> rfl
 have e2 : iJ [x,y] 2 = some (.inr (.inr ())):=rfl
 rw [cM,e0]
 by_cases hx : x = 0
 ·subst hx
  simp only [bne_self_eq_false,cond_false]
  rw [cM,e1]
  by_cases hy : y = 0
  ·subst hy
   simp only [bne_self_eq_false,cond_false]
   rw [cM,e2]
   rfl
  ·have : (y != 0) = true:=by simp [hy]
   rw [this]; simp
 ·have : (x != 0) = true:=by simp [hx]
  rw [this]; simp [hx]
def oval (k : Looker) (p : Str) : Int:=(mget (fun x : Ent0_ListUInt8Int => p == x.k) k.over ⟨p,0⟩).v
def nval (k : Looker) (i : Int) : Int:=(mget (fun x : Ent4_IntInt => i == x.k) k.noticed ⟨i,0⟩).v
def lhas (k : Looker) (i : Int) : Bool:=mhas (fun x : Ent2_IntListUInt8 => i == x.k) k.leaf
def lval (k : Looker) (i : Int) : Str:=(mget (fun x : Ent2_IntListUInt8 => i == x.k) k.leaf ⟨i,[]⟩).v
theorem DM (k : Looker) (c : Cont) : bD k c = some ⟨k.s,k.label,mput (fun x : Ent0_ListUInt8Int => lval k c.Id == x.k) k.over ⟨lval k c.Id,w64 (oval k (lval k c.Id) - c.Size.Mem)⟩,k.leaf,mput (fun x : Ent4_IntInt => c.Id == x.k) k.noticed ⟨c.Id,w64 (nval k c.Id + 1)⟩,w64 (k.gone + c.Size.Mem)⟩:=rfl
def bet (k : Looker) (a b : Str) : Prop:=oval k b < oval k a ∨ (oval k b = oval k a ∧ Op.bytesLess a b = true)
theorem Ew {k : Looker} {a b c : Str} (h : bet k a b) (h' : bet k b c) : bet k a c:=by
 rcases h with h | ⟨h,l⟩ <;> rcases h' with h' | ⟨h',l'⟩
 ·exact .inl (by omega)
 ·exact .inl (by omega)
 ·exact .inl (by omega)
 ·exact .inr ⟨by omega,wx l l'⟩
theorem Jo {k : Looker} {a b : Str} (h : ¬ bet k a b) (h' : ¬ bet k b a) : a = b:=by
 unfold bet at h h'
 refine Classical.byContradiction fun hne => ?_
 rw [not_or] at h h'
 have he : oval k a = oval k b:=by omega
 have h1 : Op.bytesLess a b ≠ true:=fun e => h.2 ⟨he.symm,e⟩
 have h2 : Op.bytesLess b a ≠ true:=fun e => h'.2 ⟨he,e⟩
 exact h2 (A_ (by simpa using h1) hne)
theorem zJ (k : Looker) (ob : Obj) (t : Str) (e : Ent1_ListUInt8Cont) (ht : t ≠ []) : ∃ b : Bool,(b = true ↔ bet k e.k t) ∧ bv k ob t e = some (bif b then e.k else t):=by
 have h0 : (t == ([] : List UInt8)) = false:=by rw [beq_eq_false_iff_ne]; exact ht
 refine ⟨decide ((if (if oval k t < oval k e.k then (-1 : Int) else if oval k e.k < oval k t then 1 else 0) ≠ 0 then (if oval k t < oval k e.k then (-1 : Int) else if oval k e.k < oval k t then 1 else 0) else (if Op.bytesLess e.k t = true then (-1 : Int) else if e.k = t then 0 else 1)) < 0),?_,?_⟩
 ·rw [decide_eq_true_eq]
  unfold bet
  by_cases h1 : oval k t < oval k e.k
  ·simp [h1]
  ·by_cases h2 : oval k e.k < oval k t
   ·simp [h1,h2]; omega
   ·have he : oval k t = oval k e.k:=by omega
    simp only [h1,h2,if_false,ne_eq,not_true_eq_false,he,false_or,true_and]
    cases hb : Op.bytesLess e.k t with
    | true => simp
    | false =>
     simp only [Bool.false_eq_true,if_false,iff_false]
     by_cases hq : e.k = t <;> simp [hq]
 ·unfold bv
  rw [h0,cond_false]
  dsimp only
  have e1 : (mget (fun x6 : Ent0_ListUInt8Int => t == x6.k) k.over (⟨t,0⟩ : Ent0_ListUInt8Int)).v = oval k t:=rfl
  have e2 : (mget (fun x7 : Ent0_ListUInt8Int => e.k == x7.k) k.over (⟨e.k,0⟩ : Ent0_ListUInt8Int)).v = oval k e.k:=rfl
  rw [e1,e2,Fy,Jw,GD,Jw,GV,Jw,Jw]
  generalize decide (_ < (0 : Int)) = q
  cases q <;> rfl
theorem DE (k : Looker) (ob : Obj) (e : Ent1_ListUInt8Cont) : bv k ob [] e = some e.k:=rfl
def Bst (k : Looker) (b : List Ent1_ListUInt8Cont) (seen : List Nat) (t : Str) : Prop :=
 (seen = [] ∧ t = []) ∨ (t ≠ [] ∧ (∃ j,j ∈ seen ∧ ∃ hj : j < b.length,b[j].k = t) ∧ ∀ j,j ∈ seen → ∀ hj : j < b.length,¬ bet k b[j].k t)
theorem AB {k : Looker} {b : List Ent1_ListUInt8Cont} (hb : ∀ e ∈ b,e.k ≠ []) (seen : List Nat) (t : Str) (j : Nat) (hj : j < b.length) (h : Bst k b seen t) : ∃ t',(∀ ob,bv k ob t b[j] = some t') ∧ Bst k b (seen ++ [j]) t':=by
 have irr : ∀ p,¬ bet k p p:=by
  intro p hp
  rcases hp with hp | ⟨_,hp⟩
  ·omega
  ·rw [rY] at hp; cases hp
 rcases h with ⟨rfl,rfl⟩ | ⟨h1,h2,h3⟩
 ·refine ⟨b[j].k,fun ob => DE k ob _,.inr ⟨hb _ (List.getElem_mem hj),⟨j,by simp,hj,rfl⟩,?_⟩⟩
  intro i hi hi'
  simp only [List.nil_append,JA] at hi
  subst hi
  exact irr _
 ·obtain ⟨q,hq,_⟩:=zJ k (.deferred none) t b[j] h1
  have hstep : ∀ ob,bv k ob t b[j] = some (bif q then b[j].k else t):=by
   intro ob
   obtain ⟨q',hq',e⟩:=zJ k ob t b[j] h1
   have : q' = q:=by
    cases q <;> cases q' <;> simp_all
   rw [e,this]
  refine ⟨_,hstep,?_⟩
  cases hqq : q with
  | true =>
   have hbet:=hq.1 hqq
   refine .inr ⟨hb _ (List.getElem_mem hj),⟨j,by simp,hj,rfl⟩,?_⟩
   intro i hi hi' hbi
   rcases List.mem_append.1 hi with hi | hi
   ·exact h3 i hi hi' (Ew hbi hbet)
   ·rw [JA] at hi
    subst hi
    exact irr _ hbi
  | false =>
   have hnb : ¬ bet k b[j].k t:=fun hx => by rw [hq.2 hx] at hqq; cases hqq
   obtain ⟨i,hi,hi',e⟩:=h2
   refine .inr ⟨h1,⟨i,by simp [hi],hi',e⟩,?_⟩
   intro i hi hi'
   rcases List.mem_append.1 hi with hi | hi
   ·exact h3 i hi hi'
   ·rw [JA] at hi
    subst hi
    exact hnb
theorem Gu {k : Looker} {b : List Ent1_ListUInt8Cont} (hb : ∀ e ∈ b,e.k ≠ []) : Gv (rng (ω:=Obj) (fun _ => some ([] : List UInt8)) (bv k) b) fun _ => True:=by
 have pre : ∀ n,n ≤ b.length → ∃ t,Bst k b (List.range n) t:=by
  intro n
  induction n with
  | zero => intro _; exact ⟨[],.inl ⟨rfl,rfl⟩⟩
  | succ n ih =>
   intro hn
   obtain ⟨t,ht⟩:=ih (by omega)
   obtain ⟨t',_,ht'⟩:=AB hb _ t n (by omega) ht
   exact ⟨t',by rw [List.range_succ]; exact ht'⟩
 obtain ⟨r,hr⟩:=pre b.length (Nat.le_refl _)
 refine ⟨r,Ge (.deferred none) (Bst k b) (t:=[]) (fun _ => rfl) (.inl ⟨rfl,rfl⟩) (fun seen t j hj hi _ => AB hb seen t j hj hi) ?_,trivial⟩
 intro seen t hi hall
 rcases hi with ⟨rfl,rfl⟩ | ⟨h1,⟨j,hj,hj',rfl⟩,h3⟩
 ·have : b.length = 0:=by
   refine Classical.byContradiction fun hne => ?_
   have:=hall 0 (by omega)
   simp at this
  rcases hr with ⟨_,hr⟩ | ⟨_,⟨j,_,hj,_⟩,_⟩
  ·exact hr.symm
  ·omega
 ·rcases hr with ⟨hr,_⟩ | ⟨_,⟨i,hi,hi',rfl⟩,k3⟩
  ·have:=congrArg List.length hr
   rw [List.length_range,List.length_nil] at this
   omega
  ·exact Jo (k3 j (List.mem_range.2 hj') hj') (h3 i (hall i hi') hi')
def BOK (k : Looker) (b : List Ent1_ListUInt8Cont) : Prop:=∀ e ∈ b,e.v ∈ k.s.Conts ∧ lhas k e.v.Id = true ∧ lval k e.v.Id = e.k ∧ nval k e.v.Id ≤ 0 ∧ 0 < oval k e.k
theorem HK {k : Looker} (hc : k.s.Conts.length ≤ 200) (hne : ∀ i,lhas k i = true → lval k i ≠ []) :
  Gv (eG k) fun r => r.2.2 = k ∧ (r.2.1 = true → r.1 ∈ k.s.Conts ∧ lhas k r.1.Id = true ∧ nval k r.1.Id ≤ 0 ∧ 0 < oval k (lval k r.1.Id)):=by
 unfold eG
 refine ad (aG (Q:=BOK k) (fun (b : List Ent1_ListUInt8Cont) i => (b,i)) k.s.Conts.length (fun _ b => BOK k b) (step:=fe k) (by omega) ?_ ?_ (s:=[]) (fun e he => by cases he)) ?_
 ·intro i hi b hb
  unfold fe
  dsimp only
  rw [aj hi,cond_true,ai hi,Jw]
  refine ad (P:=BOK k) ?_ (fun b' hb' => aa (.inl ⟨b',rfl,hb'⟩))
  have hm : k.s.Conts[i] ∈ k.s.Conts:=List.getElem_mem hi
  generalize k.s.Conts[i] = c at hm
  show Gv ((bif !(lhas k c.Id) then some true else bif decide (nval k c.Id > 0) then some true else some (decide (oval k (lval k c.Id) ≤ 0))).bind fun q => bif q then some b else _) (BOK k)
  have htest : (bif !(lhas k c.Id) then some true else bif decide (nval k c.Id > 0) then some true else some (decide (oval k (lval k c.Id) ≤ 0))) = some (!(lhas k c.Id) || (decide (nval k c.Id > 0) || decide (oval k (lval k c.Id) ≤ 0))):=by
   cases lhas k c.Id <;> cases decide (nval k c.Id > 0) <;> rfl
  rw [htest,Jw]
  refine ae (fun _ => aa hb) (fun hq => ?_)
  simp only [Bool.or_eq_false_iff,Bool.not_eq_false',decide_eq_false_iff_not] at hq
  obtain ⟨q1,q2,q3⟩:=hq
  refine Ib ?_ (fun q => ?_)
  ·repeat (first | exact aa trivial | (refine ae (fun _ => ?_) (fun _ => ?_)))
  ·refine ae (fun _ => aa ?_) (fun _ => aa hb)
   intro e he
   rcases A7 he with rfl | he
   ·have z1 : nval k c.Id ≤ 0:=by omega
    have z2 : 0 < oval k (lval k c.Id):=by omega
    exact ⟨hm,q1,rfl,z1,z2⟩
   ·exact hb e he
 ·intro b hb
  unfold fe
  dsimp only
  rw [ar,cond_false]
  exact aa ⟨b,rfl,hb⟩
 ·intro b hb
  refine ad (Gu (fun e he => ?_)) ?_
  ·obtain ⟨_,h2,h3,_⟩:=hb e he
   rw [← h3]
   exact hne _ h2
  ·intro f _
   refine aa ⟨rfl,fun his => ?_⟩
   obtain ⟨h1,h2⟩:=FB (α:=Ent1_ListUInt8Cont) (p:=fun x11 => f == x11.k) his (⟨f,⟨0,0,0,⟨0,0⟩,0,0,false,0⟩⟩ : Ent1_ListUInt8Cont)
   obtain ⟨k1,k2,k3,k4,k5⟩:=hb _ h1
   exact ⟨k1,k2,k4,by rw [k3]; exact k5⟩
structure LK (s : State) (label : Int) (n : Nat) (k : Looker) : Prop where
 st : k.s = s
 lab : k.label = label
 leaf : ∀ id,lhas k id = true → ∃ c ∈ s.Conts,c.Id = id ∧ c.Label = label ∧ ∃ a ∈ s.Apps,a.Id = c.App ∧ lval k id = a.Queue
 ov : ∀ p,0 < oval k p → ∃ x ∈ pIdeal s label,x.Path = p ∧ x.Mem < (pUsed s p label true 0).Mem
 nb : ∀ id,0 ≤ nval k id ∧ nval k id ≤ n
 ob : ∀ p,-(4503599627370496 + n * 1073741824) ≤ oval k p ∧ oval k p ≤ 4503599627370496
 gb : 0 ≤ k.gone ∧ k.gone ≤ n * 1073741824
theorem LK.mono {s : State} {label : Int} {n m : Nat} {k : Looker} (h : LK s label n k) (hm : n ≤ m) : LK s label m k:=by
 refine ⟨h.st,h.lab,h.leaf,h.ov,fun id => ?_,fun p => ?_,?_⟩
 ·have:=h.nb id; omega
 ·have:=h.ob p; omega
 ·have:=h.gb; omega
theorem LK.notice {s : State} {label : Int} {n : Nat} {k : Looker} (h : LK s label n k) (hn : n ≤ 100000) {c : Cont} (hc : SzOk c.Size) :
  ∃ k',bD k c = some k' ∧ LK s label (n + 1) k' ∧ (∀ id,nval k' id = if id = c.Id then nval k id + 1 else nval k id) ∧ (∀ p,oval k' p ≤ oval k p):=by
 refine ⟨_,DM k c,?_⟩
 have hsz : 1 ≤ c.Size.Mem ∧ c.Size.Mem ≤ 1073741824:=hc.1
 have hnv : ∀ id,nval (⟨k.s,k.label,mput (fun x : Ent0_ListUInt8Int => lval k c.Id == x.k) k.over ⟨lval k c.Id,w64 (oval k (lval k c.Id) - c.Size.Mem)⟩,k.leaf,mput (fun x : Ent4_IntInt => c.Id == x.k) k.noticed ⟨c.Id,w64 (nval k c.Id + 1)⟩,w64 (k.gone + c.Size.Mem)⟩ : Looker) id = if id = c.Id then nval k id + 1 else nval k id:=by
  intro id
  unfold nval
  dsimp only
  rw [n8 (key:=fun x : Ent4_IntInt => x.k) (q':=c.Id) rfl]
  have:=h.nb c.Id
  unfold nval at this
  by_cases e : id = c.Id
  ·subst e
   rw [if_pos rfl,if_pos rfl]
   dsimp only
   rw [ao (by omega) (by omega)]
  ·rw [if_neg e,if_neg e]
 have hov : ∀ p,oval (⟨k.s,k.label,mput (fun x : Ent0_ListUInt8Int => lval k c.Id == x.k) k.over ⟨lval k c.Id,w64 (oval k (lval k c.Id) - c.Size.Mem)⟩,k.leaf,mput (fun x : Ent4_IntInt => c.Id == x.k) k.noticed ⟨c.Id,w64 (nval k c.Id + 1)⟩,w64 (k.gone + c.Size.Mem)⟩ : Looker) p = if p = lval k c.Id then oval k p - c.Size.Mem else oval k p:=by
  intro p
  have hb:=h.ob (lval k c.Id)
  have e0 : w64 (oval k (lval k c.Id) - c.Size.Mem) = oval k (lval k c.Id) - c.Size.Mem:=ao (by omega) (by omega)
  rw [e0]
  have hrw : ∀ v : Int,oval (⟨k.s,k.label,mput (fun x : Ent0_ListUInt8Int => lval k c.Id == x.k) k.over ⟨lval k c.Id,v⟩,k.leaf,mput (fun x : Ent4_IntInt => c.Id == x.k) k.noticed ⟨c.Id,w64 (nval k c.Id + 1)⟩,w64 (k.gone + c.Size.Mem)⟩ : Looker) p = if p = lval k c.Id then v else oval k p:=by
   intro v
   unfold oval
   dsimp only
   rw [n8 (key:=fun x : Ent0_ListUInt8Int => x.k) (q':=lval k c.Id) rfl]
   by_cases e : p = lval k c.Id
   ·rw [if_pos e,if_pos e]
   ·rw [if_neg e,if_neg e]
  rw [hrw]
  by_cases e : p = lval k c.Id
  ·rw [if_pos e,if_pos e,e]
  ·rw [if_neg e,if_neg e]
 refine ⟨⟨h.st,h.lab,h.leaf,fun p hp => h.ov p ?_,fun id => ?_,fun p => ?_,?_⟩,hnv,fun p => ?_⟩
 ·rw [hov] at hp
  split at hp <;> omega
 ·rw [hnv]
  have:=h.nb id
  split <;> omega
 ·rw [hov]
  have:=h.ob p
  split <;> omega
 ·have:=h.gb
  show 0 ≤ w64 (k.gone + c.Size.Mem) ∧ w64 (k.gone + c.Size.Mem) ≤ ((n + 1 : Nat) : Int) * 1073741824
  rw [ao (by omega) (by omega)]
  omega
 ·rw [hov]
  split <;> omega
theorem wO : ∀ {l : List Share} {x : Share},(∀ y ∈ l,0 ≤ y.Mem) → x ∈ l → x.Mem ≤ (l.map (·.Mem)).sum
 | a :: l,x,h,hx => by
  have h1:=xc l fun y hy => h y (by simp [hy])
  have h2:=h a (by simp)
  rw [List.map_cons,List.sum_cons]
  rcases List.mem_cons.1 hx with rfl | hx
  ·omega
  ·have:=wO (fun y hy => h y (by simp [hy])) hx
   omega
section
variable {N : Nat} {s : State} {label : Int}
theorem yu (h : Inv N s) {x : Share} (hx : x ∈ pIdeal s label) : (0 ≤ x.Mem ∧ x.Mem ≤ 12884901888) ∧ x.Path.length ≤ 1000000 ∧ pLeaf s.Conf x.Path = true:=by
 have htb:=pF h.sb label
 have hnl:=h.nl
 have hT : 0 ≤ (iO s label).Mem ∧ (iO s label).Mem ≤ 12 * 1073741824:=by
  unfold VB at htb
  omega
 have hsum:=z5 s label 3 root _ hT.1
 have hdef : pIdeal s label = pI 3 s root label (iO s label).Mem:=rfl
 rw [← hdef] at hsum
 have h1:=wO hsum.2 hx
 have h2:=hsum.2 x hx
 obtain ⟨y,ey,hy⟩:=sG h label
 rw [yK h] at ey
 cases ey
 have h3:=(r_ h.cf (hy.2 x hx)).len
 exact ⟨⟨h2,by omega⟩,by omega,hy.2 x hx⟩
theorem tP (h : Inv N s) (p : Str) : 0 ≤ (pUsed s p label true 0).Mem ∧ (pUsed s p label true 0).Mem ≤ 214748364800:=(vE h label p).1
theorem wb {α : Type} {l : List α} {k : Nat} (h : k < l.length) {x : α} (hx : x ∈ l.take (k + 1)) : x ∈ l.take k ∨ x = l[k]:=by
 rw [List.take_succ_eq_append_getElem h] at hx
 rcases List.mem_append.1 hx with hx | hx
 ·exact .inl hx
 ·exact .inr (by simpa using hx)
def N0 (s : State) (label : Int) (cs : List Cont) (k : Looker) : Prop:=∀ c ∈ cs,c.Label = label → c.Notice ≠ 0 → 0 < nval k c.Id
theorem HI (h : Inv N s) (hN : N ≤ 1000000) (hl0 : 0 ≤ label) (hl1 : label < s.Conf.Labels.length) : Gv (kJ s label) fun k => LK s label 200 k ∧ N0 s label s.Conts k:=by
 unfold kJ
 rw [yP h hl0 hl1,Jw]
 have hil:=rO h label
 have hcl:=h.cl
 refine ad (aG (Q:=fun k => LK s label 0 k) (fun (k : Looker) i => (k,i)) (pIdeal s label).length (fun _ k => LK s label 0 k ∧ k.leaf = [] ∧ k.noticed = [] ∧ k.gone = 0) (step:=fW s label (pIdeal s label)) (by omega) ?_ ?_ ?_) ?_
 ·rintro i hi k ⟨hk,h1,h2,h3⟩
  unfold fW
  dsimp only
  rw [aj hi,cond_true,aM hi,Jw,Jx hi,Jw]
  have hx:=List.getElem_mem hi
  generalize (pIdeal s label)[i] = x at hx
  obtain ⟨b1,b2,_⟩:=yu h hx
  have b3:=tP (label:=label) h x.Path
  rw [tv h b2,Jw]
  refine aa (.inl ⟨_,rfl,?_,h1,h2,h3⟩)
  have hov : ∀ p,oval (⟨k.s,k.label,mput (fun x3 : Ent0_ListUInt8Int => x.Path == x3.k) k.over ⟨x.Path,w64 ((pUsed s x.Path label true 0).Mem - x.Mem)⟩,k.leaf,k.noticed,k.gone⟩ : Looker) p = if p = x.Path then (pUsed s x.Path label true 0).Mem - x.Mem else oval k p:=by
   intro p
   unfold oval
   dsimp only
   rw [n8 (key:=fun x : Ent0_ListUInt8Int => x.k) (q':=x.Path) rfl]
   by_cases e : p = x.Path
   ·rw [if_pos e,if_pos e]
    dsimp only
    rw [ao (by omega) (by omega)]
   ·rw [if_neg e,if_neg e]
  refine ⟨hk.st,hk.lab,hk.leaf,fun p hp => ?_,hk.nb,fun p => ?_,hk.gb⟩
  ·have hp : 0 < oval (⟨k.s,k.label,mput (fun x3 : Ent0_ListUInt8Int => x.Path == x3.k) k.over ⟨x.Path,w64 ((pUsed s x.Path label true 0).Mem - x.Mem)⟩,k.leaf,k.noticed,k.gone⟩ : Looker) p:=hp
   rw [hov] at hp
   by_cases e : p = x.Path
   ·rw [if_pos e] at hp
    exact ⟨x,hx,e.symm,by rw [e]; omega⟩
   ·rw [if_neg e] at hp
    exact hk.ov p hp
  ·show _ ≤ oval (⟨k.s,k.label,mput (fun x3 : Ent0_ListUInt8Int => x.Path == x3.k) k.over ⟨x.Path,w64 ((pUsed s x.Path label true 0).Mem - x.Mem)⟩,k.leaf,k.noticed,k.gone⟩ : Looker) p ∧ oval (⟨k.s,k.label,mput (fun x3 : Ent0_ListUInt8Int => x.Path == x3.k) k.over ⟨x.Path,w64 ((pUsed s x.Path label true 0).Mem - x.Mem)⟩,k.leaf,k.noticed,k.gone⟩ : Looker) p ≤ _
   rw [hov]
   have:=hk.ob p
   split <;> omega
 ·rintro k ⟨hk,_⟩
  unfold fW
  dsimp only
  rw [ar,cond_false]
  exact aa ⟨_,rfl,hk⟩
 ·refine ⟨⟨rfl,rfl,fun id hid => ?_,fun p hp => ?_,fun id => ?_,fun p => ?_,?_⟩,rfl,rfl,rfl⟩
  ·simp [lhas,mhas] at hid
  ·simp [oval,mget] at hp
  ·simp [nval,mget]
  ·simp [oval,mget]
  ·simp
 ·intro k0 hk0
  refine ad (aG (Q:=fun k => LK s label 200 k ∧ N0 s label s.Conts k) (fun (k : Looker) i => (k,i)) s.Conts.length (fun m k => LK s label m k ∧ N0 s label (s.Conts.take m) k) (step:=gA s label) (by omega) ?_ ?_ ⟨hk0,fun c hc => by simp at hc⟩) (fun k hk => aa hk)
  ·rintro i hi k ⟨hk,hn0⟩
   unfold gA
   dsimp only
   rw [aj hi,cond_true,ai hi,Jw]
   have hm : s.Conts[i] ∈ s.Conts:=List.getElem_mem hi
   have htk : ∀ c ∈ s.Conts.take (i + 1),c ∈ s.Conts.take i ∨ c = s.Conts[i]:=fun c hc => wb hi hc
   generalize s.Conts[i] = c at hm htk
   have hco:=h.ck c hm
   refine ad (P:=fun k' => LK s label (i + 1) k' ∧ N0 s label (s.Conts.take (i + 1)) k') ?_ (fun k' hk' => aa (.inl ⟨k',rfl,hk'⟩))
   cases hlb : c.Label != label with
   | true =>
    rw [cond_true]
    refine aa ⟨hk.mono (by omega),?_⟩
    intro c' hc' hl hnz
    rcases htk c' hc' with hc' | rfl
    ·exact hn0 c' hc' hl hnz
    ·rw [hl] at hlb; simp at hlb
   | false =>
    have hlab : c.Label = label:=by simpa using hlb
    obtain ⟨a,ha,hai,_⟩:=hco.app
    have hat : appAt s c.App = some a:=by rw [← hai]; exact h.appAt ha
    rw [cond_false,BJ (h.small hN),hat,Option.elim_some,Jw]
    have hk1 : LK s label i (⟨k.s,k.label,k.over,mput (fun x6 : Ent2_IntListUInt8 => c.Id == x6.k) k.leaf ⟨c.Id,a.Queue⟩,k.noticed,k.gone⟩ : Looker):=by
     refine ⟨hk.st,hk.lab,fun id hid => ?_,hk.ov,hk.nb,hk.ob,hk.gb⟩
     unfold lhas at hid
     dsimp only at hid
     rw [zd (key:=fun x : Ent2_IntListUInt8 => x.k) (q':=c.Id) rfl] at hid
     by_cases e : id = c.Id
     ·refine ⟨c,hm,e.symm,hlab,a,ha,hai,?_⟩
      unfold lval
      dsimp only
      rw [n8 (key:=fun x : Ent2_IntListUInt8 => x.k) (q':=c.Id) rfl,if_pos e]
     ·have : (id == c.Id) = false:=by rw [beq_eq_false_iff_ne]; exact e
      rw [this,Bool.false_or] at hid
      obtain ⟨c',hc',h1,h2,a',ha',h3,h4⟩:=hk.leaf id hid
      refine ⟨c',hc',h1,h2,a',ha',h3,?_⟩
      rw [← h4]
      unfold lval
      dsimp only
      rw [n8 (key:=fun x : Ent2_IntListUInt8 => x.k) (q':=c.Id) rfl,if_neg e]
    cases hnz : c.Notice != 0 with
    | false =>
     rw [cond_false]
     refine aa ⟨hk1.mono (by omega),?_⟩
     intro c' hc' hl hnz'
     rcases htk c' hc' with hc' | rfl
     ·exact hn0 c' hc' hl hnz'
     ·exact absurd (by simpa using hnz) hnz'
    | true =>
     rw [cond_true]
     obtain ⟨k',e,hk',hnv,_⟩:=hk1.notice (by omega) hco.size
     show Gv ((bD (⟨k.s,k.label,k.over,mput (fun x6 : Ent2_IntListUInt8 => c.Id == x6.k) k.leaf ⟨c.Id,a.Queue⟩,k.noticed,k.gone⟩ : Looker) c).bind fun x7 => some x7) _
     rw [e,Jw]
     refine aa ⟨hk',?_⟩
     intro c' hc' hl hnz'
     rw [hnv]
     rcases htk c' hc' with hc' | rfl
     ·have h1:=hn0 c' hc' hl hnz'
      have h2 : nval (⟨k.s,k.label,k.over,mput (fun x6 : Ent2_IntListUInt8 => c.Id == x6.k) k.leaf ⟨c.Id,a.Queue⟩,k.noticed,k.gone⟩ : Looker) c'.Id = nval k c'.Id:=rfl
      rw [h2]
      split <;> omega
     ·rw [if_pos rfl]
      have h2:=hk.nb c'.Id
      have h3 : nval (⟨k.s,k.label,k.over,mput (fun x6 : Ent2_IntListUInt8 => c'.Id == x6.k) k.leaf ⟨c'.Id,a.Queue⟩,k.noticed,k.gone⟩ : Looker) c'.Id = nval k c'.Id:=rfl
      rw [h3]
      omega
  ·rintro k ⟨hk,hn0⟩
   unfold gA
   dsimp only
   rw [ar,cond_false]
   rw [List.take_length] at hn0
   exact aa ⟨_,rfl,hk.mono hcl,hn0⟩
end
section
variable {N : Nat} {s : State} {label : Int}
def nC (s : State) (label : Int) : Prop :=
 ∀ a ∈ s.Apps,pLive a = true → ∀ x ∈ a.Asks,x.Label = label → ¬ (x.Size.Mem + (pUsed s a.Queue label true 0).Mem ≤ (pDown s a.Queue label true).Mem)
theorem G5 (h : Inv N s) (p : Str) : 0 ≤ (gG s p label).Mem ∧ (gG s p label).Mem ≤ 6871947673600:=(vE h label p).2
theorem EG (h : Inv N s) (p : Str) : 0 ≤ (pDown s p label true).Mem ∧ (pDown s p label true).Mem ≤ 12884901888:=by
 have h1:=h.sc.down_bd (path:=p) label true
 have h2:=h.nl
 unfold VB at h1
 omega
def QN (s : State) (label : Int) (x : Int ⊕ Unit) : Prop:=match x with
 | .inl v => (-1125899906842624 ≤ v ∧ v ≤ 1125899906842624) ∧ ¬ nC s label
 | .inr _ => True
theorem HZ (h : Inv N s) (hl0 : 0 ≤ label) (hl1 : label < s.Conf.Labels.length) {k : Looker} (hk : k.s = s) (hlb : k.label = label) {a : App} (ha : a ∈ s.Apps) (hlive : pLive a = true) :
  Gv (loop (ct k a.Queue (pUsed s a.Queue label true 0) (pDown s a.Queue label true) a) 0) (QN s label):=by
 have hak:=h.ak a ha
 have hp : a.Queue.length ≤ 1000000:=by have:=hak.path.len; omega
 refine aG (σ:=Unit) (fun _ i => i) a.Asks.length (fun _ _ => True) (by have:=hak.al; omega) ?_ ?_ (s:=()) trivial
 ·intro i hi _ _
  unfold ct
  rw [aj hi,cond_true,ai hi,Jw,hk,hlb]
  have hx : a.Asks[i] ∈ a.Asks:=List.getElem_mem hi
  generalize a.Asks[i] = x at hx
  have hsz:=(hak.ask x hx).size.1
  have hu:=tP (label:=label) h a.Queue
  have hle:=EG (label:=label) h a.Queue
  have hpe:=G5 (label:=label) h a.Queue
  rw [ao (by omega) (by omega)]
  cases hlab : x.Label == label with
  | false =>
   rw [cond_false,Jw,cond_false]
   exact aa (.inl ⟨(),rfl,trivial⟩)
  | true =>
   rw [cond_true,Jw]
   by_cases hn : (pUsed s a.Queue label true 0).Mem + x.Size.Mem ≤ (pDown s a.Queue label true).Mem
   ·rw [decide_eq_true hn,cond_true,vW h hp,Jw]
    refine aa (.inr ⟨_,rfl,?_,fun hno => hno a ha hlive x hx (by simpa using hlab) (by omega)⟩)
    rw [ao (by omega) (by omega)]
    unfold imin
    split <;> omega
   ·rw [decide_eq_false hn,cond_false]
    exact aa (.inl ⟨(),rfl,trivial⟩)
 ·intro _ _
  unfold ct
  rw [ar,cond_false]
  exact aa ⟨_,rfl,trivial⟩
theorem DU (h : Inv N s) (hl0 : 0 ≤ label) (hl1 : label < s.Conf.Labels.length) {k : Looker} (hk : k.s = s) (hlb : k.label = label) {path : Str} (hp : path.length ≤ 1000000) :
  Gv (co k path) fun r => r.2 = k ∧ (-1125899906842624 ≤ r.1 ∧ r.1 ≤ 1125899906842624) ∧ (nC s label → r.1 = 0):=by
 unfold co
 rw [hk,hlb,tv h hp,Jw,yV h.sc hp hl0 hl1,Jw]
 refine ad (P:=QN s label) (aG (σ:=Unit) (fun _ i => i) s.Apps.length (fun _ _ => True) (by have:=h.al; omega) ?_ ?_ (s:=()) trivial) ?_
 ·intro i hi _ _
  unfold cv
  rw [hk,aj hi,cond_true,ai hi,Jw]
  have ha : s.Apps[i] ∈ s.Apps:=List.getElem_mem hi
  generalize s.Apps[i] = a at ha
  have hlv : ml a = some (pLive a):=by
   unfold ml pLive
   cases a.State == 1 <;> rfl
  rw [hlv,Jw]
  cases hli : pLive a with
  | false =>
   rw [Bool.not_false,cond_true,Jw,cond_true,Jw]
   exact aa (.inl ⟨(),rfl,trivial⟩)
  | true =>
   rw [Bool.not_true,cond_false,Jw]
   cases hq : a.Queue == path with
   | false =>
    rw [Bool.not_false,cond_true,Jw]
    exact aa (.inl ⟨(),rfl,trivial⟩)
   | true =>
    have hqe : a.Queue = path:=by simpa using hq
    subst hqe
    rw [Bool.not_true,cond_false]
    obtain ⟨r,e,hr⟩:=HZ h hl0 hl1 hk hlb ha hli
    rw [e,Jw]
    cases r with
    | inl v => exact aa (.inr ⟨_,rfl,hr⟩)
    | inr _ => exact aa (.inl ⟨(),rfl,trivial⟩)
 ·intro _ _
  unfold cv
  rw [hk,ar,cond_false]
  exact aa ⟨_,rfl,trivial⟩
 ·intro r hr
  cases r with
  | inl v => exact aa ⟨rfl,hr.1,fun hno => absurd hno hr.2⟩
  | inr _ => exact aa ⟨rfl,by omega,fun _ => rfl⟩
theorem Ip (h : Inv N s) (hl0 : 0 ≤ label) (hl1 : label < s.Conf.Labels.length) {k : Looker} (hk : k.s = s) (hlb : k.label = label) :
  Gv (cK k) fun r => r.2 = k ∧ (nC s label → r.1 ≤ 0):=by
 have hil:=rO h label
 unfold cK
 rw [hk,hlb,yP h hl0 hl1,Jw]
 refine ad (aG (Q:=fun q => q.1 = k ∧ (-(1125899906842624 * 4096) ≤ q.2 ∧ q.2 ≤ 1125899906842624 * 4096) ∧ (nC s label → q.2 = 0)) (fun (t : Looker × Int) i => (t.1,t.2,i)) (pIdeal s label).length
  (fun m t => t.1 = k ∧ (-(1125899906842624 * (m : Int)) ≤ t.2 ∧ t.2 ≤ 1125899906842624 * (m : Int)) ∧ (nC s label → t.2 = 0)) (step:=bT (pIdeal s label)) (by omega) ?_ ?_ (s:=(k,0)) ⟨rfl,by simp,fun _ => rfl⟩) ?_
 ·rintro i hi ⟨k',sum⟩ ⟨h1,h2,h3⟩
  dsimp only at h1 h2 h3
  subst h1
  unfold bT
  dsimp only
  rw [aj hi,cond_true,aM hi,Jw,Jx hi,Jw]
  have hx:=List.getElem_mem hi
  generalize (pIdeal s label)[i] = x at hx
  obtain ⟨r,e,hr1,hr2,hr3⟩:=DU h hl0 hl1 hk hlb (yu h hx).2.1
  rw [e,Jw,ao (by omega) (by omega)]
  refine aa (.inl ⟨(r.2,sum + r.1),rfl,hr1,by dsimp only; omega,fun hno => by dsimp only; rw [h3 hno,hr3 hno]; rfl⟩)
 ·rintro ⟨k',sum⟩ ⟨h1,h2,h3⟩
  unfold bT
  dsimp only
  rw [ar,cond_false]
  refine aa ⟨_,rfl,h1,?_,h3⟩
  dsimp only at h2 ⊢
  omega
 ·rintro ⟨k',sum⟩ ⟨h1,h2,h3⟩
  dsimp only at h1 h2 h3 ⊢
  subst h1
  rw [hk,hlb,uL h.sc,Jw,tv h (by decide),Jw]
  have htb:=pF h.sb label
  have hnl:=h.nl
  have hu:=tP (label:=label) h ([114,111,111,116] : Str)
  unfold VB at htb
  rw [ao (x:=(iO s label).Mem - _) (by omega) (by omega)]
  have him : 0 ≤ imax ((iO s label).Mem - (pUsed s [114,111,111,116] label true 0).Mem) 0 ∧ imax ((iO s label).Mem - (pUsed s [114,111,111,116] label true 0).Mem) 0 ≤ 12884901888:=by
   unfold imax
   split <;> omega
  rw [ao (by omega) (by omega)]
  refine aa ⟨rfl,fun hno => ?_⟩
  dsimp only
  rw [h3 hno]
  omega
def Fine (s : State) (label : Int) (id : Int) : Prop :=
 ∃ c ∈ s.Conts,c.Id = id ∧ c.Notice = 0 ∧ c.Label = label ∧ ∃ a ∈ s.Apps,a.Id = c.App ∧ ∃ x ∈ pIdeal s label,x.Path = a.Queue ∧ x.Mem < (pUsed s a.Queue label true 0).Mem
theorem xr : ∀ {l1 l2 : List Int},l1.Nodup → (∀ x ∈ l1,x ∈ l2) → l1.length ≤ l2.length
 | [],_,_,_ => Nat.zero_le _
 | a :: l,l2,hn,hs => by
  have hn':=List.nodup_cons.1 hn
  have h:=xr (l2:=l2.erase a) hn'.2 (fun x hx => by
   have hxa : x ≠ a:=fun e => hn'.1 (e ▸ hx)
   exact (List.mem_erase_of_ne hxa).2 (hs x (by simp [hx])))
  have ha:=hs a (by simp)
  rw [List.length_erase_of_mem ha] at h
  have:=List.length_pos_of_mem ha
  simp only [List.length_cons]
  omega
theorem FV (h : Inv N s) (hN : N ≤ 1000000) (hl0 : 0 ≤ label) (hl1 : label < s.Conf.Labels.length) :
  Gv (fM s label) fun l => (nC s label → l = []) ∧ l.Nodup ∧ (∀ id ∈ l,Fine s label id) ∧ l.length ≤ 200:=by
 have hcl:=h.cl
 unfold fM
 refine ad (HI h hN hl0 hl1) ?_
 rintro k0 ⟨hk0,hn0⟩
 refine ad (Ip h hl0 hl1 hk0.st hk0.lab) ?_
 rintro ⟨nd,k1⟩ ⟨e,hno⟩
 dsimp only at e hno
 subst e
 refine ad (gj (Q:=fun l => (nC s label → l = []) ∧ l.Nodup ∧ (∀ id ∈ l,Fine s label id) ∧ l.length ≤ 200)
  (fun t => LK s label (200 + t.2.length) t.1 ∧ N0 s label s.Conts t.1 ∧ (∀ id ∈ t.2,0 < nval t.1 id ∧ Fine s label id) ∧ t.2.Nodup ∧ (nC s label → t.2 = [])) (fun t => 200 - t.2.length) ?_ (t:=(k1,[])) ⟨hk0,hn0,by simp,List.nodup_nil,fun _ => rfl⟩) (fun l hl => aa hl)
 rintro ⟨k,out⟩ ⟨hk,hn,hf,hnd,hne⟩
 dsimp only at hk hn hf hnd hne
 have hlen : ∀ {l : List Int},l.Nodup → (∀ id ∈ l,Fine s label id) → l.length ≤ s.Conts.length:=by
  intro l h1 h2
  have:=xr (l2:=s.Conts.map (·.Id)) h1 (fun id hid => by
   obtain ⟨c,hc,e,_⟩:=h2 id hid
   exact List.mem_map.2 ⟨c,hc,e⟩)
  simpa using this
 have hol:=hlen hnd (fun id hid => (hf id hid).2)
 unfold ma
 dsimp only
 by_cases hg : k.gone < nd
 ·rw [decide_eq_true hg,cond_true]
  have hnot : ¬ nC s label:=fun hx => by have:=hno hx; have:=hk.gb; omega
  have hcl2 : k.s.Conts.length ≤ 200:=by rw [hk.st]; exact hcl
  refine ad (HK hcl2 (fun i hi => ?_)) ?_
  ·obtain ⟨c,hc,_,_,a,ha,_,e⟩:=hk.leaf i hi
   rw [e]
   intro e0
   have hr:=(h.ak a ha).path.root
   rw [e0] at hr
   rcases hr with hr | ⟨t,hr⟩
   ·cases hr
   ·cases hr
  ·rintro ⟨c,is,k2⟩ ⟨e,hc⟩
   dsimp only at e hc ⊢
   subst e
   cases is with
   | false =>
    rw [Bool.not_false,cond_true]
    exact aa (.inr ⟨_,rfl,fun hx => absurd hx hnot,hnd,fun id hid => (hf id hid).2,by omega⟩)
   | true =>
    rw [Bool.not_true,cond_false]
    obtain ⟨c1,c2,c3,c4⟩:=hc rfl
    rw [hk.st] at c1
    have hco:=h.ck c c1
    obtain ⟨c',hc',hci,hcl',a,ha,hai,hq⟩:=hk.leaf c.Id c2
    have hcc : c' = c:=by
     have f1:=vu (id:=fun x : Cont => x.Id) h.cs c1
     have f2:=vu (id:=fun x : Cont => x.Id) h.cs hc'
     rw [hci,f1] at f2
     exact (Option.some.inj f2).symm
    subst hcc
    have hnotice : c'.Notice = 0:=by
     refine Classical.byContradiction fun hnz => ?_
     have:=hn c' c1 hcl' hnz
     omega
    rw [hq] at c4
    obtain ⟨x,hx,hxp,hxm⟩:=hk.ov _ c4
    have hfine : Fine s label c'.Id:=⟨c',c1,rfl,hnotice,hcl',a,ha,hai,x,hx,hxp,hxm⟩
    obtain ⟨k3,e3,hk3,hnv,_⟩:=hk.notice (by omega) hco.size
    rw [e3,Jw,am (by simp; omega) (by omega),Jw]
    have hnew : c'.Id ∉ out:=fun hin => by have:=(hf _ hin).1; omega
    have hnd' : (out ++ [c'.Id]).Nodup:=by
     rw [List.nodup_append]
     exact ⟨hnd,by simp,fun x hx y hy => by rw [JA] at hy; subst hy; exact fun e => hnew (e ▸ hx)⟩
    have hf' : ∀ id ∈ out ++ [c'.Id],0 < nval k3 id ∧ Fine s label id:=by
     intro id hid
     rw [hnv]
     rcases List.mem_append.1 hid with hid | hid
     ·have h1:=hf id hid
      refine ⟨?_,h1.2⟩
      split <;> omega
     ·rw [JA] at hid
      subst hid
      rw [if_pos rfl]
      have:=hk.nb c'.Id
      exact ⟨by omega,hfine⟩
    have hl':=hlen hnd' (fun id hid => (hf' id hid).2)
    refine aa (.inl ⟨_,rfl,⟨?_,?_,hf',hnd',fun hx => absurd hx hnot⟩,?_⟩)
    ·dsimp only
     refine hk3.mono (by simp; omega)
    ·intro c2' hc2' hl2 hnz2
     dsimp only
     rw [hnv]
     have:=hn c2' hc2' hl2 hnz2
     split <;> omega
    ·dsimp only
     simp only [Jz,List.length_cons,List.length_nil] at hl' ⊢
     omega
 ·rw [decide_eq_false hg,cond_false]
  exact aa (.inr ⟨_,rfl,hne,hnd,fun id hid => (hf id hid).2,by omega⟩)
end
section
variable {N : Nat} {s : State} {label : Int}
theorem CV (h : Inv N s) {a : App} (ha : a ∈ s.Apps) (b0 : Bool) :
  Gv (loop (eT s label a) (b0,0)) fun b => (b = false → b0 = false ∧ (pLive a = true → ∀ x ∈ a.Asks,x.Label = label → ¬ (x.Size.Mem + (pUsed s a.Queue label true 0).Mem ≤ (pDown s a.Queue label true).Mem))):=by
 have hak:=h.ak a ha
 have hp : a.Queue.length ≤ 1000000:=by have:=hak.path.len; omega
 have hal:=hak.al
 refine gj (fun t => ∃ k : Nat,t.2 = (k : Int) ∧ k ≤ a.Asks.length ∧ (t.1 = false → b0 = false ∧ ∀ x ∈ a.Asks.take k,pLive a = true → x.Label = label → ¬ (x.Size.Mem + (pUsed s a.Queue label true 0).Mem ≤ (pDown s a.Queue label true).Mem)))
  (fun t => a.Asks.length - t.2.toNat) ?_ ⟨0,rfl,by omega,fun e => ⟨e,by simp⟩⟩
 rintro ⟨b,i⟩ ⟨k,hi,hk,hb⟩
 dsimp only at hi hb
 subst hi
 unfold eT
 dsimp only
 by_cases hkl : k < a.Asks.length
 ·rw [aj hkl,cond_true,lT,Jw,Jw]
  cases hli : pLive a with
  | false =>
   rw [cond_false]
   exact aa (.inr ⟨_,rfl,fun e => ⟨(hb e).1,fun hx => by cases hx⟩⟩)
  | true =>
   rw [cond_true,ai hkl,Jw]
   have htk : ∀ x ∈ a.Asks.take (k + 1),x ∈ a.Asks.take k ∨ x = a.Asks[k]:=fun x hx => wb hkl hx
   have hx : a.Asks[k] ∈ a.Asks:=List.getElem_mem hkl
   generalize a.Asks[k] = x at hx htk
   have hsz:=(hak.ask x hx).size.1
   have hu:=tP (label:=label) h a.Queue
   refine ad (P:=fun b' => b' = false → b = false ∧ (x.Label = label → ¬ (x.Size.Mem + (pUsed s a.Queue label true 0).Mem ≤ (pDown s a.Queue label true).Mem))) ?_ ?_
   ·cases b with
    | true => rw [cond_true]; exact aa fun e => by cases e
    | false =>
     rw [cond_false]
     cases hlab : x.Label == label with
     | false =>
      rw [cond_false]
      exact aa fun _ => ⟨rfl,fun e => by rw [e] at hlab; simp at hlab⟩
     | true =>
      rw [cond_true,jw h.sb,Jw,mI h.sc hp,Jw,ao (by omega) (by omega)]
      refine aa fun e => ⟨rfl,fun _ => ?_⟩
      simpa using e
   ·intro b' hb'
    refine aa (.inl ⟨_,rfl,⟨k + 1,?_,by omega,?_⟩,?_⟩)
    ·dsimp only
     exact xH (by omega)
    ·intro e
     obtain ⟨e1,e2⟩:=hb' e
     obtain ⟨e3,e4⟩:=hb e1
     refine ⟨e3,fun y hy hl hlab => ?_⟩
     rcases htk y hy with hy | rfl
     ·exact e4 y hy hli hlab
     ·exact e2 hlab
    ·dsimp only
     rw [xH (by omega)]
     simp only [Int.toNat_natCast]
     omega
 ·have : k = a.Asks.length:=by omega
  subst this
  rw [ar,cond_false,Jw,cond_false]
  rw [List.take_length] at hb
  exact aa (.inr ⟨_,rfl,fun e => ⟨(hb e).1,fun hl x hx hlab => (hb e).2 x hx hl hlab⟩⟩)
theorem C0 (h : Inv N s) : Gv (loop (bG s label) (false,0)) fun b => b = false → nC s label:=by
 have hal:=h.al
 refine aG (σ:=Bool) (fun b i => (b,i)) s.Apps.length (fun k b => b = false → ∀ a ∈ s.Apps.take k,pLive a = true → ∀ x ∈ a.Asks,x.Label = label → ¬ (x.Size.Mem + (pUsed s a.Queue label true 0).Mem ≤ (pDown s a.Queue label true).Mem)) (step:=bG s label) (by omega) ?_ ?_ (by simp)
 ·intro k hk b hb
  unfold bG
  dsimp only
  rw [aj hk,cond_true,ai hk,Jw]
  have htk : ∀ x ∈ s.Apps.take (k + 1),x ∈ s.Apps.take k ∨ x = s.Apps[k]:=fun x hx => wb hk hx
  have ha : s.Apps[k] ∈ s.Apps:=List.getElem_mem hk
  generalize s.Apps[k] = a at ha htk
  refine ad (CV h ha b) fun b' hb' => aa (.inl ⟨b',rfl,fun e a' ha' => ?_⟩)
  obtain ⟨e1,e2⟩:=hb' e
  rcases htk a' ha' with ha' | rfl
  ·exact hb e1 a' ha'
  ·exact e2
 ·intro b hb
  unfold bG
  dsimp only
  rw [ar,cond_false]
  rw [List.take_length] at hb
  exact aa ⟨_,rfl,hb⟩
theorem Df (h : Inv N s) {x y : Share} (hx : x ∈ pIdeal s label) (hy : y ∈ pIdeal s label) (e : x.Path = y.Path) : x = y:=by
 have hp : (pIdeal s label).Pairwise fun x y => Op.bytesLess x.Path y.Path = true:=yb h label 3 root _
 generalize pIdeal s label = l at hx hy hp
 induction l with
 | nil => cases hx
 | cons a l ih =>
  have hp':=List.pairwise_cons.1 hp
  rcases List.mem_cons.1 hx with hx1 | hx1
  ·rcases List.mem_cons.1 hy with hy1 | hy1
   ·rw [hx1,hy1]
   ·have:=hp'.1 y hy1
    rw [← hx1,e,rY] at this
    cases this
  ·rcases List.mem_cons.1 hy with hy1 | hy1
   ·have:=hp'.1 x hx1
    rw [← hy1,e,rY] at this
    cases this
   ·exact ih hx1 hy1 hp'.2
theorem FK (h : Inv N s) {x : Share} (hx : x ∈ pIdeal s label) : cC s label x.Path = some x.Mem:=by
 have hil:=rO h label
 unfold cC
 rw [yK h,Jw]
 have e:=d6 (fun i => i) (pIdeal s label) (fun y => y.Path == x.Path) (fun y => (.inl y.Mem : Int ⊕ Unit)) (.inr ()) (step:=bj x.Path (pIdeal s label)) (by omega) ?_ ?_ ?_
 ·rw [e]
  cases hf : (pIdeal s label).find? fun y => y.Path == x.Path with
  | none =>
   have:=List.find?_eq_none.1 hf x hx
   simp at this
  | some y =>
   have h1:=List.mem_of_find?_eq_some hf
   have h2:=List.find?_some hf
   rw [Df h h1 hx (by simpa using h2)]
   rfl
 ·intro k hk hp
  unfold bj
  rw [aj hk,cond_true,aM hk,Jw,Jx hk,Jw,hp,cond_false]
 ·intro k hk hp
  unfold bj
  rw [aj hk,cond_true,aM hk,Jw,Jx hk,Jw,hp,cond_true,Jw,Jx hk]
  rfl
 ·unfold bj
  rw [ar]
  rfl
end
theorem wn {step : Int → Option (Int ⊕ (Bool ⊕ Unit))} (n : Nat) (hn : n < 1000000000) (h1 : ∀ k,k < n → step (k : Int) = some (.inl (w64 ((k : Int) + 1)))) (h2 : step (n : Int) = some (.inr (.inr ()))) : loop step 0 = some (.inr ()):=by
 obtain ⟨x,e,rfl⟩:=aG (σ:=Unit) (Q:=fun x => x = (.inr () : Bool ⊕ Unit)) (fun _ i => i) n (fun _ _ => True) (step:=step) hn (fun k hk _ _ => bz (h1 k hk) (.inl ⟨(),rfl,trivial⟩)) (fun _ _ => bz h2 ⟨_,rfl,rfl⟩) (s:=()) trivial
 exact e
theorem F0 (x : Script) : cq x = some (decide (x.Ns.length ≤ 30) && decide (x.Acts.length ≤ 80)):=by
 unfold cq
 have e1 : decide ((x.Ns.length : Int) ≤ 30) = decide (x.Ns.length ≤ 30):=by rw [decide_eq_decide]; omega
 have e2 : decide ((x.Acts.length : Int) ≤ 80) = decide (x.Acts.length ≤ 80):=by rw [decide_eq_decide]; omega
 rw [e1,e2]
 cases decide (x.Ns.length ≤ 30) <;> rfl
theorem law17 {x : Script} {m : State → Option Bool} (h : ∀ s,Inv 400000 s → m s = some true) : ((cq x).bind fun x2 => bif ! x2 then some true else (b7 x).bind m) = some true:=by
 rw [F0,Jw]
 by_cases h1 : x.Ns.length ≤ 30
 ·by_cases h2 : x.Acts.length ≤ 80
  ·rw [decide_eq_true h1,decide_eq_true h2]
   obtain ⟨s,e,hs⟩:=FS x h1 h2
   rw [e]
   exact h s hs
  ·rw [decide_eq_false h2,Bool.and_false]; rfl
 ·rw [decide_eq_false h1]; rfl
theorem Fb (hkn : cL = some true) (a0 : Script) : bZ a0 = some true:=by
 unfold bZ
 rw [hkn]
 simp only [Jw,Bool.not_true,cond_false]
 refine law17 fun s hs => ?_
 have hlab:=hs.cf.lab
 rw [wn s.Conf.Labels.length (by omega)]
 ·rfl
 ·intro k hk
  unfold eU
  obtain ⟨b,eb,hb⟩:=C0 (label:=(k : Int)) hs
  obtain ⟨l,el,h1,h2,h3,h4⟩:=FV (label:=(k : Int)) hs (by omega) (by omega) (by omega)
  rw [aj hk,cond_true,eb,Jw,el,Jw]
  have e1 : (bif !b then some (decide ((l.length : Int) > 0)) else some false) = some false:=by
   cases b with
   | true => rfl
   | false =>
    have:=h1 (hb rfl)
    subst this
    rfl
  rw [e1,Jw,cond_false]
  rw [wn l.length (by omega)]
  ·rfl
  ·intro i hi
   unfold eN
   rw [aj hi,cond_true,aM hi,Jw,Jx hi,Jw]
   obtain ⟨c,hc,hid,hno,hcl,a,ha,hai,x,hx,hxp,hxm⟩:=h3 _ (List.getElem_mem hi)
   have hca : sL s l[i] = some c:=by rw [← hid]; exact vu hs.cs hc
   have hap : appAt s c.App = some a:=by rw [← hai]; exact hs.appAt ha
   rw [kh hs.z,hca,Option.elim_some,Jw,dV hs.z,hap,Option.elim_some,Jw]
   dsimp only
   have e2 : (c.Notice != 0) = false:=by rw [hno]; rfl
   have e3 : (c.Label != (k : Int)) = false:=by rw [hcl]; simp
   rw [Bool.not_true,cond_false,e2,cond_false,e3,cond_false,jw hs.sb,Jw,← hxp,FK hs hx,Jw,Jw]
   rw [hxp,decide_eq_false (by omega),cond_false]
   rw [wn i (by omega)]
   ·rfl
   ·intro j hj
    unfold eL
    have hjl : j < l.length:=by omega
    rw [aj hj,cond_true,aM hjl,Jw,Jx hjl,Jw,aM hi,Jw,Jx hi,Jw]
    have hne : (l[j] == l[i]) = false:=by
     rw [beq_eq_false_iff_ne]
     intro e
     exact (List.pairwise_iff_getElem.1 h2 j i hjl hi hj) e
    rw [hne,cond_false]
   ·unfold eL
    rw [ar]
    rfl
  ·unfold eN
   rw [ar]
   rfl
 ·unfold eU
  rw [ar]
  rfl
set_option maxRecDepth 1000000 in
theorem C9 : cL = some true:=(si).ok true (by kernel_rfl)
theorem wL (a0 : Script) : bZ a0 = some true:=Fb C9 a0
end Go.Fx.D
