/-
  The law over plain data: true at all inputs. Conditions: none.
-/
import Derived.Test.YtbhbgldkokjndaaGreatS18
import Derived.Lib.Mul64
import Derived.WalkKit
namespace Go.Fx.D
open Go Go.Fx
set_option linter.unusedVariables false
set_option linter.unusedSimpArgs false
theorem mI (a : Vec) : eI a = some (decide (VB 1125899906842624 a)):=by
 unfold eI
 have e : decide (VB 1125899906842624 a) = ((decide (a.Mem ≥ 0) && decide (a.Mem ≤ 1125899906842624)) && (decide (a.Cores ≥ 0) && decide (a.Cores ≤ 1125899906842624))):=by
  rw [Bool.eq_iff_iff,decide_eq_true_iff]
  simp only [Bool.and_eq_true,decide_eq_true_eq,VB,ge_iff_le]
 rw [e]
 cases decide (a.Mem ≥ 0) <;> cases decide (a.Mem ≤ 1125899906842624) <;> cases decide (a.Cores ≥ 0) <;> cases decide (a.Cores ≤ 1125899906842624) <;> rfl
theorem sM {a : Vec} (h : VB 1125899906842624 a) : kX a = some (a,0):=by
 unfold kX
 rw [mI,decide_eq_true h]
 rfl
theorem ro {a b : Vec} {n m : Int} (ha : VB n a) (hb : VB m b) (h : n + m ≤ 1125899906842624) : kD a b = some (vplus a b,0):=by
 have hn : 0 ≤ n ∧ 0 ≤ m:=by unfold VB at ha hb; omega
 have hs:=oY ha hb
 unfold kD
 rw [mI,mI,decide_eq_true (ha.mono (by omega)),decide_eq_true (hb.mono (by omega))]
 simp only [At,Bool.not_true,cond_false]
 have e : (⟨w64 (a.Mem + b.Mem),w64 (a.Cores + b.Cores)⟩ : Vec) = vplus a b:=by
  unfold VB vplus at hs
  dsimp only at hs
  rw [ao (by omega) (by omega),ao (by omega) (by omega)]
  rfl
 rw [e,sM (hs.mono h)]
 rfl
theorem uy (a b : Vec) : vplus a b = vplus b a:=by unfold vplus; congr 1 <;> omega
theorem tc (a b c : Vec) : vplus (vplus a b) c = vplus a (vplus b c):=by unfold vplus; dsimp only; congr 1 <;> omega
theorem o8 (a : Vec) : vplus ⟨0,0⟩ a = a:=by cases a; simp [vplus]
theorem tq (l : List Vec) (z : Vec) : l.foldl vplus z = vplus z (vsum l):=by
 induction l generalizing z with
 | nil => rw [xF,uy,o8]; rfl
 | cons x l ih => rw [List.foldl_cons,ih,nB,tc]
theorem Ap {l : List Vec} (hl : l.length ≤ 1000) (h : ∀ v ∈ l,VB 1099511627776 v) : l9 l = some (vsum l):=by
 unfold l9
 rw [(dN (fun v i => (v,i)) l vplus (fun k v => VB (1099511627776 * k) v) (fun v => v) (step:=kt l) (by omega) ?_ ?_ (s:=(⟨0,0⟩ : Vec)) (by simp [VB])).1]
 ·rw [tq,o8]; rfl
 ·intro k hk s hs
  have hb:=h _ (List.getElem_mem hk)
  refine ⟨?_,(oY hs hb).mono (by omega)⟩
  unfold kt
  rw [aj hk,ai hk]
  simp only [cond_true,At]
  rw [ro hs hb (by omega)]
  rfl
 ·intro s _
  unfold kt
  rw [ar]
  rfl
theorem u64w (x : Int) : IntKind.u64.wrap x = x % 18446744073709551616:=by rw [IntKind.wrap_u64]
theorem u64id {x : Int} (h : 0 ≤ x) (h2 : x < 18446744073709551616) : IntKind.u64.wrap x = x:=by rw [u64w]; omega
theorem shr32 (x : Int) : shrK .u64 x 32 = x / 4294967296:=by
 show x.fdiv (2 ^ min (32 : Int).toNat IntKind.u64.bits) = _
 rw [show (2 ^ min (32 : Int).toNat IntKind.u64.bits : Int) = 4294967296 from by decide,Int.fdiv_eq_ediv_of_nonneg _ (by decide)]
theorem andN (a b : Nat) (ha : a < 18446744073709551616) (hb : b < 18446744073709551616) : andK .u64 (a : Int) (b : Int) = ((a &&& b : Nat) : Int):=by
 show IntKind.u64.wrap ((BitVec.ofInt 64 (a : Int) &&& BitVec.ofInt 64 (b : Int)).toNat) = _
 have e : ((BitVec.ofInt 64 (a : Int) &&& BitVec.ofInt 64 (b : Int)).toNat) = a &&& b:=by
  rw [BitVec.toNat_and,BitVec.toNat_ofInt,BitVec.toNat_ofInt]
  congr 1 <;> omega
 rw [e]
 have : a &&& b ≤ a:=Nat.and_le_left
 exact u64id (by omega) (by omega)
theorem and32 (a : Nat) (ha : a < 18446744073709551616) : andK .u64 (a : Int) 4294967295 = ((a % 4294967296 : Nat) : Int):=by
 have:=andN a 4294967295 ha (by omega)
 rw [show ((4294967295 : Nat) : Int) = 4294967295 from rfl] at this
 rw [this,show (4294967295 : Nat) = 2 ^ 32 - 1 from rfl,Nat.and_two_pow_sub_one_eq_mod]
theorem ya (x y : Nat) (hx : x < 18446744073709551616) (hy : y < 18446744073709551616) :
  la (x : Int) (y : Int) = some (((x * y / 18446744073709551616 : Nat) : Int),((x * y % 18446744073709551616 : Nat) : Int)):=by
 obtain ⟨h1,h2,h3,h4⟩:=Lib.mul64_hi x y hx hy
 have a1:=Lib.half_mul_le (a:=x / 4294967296) (b:=y / 4294967296) (by omega) (by omega)
 have a2:=Lib.half_mul_le (a:=x / 4294967296) (b:=y % 4294967296) (by omega) (by omega)
 have a3:=Lib.half_mul_le (a:=x % 4294967296) (b:=y / 4294967296) (by omega) (by omega)
 have a4:=Lib.half_mul_le (a:=x % 4294967296) (b:=y % 4294967296) (by omega) (by omega)
 have w : ∀ a : Nat,a < 18446744073709551616 → IntKind.u64.wrap (a : Int) = (a : Int):=fun a ha => u64id (by omega) (by omega)
 have d : ∀ a : Nat,(a : Int) / 4294967296 = ((a / 4294967296 : Nat) : Int):=fun a => by omega
 have m : ∀ a b : Nat,(a : Int) * (b : Int) = ((a * b : Nat) : Int):=fun a b => (Int.natCast_mul a b).symm
 have p : ∀ a b : Nat,(a : Int) + (b : Int) = ((a + b : Nat) : Int):=fun a b => (Int.natCast_add a b).symm
 unfold la
 simp only [shr32,d]
 rw [and32 y hy,and32 x hx]
 simp only [m,p]
 rw [w _ (Nat.lt_of_le_of_lt a1 (by omega)),w _ (Nat.lt_of_le_of_lt a2 (by omega)),w _ (Nat.lt_of_le_of_lt a3 (by omega)),w _ (Nat.lt_of_le_of_lt a4 (by omega))]
 simp only [d,p]
 rw [w _ h2]
 simp only [d,p]
 rw [and32 _ h2]
 simp only [p]
 rw [w _ h3]
 simp only [d]
 have hq : x * y / 18446744073709551616 < 18446744073709551616:=by
  have : x * y < 18446744073709551616 * 18446744073709551616:=Nat.mul_lt_mul_of_lt_of_lt hx hy
  omega
 have hs : x / 4294967296 * (y / 4294967296) + (x / 4294967296 * (y % 4294967296) + x % 4294967296 * (y % 4294967296) / 4294967296) / 4294967296 < 18446744073709551616:=by omega
 rw [w _ hs]
 simp only [p]
 rw [h4,w _ hq,u64w]
 simp
theorem tv {n bp : Int} (h0 : 0 ≤ n) (h1 : n ≤ 1099511627776) (b0 : 0 ≤ bp) (b1 : bp ≤ 1000000) : k9 n bp = some (n * bp / 10000) ∧ 0 ≤ n * bp / 10000 ∧ n * bp / 10000 ≤ 109951162777600:=by
 obtain ⟨a,rfl⟩:=Int.eq_ofNat_of_zero_le h0
 obtain ⟨b,rfl⟩:=Int.eq_ofNat_of_zero_le b0
 have m3:=j7 h0 h1 b0 b1
 have hm : (a : Int) * (b : Int) = ((a * b : Nat) : Int):=(Int.natCast_mul a b).symm
 rw [hm] at m3 ⊢
 refine ⟨?_,by omega,by omega⟩
 unfold k9
 rw [u64id (by omega) (by omega),u64id (by omega) (by omega),ya _ _ (by omega) (by omega)]
 generalize a * b = c at m3 ⊢
 have e1 : c / 18446744073709551616 = 0:=by omega
 have e2 : c % 18446744073709551616 = c:=by omega
 rw [e1,e2]
 simp only [At]
 unfold mR
 have n0 : nz 10000 = some ():=rfl
 have c1 : ((10000 : Int) == 0) = false:=rfl
 have c2 : decide ((10000 : Int) ≤ ((0 : Nat) : Int)) = false:=rfl
 have c3 : (((0 : Nat) : Int) == 0) = true:=rfl
 simp only [c1,c2,c3,n0,cond_true,cond_false,At]
 rw [Int.tdiv_eq_ediv_of_nonneg (by omega),u64id (by omega) (by omega),ao (by omega) (by omega)]
theorem vU {a : Vec} {bp : Int} (ha : VB 1099511627776 a) (b0 : 0 ≤ bp) (b1 : bp ≤ 1000000) : lg a bp = some (eX a bp,0):=by
 have ha':=ha
 unfold VB at ha'
 obtain ⟨e1,p1,p2⟩:=tv ha'.1.1 ha'.1.2 b0 b1
 obtain ⟨e2,p3,p4⟩:=tv ha'.2.1 ha'.2.2 b0 b1
 have hv : VB 109951162777600 (eX a bp):=⟨⟨p1,p2⟩,p3,p4⟩
 unfold lg
 rw [mI,decide_eq_true (ha.mono (by omega))]
 simp only [At,Bool.not_true,cond_false]
 rw [decide_eq_false (by omega),decide_eq_false (by omega)]
 simp only [At,cond_false]
 rw [e1,e2]
 simp only [At]
 have : (⟨a.Mem * bp / 10000,a.Cores * bp / 10000⟩ : Vec) = eX a bp:=rfl
 rw [this,sM (hv.mono (by omega))]
 rfl
theorem qC {s : State} (h : SC s) (label : Int) : jD s label = some (fK s label):=by
 unfold jD
 have hn:=h.n
 rw [bi (fun (l : List Vec) i => (l,i)) s.Nodes (fun n => n.Up && n.Label == label) (·.Cap) (step:=jv s label) (by omega) ?_ ?_]
 ·rw [At,Ap]
  ·rfl
  ·rw [List.length_map]
   have:=List.length_filter_le (fun n : Node => n.Up && n.Label == label) s.Nodes
   omega
  ·intro v hv
   obtain ⟨n,hn,rfl⟩:=List.mem_map.1 hv
   exact (h.b.nc n (List.mem_filter.1 hn).1).mono (by omega)
 ·intro k hk l hl
  unfold jv
  rw [aj hk,ai hk]
  simp only [cond_true,At]
  rw [ah (by simp; omega) (by omega)]
  cases s.Nodes[k].Up <;> cases s.Nodes[k].Label == label <;> rfl
 ·intro l
  unfold jv
  rw [ar]
  rfl
theorem o5 {α τ ρ : Type} (mk : Int → τ) (l : List α) (p : α → Bool) (g : Int → ρ) (z : ρ) {step : τ → Option (τ ⊕ ρ)} (hn : l.length < 1000000000)
  (h1 : ∀ k (hk : k < l.length),p l[k] = false → step (mk (k : Int)) = some (.inl (mk (w64 ((k : Int) + 1)))))
  (h2 : ∀ k (hk : k < l.length),p l[k] = true → step (mk (k : Int)) = some (.inr (g (k : Int))))
  (h3 : step (mk (l.length : Int)) = some (.inr z)) : (∃ k,∃ (hk : k < l.length),l.find? p = some l[k] ∧ loop step (mk 0) = some (g (k : Int))) ∨ (l.find? p = none ∧ loop step (mk 0) = some z):=by
 have h:=aw (σ:=Unit) (Q:=fun x => (∃ k,∃ (hk : k < l.length),l.find? p = some l[k] ∧ x = g (k : Int)) ∨ (l.find? p = none ∧ x = z)) (fun _ i => mk i) l.length (fun k _ => (l.take k).find? p = none) (step:=step) hn ?_ ?_ (s:=()) rfl
 ·obtain ⟨x,e,h⟩:=h
  rcases h with ⟨k,hk,h1,rfl⟩ | ⟨h1,rfl⟩
  ·exact .inl ⟨k,hk,h1,e⟩
  ·exact .inr ⟨h1,e⟩
 ·intro k hk _ hs
  cases hp : p l[k] with
  | false =>
   refine aU (h1 k hk hp) (.inl ⟨(),rfl,?_⟩)
   rw [List.take_succ_eq_append_getElem hk,List.find?_append,hs]
   simp [hp]
  | true =>
   refine aU (h2 k hk hp) (.inr ⟨_,rfl,.inl ⟨k,hk,?_,rfl⟩⟩)
   conv => lhs; rw [← List.take_append_drop k l]
   rw [List.find?_append,hs,Option.none_or,List.drop_eq_getElem_cons hk,List.find?_cons_of_pos hp]
 ·intro _ hs
  rw [List.take_length] at hs
  exact aU h3 ⟨_,rfl,.inr ⟨hs,rfl⟩⟩
theorem sN {c : Conf} (h : CSmall c) (p : Str) : kZ c p = some ((pFind c p).elim (noQ,false) fun q => (q,true)):=by
 unfold kZ mS
 have hq:=h.q
 have e:=o5 (fun i => i) c.Queues (fun q => q.Path == p) (fun i => (.inl i : Int ⊕ Unit)) (.inr ()) (step:=iK c.Queues fun a' => jC a'.1 p) (by omega) ?_ ?_ ?_
 ·unfold pFind
  rcases e with ⟨k,hk,e1,e2⟩ | ⟨e1,e2⟩
  ·rw [e1,e2]
   simp only [At,Option.elim_some]
   rw [decide_eq_false (by omega),ai hk]
   simp only [cond_false,At]
   unfold oP
   rw [ah (by have:=h.c _ (List.getElem_mem hk); simp; omega) (by omega)]
   rfl
  ·rw [e1,e2]
   rfl
 ·intro k hk hf
  unfold iK jC
  rw [aj hk,ai hk]
  simp only [cond_true,At,hf,cond_false]
 ·intro k hk hf
  unfold iK jC
  rw [aj hk,ai hk]
  simp only [cond_true,At,hf]
 ·unfold iK
  rw [ar]
  rfl
theorem qq (p : Str) (hp : p.length < 1000000000) : ∀ m,m ≤ p.length → loop (cy p 46) ((m : Int) - 1) = some (if ((p.take m).reverse.dropWhile (· != 46)).length = 0 then .inr () else .inl ((((p.take m).reverse.dropWhile (· != 46)).length : Int) - 1)):=by
 intro m
 induction m with
 | zero =>
  intro _
  rw [dg]
  rfl
 | succ m ih =>
  intro hm
  rw [dg]
  have e0 : ((m + 1 : Nat) : Int) - 1 = (m : Int):=by omega
  rw [e0]
  unfold cy
  rw [decide_eq_true (by omega),ai (show m < p.length by omega)]
  have hb : ((p[m].toNat : Int) == 46) = !(p[m] != 46):=by
   rw [Bool.eq_iff_iff,beq_iff_eq,Bool.not_eq_true',bne_eq_false_iff_eq]
   refine ⟨fun h => ?_,fun h => by rw [h]; rfl⟩
   exact UInt8.toNat_inj.1 (by have : (46 : UInt8).toNat = 46:=rfl; omega)
  have ht : (p.take (m + 1)).reverse = p[m] :: (p.take m).reverse:=by rw [List.take_succ_eq_append_getElem (by omega),List.reverse_append]; rfl
  rw [ht,List.dropWhile_cons]
  simp only [cond_true,At,hb]
  cases h : (p[m] != 46) with
  | true =>
   simp only [Bool.not_true,cond_false,if_true]
   rw [ao (by omega) (by omega)]
   exact ih (by omega)
  | false =>
   simp only [Bool.not_false,cond_true,Bool.false_eq_true,if_false,List.length_cons,List.length_reverse,List.length_take]
   rw [if_neg (by omega)]
   congr 2
   omega
theorem vk {p : Str} (hp : p.length < 1000000000) : ∃ b,iy p = some (aK p,b):=by
 have e : cK p [46] = aD p 46:=by
  unfold cK
  rw [show ((([46] : List UInt8).length : Int) == 0) = false from rfl,show ((([46] : List UInt8).length : Int) == 1) = true from rfl]
  simp only [cond_true,cond_false]
  rw [show idx ([46] : List UInt8) 0 = some 46 from rfl,At]
  show (aD p 46).bind some = _
  cases aD p 46 <;> rfl
 unfold iy
 rw [e]
 unfold aD
 dsimp only
 rw [ao (by omega) (by omega),qq p hp p.length (Nat.le_refl _),List.take_length,jF]
 have hle:=(List.dropWhile_suffix (· != 46) (l:=p.reverse)).length_le
 rw [List.length_reverse] at hle
 generalize (p.reverse.dropWhile (· != 46)).length = n at hle ⊢
 by_cases h : n = 0
 ·subst h; exact ⟨false,rfl⟩
 ·rw [if_neg h]
  simp only [At]
  rw [decide_eq_false (by omega)]
  unfold slc
  simp only [cond_false]
  rw [if_pos ⟨by omega,by omega,by omega⟩]
  simp only [At,Int.toNat_zero,List.drop_zero]
  refine ⟨true,?_⟩
  congr 3
  omega
theorem sB : ∀ (n : Nat) (p : Str) (l : List Str),p.length ≤ n → p.length + l.length ≤ 1000000 → loop kj (p,l) = some (l ++ pUp p)
 | n,p,l,h1,h2 => by
  by_cases h : p = []
  ·subst h
   rw [dg]
   simp [kj,jn]
  ·have hl:=dl h
   have hb : (p == []) = false:=by simp [h]
   have hs : kj (p,l) = some (.inl (aK p,l ++ [p])):=by
    unfold kj
    simp only [hb,Bool.not_false,cond_true]
    obtain ⟨b,e⟩:=vk (p:=p) (by omega)
    rw [ah (by simp; omega) (by omega),e]
    rfl
   rw [dg,hs]
   dsimp only
   match n with
   | 0 => omega
   | n + 1 =>
    rw [sB n (aK p) (l ++ [p]) (by omega) (by simp; omega),iA h]
    simp
theorem Ad {p : Str} (h : p.length ≤ 1000000) : oo p = some (pUp p):=by
 unfold oo
 rw [sB p.length p [] (Nat.le_refl _) (by simpa using h)]
 rfl
theorem rQ {s : State} (h : SC s) {path : Str} (hp : path.length ≤ 1000000) {label : Int} (h0 : 0 ≤ label) (h1 : label < s.Conf.Labels.length) (least : Bool) {part : TupT fam [.st 1] → Option Int}
  (hpart : ∀ c : Cap,part (c,()) = some (bif least then c.Least else c.Most)) : ko s path label part = some (pDown s path label least):=by
 have hn:=h.n
 unfold ko pDown
 rw [Ad hp,At,sN h.b.cf]
 cases hf : pFind s.Conf path with
 | none => simp
 | some q =>
  simp only [Option.elim_some,At,Bool.not_true,cond_false,Option.isSome_some,true_and]
  rw [if_pos ⟨h0,h1⟩,qC h,At]
  have hfound:=kP h.c path.length path (Nat.le_refl _) (by rw [hf]; rfl)
  have hul:=n8 path
  have hpos : 0 < (pUp path).length:=by
   have : path ≠ []:=by
    intro e
    obtain ⟨hm,hq⟩:=ji hf
    obtain ⟨i,hi,rfl⟩:=List.getElem_of_mem hm
    have:=(h.c.q i hi).path.root
    rw [hq,e] at this
    simp at this
   rw [iA this]
   simp
  rw [ao (by omega) (by omega)]
  have key : ∀ m,m ≤ (pUp path).length → ∀ v,VB (s.Nodes.length * 1073741824) v → loop (jN s label part (pUp path)) ((⟨0,0⟩ : Vec),v,(m : Int) - 1) = some (.inr (⟨0,0⟩,((pUp path).take m).reverse.foldl (fun v p => eX v (bpOf s.Conf label least p)) v)):=by
   intro m
   induction m with
   | zero =>
    intro _ v _
    rw [dg]
    rfl
   | succ m ih =>
    intro hm v hv
    have hfm:=hfound _ (List.getElem_mem (show m < (pUp path).length by omega))
    have hbp:=qX h.c hfm h0 h1 least
    have hs : jN s label part (pUp path) ((⟨0,0⟩ : Vec),v,((m + 1 : Nat) : Int) - 1) = some (.inl (⟨0,0⟩,eX v (bpOf s.Conf label least (pUp path)[m]),(m : Int) - 1)):=by
     unfold jN
     dsimp only
     rw [show ((m + 1 : Nat) : Int) - 1 = (m : Int) by omega,decide_eq_true (by omega),aA (show m < (pUp path).length by omega)]
     simp only [cond_true,At,Au (show m < (pUp path).length by omega)]
     obtain ⟨q',e1,e2,e3,e4⟩:=nh h.c hfm h0 h1
     rw [sN h.b.cf,e1]
     simp only [Option.elim_some,At,Bool.not_true,cond_false]
     rw [decide_eq_false (show ¬ label < 0 by omega),decide_eq_false (show ¬ label ≥ (q'.Caps.length : Int) by omega)]
     simp only [cond_false,At]
     have hin : inb label q'.Caps.length = some label.toNat:=by
      unfold inb
      rw [if_pos ⟨by omega,e2⟩]
     rw [hin]
     simp only [At,e3]
     rw [hpart]
     simp only [At]
     rw [show (bif least then (capAt s.Conf label (pUp path)[m]).Least else (capAt s.Conf label (pUp path)[m]).Most) = bpOf s.Conf label least (pUp path)[m] from rfl]
     rw [vU (hv.mono (by omega)) hbp.1 (by omega),At,ao (by omega) (by omega)]
    rw [dg,hs]
    dsimp only
    rw [ih (by omega) _ (m_ hv hbp.1 hbp.2),List.take_succ_eq_append_getElem (by omega),List.reverse_append]
    rfl
  have:=key ((pUp path).length - 1) (by omega) _ (lE h.b label)
  rw [show (((pUp path).length - 1 : Nat) : Int) - 1 = ((pUp path).length : Int) - 2 by omega] at this
  rw [this,List.dropLast_eq_take]
  rfl
theorem vj {s : State} (h : SC s) {path : Str} (hp : path.length ≤ 1000000) {label : Int} (h0 : 0 ≤ label) (h1 : label < s.Conf.Labels.length) : kO s path label = some (pDown s path label true):=by
 unfold kO; rw [rQ h hp h0 h1 true (fun c => rfl)]; rfl
theorem xr {s : State} (h : SC s) {path : Str} (hp : path.length ≤ 1000000) {label : Int} (h0 : 0 ≤ label) (h1 : label < s.Conf.Labels.length) : li s path label = some (pDown s path label false):=by
 unfold li; rw [rQ h hp h0 h1 false (fun c => rfl)]; rfl
theorem Aa (x : Script) : bE x = some (decide (x.Ns.length ≤ 30) && decide (x.Acts.length ≤ 80)):=by
 unfold bE
 have e1 : decide ((x.Ns.length : Int) ≤ 30) = decide (x.Ns.length ≤ 30):=by rw [decide_eq_decide]; omega
 have e2 : decide ((x.Acts.length : Int) ≤ 80) = decide (x.Acts.length ≤ 80):=by rw [decide_eq_decide]; omega
 rw [e1,e2]
 cases decide (x.Ns.length ≤ 30) <;> rfl
theorem pU {step : Int → Option (Int ⊕ (Bool ⊕ Unit))} (n : Nat) (hn : n < 1000000000) (h1 : ∀ k,k < n → step (k : Int) = some (.inl (w64 ((k : Int) + 1)))) (h2 : step (n : Int) = some (.inr (.inr ()))) : loop step 0 = some (.inr ()):=by
 obtain ⟨x,e,rfl⟩:=aw (σ:=Unit) (Q:=fun x => x = (.inr () : Bool ⊕ Unit)) (fun _ i => i) n (fun _ _ => True) (step:=step) hn (fun k hk _ _ => aU (h1 k hk) (.inl ⟨(),rfl,trivial⟩)) (fun _ _ => aU h2 ⟨_,rfl,rfl⟩) (s:=()) trivial
 exact e
theorem oR (q : Str) : (46 ∉ q ∧ aK q = []) ∨ ∃ r,46 ∉ r ∧ q = aK q ++ 46 :: r:=by
 have h0 : q.reverse.takeWhile (· != 46) ++ q.reverse.dropWhile (· != 46) = q.reverse:=List.takeWhile_append_dropWhile
 have h1 : 46 ∉ (q.reverse.takeWhile (· != 46)).reverse:=by
  intro h
  have:=List.all_eq_true.1 (List.all_takeWhile (p:=(· != 46)) (l:=q.reverse)) _ (List.mem_reverse.1 h)
  simp at this
 have h2 : q = (q.reverse.dropWhile (· != 46)).reverse ++ (q.reverse.takeWhile (· != 46)).reverse:=by rw [← List.reverse_append,h0,List.reverse_reverse]
 cases hd : q.reverse.dropWhile (· != 46) with
 | nil =>
  left
  rw [hd] at h2
  refine ⟨?_,by unfold aK; rw [hd]; rfl⟩
  rw [h2]
  simpa using h1
 | cons x d =>
  right
  have hx : x = 46:=by
   have : (q.reverse.dropWhile (· != 46)).head? = some x:=by rw [hd]; rfl
   have:=List.head?_dropWhile_not (· != 46) q.reverse
   rw [hd] at this
   simpa using this
  refine ⟨(q.reverse.takeWhile (· != 46)).reverse,h1,?_⟩
  unfold aK
  rw [hd]
  conv => lhs; rw [h2,hd,hx]
  simp
theorem yY {p u r : Str} (hr : 46 ∉ r) : (p ++ [46]) <+: (u ++ 46 :: r) ↔ p = u ∨ (p ++ [46]) <+: u:=by
 constructor
 ·intro h
  by_cases h1 : p.length < u.length
  ·right
   exact List.prefix_of_prefix_length_le h (List.prefix_append _ _) (by simp; omega)
  ·by_cases h2 : p.length = u.length
   ·left
    have:=List.prefix_of_prefix_length_le (List.IsPrefix.trans (List.prefix_append p [46]) h) (List.prefix_append u _) (by omega)
    exact List.IsPrefix.eq_of_length this h2
   ·exfalso
    have hp : u ++ [46] <+: p:=by
     refine List.prefix_of_prefix_length_le (l₃:=u ++ 46 :: r) ⟨r,by simp⟩ (List.IsPrefix.trans (List.prefix_append p [46]) h) (by simp; omega)
    obtain ⟨z,rfl⟩:=hp
    obtain ⟨y,hy⟩:=h
    have : z ++ [46] ++ y = r:=by
     have : u ++ (46 :: (z ++ [46] ++ y)) = u ++ (46 :: r):=by rw [← hy]; simp
     have:=List.append_cancel_left this
     simpa using this
    exact hr (by rw [← this]; simp)
 ·rintro (rfl | h)
  ·exact ⟨r,by simp⟩
  ·exact List.IsPrefix.trans h (List.prefix_append _ _)
theorem wv {p : Str} (hp : p ≠ []) : ∀ (n : Nat) (q : Str),q.length ≤ n → (p ∈ pUp q ↔ p = q ∨ (p ++ [46]) <+: q)
 | n,q,hn => by
  by_cases hq : q = []
  ·subst hq
   rw [jn]
   constructor
   ·intro h; cases h
   ·rintro (h | h)
    ·exact absurd h hp
    ·have:=h.length_le; simp at this
  ·rw [iA hq,List.mem_cons]
   refine or_congr Iff.rfl ?_
   have ha:=dl hq
   match n with
   | 0 => omega
   | n + 1 =>
    rw [wv hp n (aK q) (by omega)]
    rcases oR q with ⟨h1,h2⟩ | ⟨r,h1,h2⟩
    ·rw [h2]
     constructor
     ·rintro (h | h)
      ·exact absurd h hp
      ·have:=h.length_le; simp at this
     ·intro h
      exact absurd (h.subset (by simp)) h1
    ·conv => rhs; rw [h2]
     rw [yY h1]
def pHasP (q p : Str) : Bool:=q == p || (p ++ [46]).isPrefixOf q
theorem yX {q : Str} (hq : PathOk q) (p : Str) : pHasP q p = fR q p:=by
 have hqn : q ≠ []:=by
  intro e
  have:=hq.root
  rw [e] at this
  simp at this
 unfold pHasP fR
 rw [Bool.eq_iff_iff,Bool.or_eq_true,beq_iff_eq,List.isPrefixOf_iff_prefix,List.contains_iff_mem]
 by_cases hp : p = []
 ·subst hp
  constructor
  ·rintro (h | h)
   ·exact absurd h hqn
   ·exfalso
    rcases hq.root with h1 | h1
    ·rw [h1] at h; revert h; decide
    ·obtain ⟨z,rfl⟩:=h1
     obtain ⟨y,hy⟩:=h
     have:=congrArg List.head? hy
     simp at this
  ·intro h
   exfalso
   have key : ∀ (n : Nat) (x : Str),x.length ≤ n → [] ∉ pUp x:=by
    intro n
    induction n with
    | zero =>
     intro x hx
     have : x = []:=List.length_eq_zero_iff.1 (by omega)
     subst this
     simp [jn]
    | succ n ih =>
     intro x hx
     by_cases h : x = []
     ·subst h; simp [jn]
     ·have:=dl h
      rw [iA h]
      simp only [List.mem_cons,not_or]
      exact ⟨fun e => h e.symm,ih _ (by omega)⟩
   exact key _ _ (Nat.le_refl _) h
 ·rw [wv hp q.length q (Nat.le_refl _)]
  constructor
  ·rintro (rfl | h)
   ·exact .inl rfl
   ·exact .inr h
  ·rintro (rfl | h)
   ·exact .inl rfl
   ·exact .inr h
theorem vt (s p : Str) : hF s p = some (p.isPrefixOf s):=by
 unfold hF ii
 by_cases h : p.length ≤ s.length
 ·rw [decide_eq_true (by omega)]
  unfold slc
  simp only [cond_true]
  rw [if_pos ⟨by omega,by omega,by omega⟩]
  simp only [At,Int.toNat_zero,List.drop_zero,Int.toNat_natCast]
  congr 1
  rw [Bool.eq_iff_iff,beq_iff_eq,List.isPrefixOf_iff_prefix,List.prefix_iff_eq_take]
  exact eq_comm
 ·rw [decide_eq_false (by omega)]
  have : p.isPrefixOf s = false:=by
   rw [Bool.eq_false_iff]
   intro hc
   have:=(List.isPrefixOf_iff_prefix.1 hc).length_le
   omega
  rw [this]
  rfl
theorem vz {v : View} {a : App} (hp : v.path.length ≤ 1000000) (ha : PathOk a.Queue) : ic v a = some (fR a.Queue v.path && (v.user == (-1) || a.User == v.user)):=by
 unfold ic
 rw [cH (by simp; omega),At,vt,← yX ha]
 unfold pHasP
 cases a.Queue == v.path <;> cases (v.path ++ [46]).isPrefixOf a.Queue <;> cases v.user == (-1) <;> rfl
theorem xg {v : View} (h : v.s.Apps.length ≤ 100000) (c : Cont) : iF v c = some ((appAt v.s c.App).elim (noA,false) fun x => (x,true)):=by
 unfold iF
 have e:=dI (fun i => (noA,i)) v.s.Apps (fun x => x.Id == c.App) (fun x => (.inl (x,true) : (App × Bool) ⊕ App)) (.inr noA) (step:=cZ v c) (by omega) ?_ ?_ ?_
 ·unfold noA at e
  rw [e]
  unfold appAt noA
  cases v.s.Apps.find? fun x => x.Id == c.App <;> rfl
 ·intro k hk hf
  unfold cZ
  rw [aj hk,ai hk]
  simp only [cond_true,At,hf,cond_false]
 ·intro k hk hf
  unfold cZ
  rw [aj hk,ai hk]
  simp only [cond_true,At,hf]
 ·unfold cZ
  rw [ar]
  rfl
theorem wZ {N : Nat} {s : State} (h : Inv N s) {path : Str} (hp : path.length ≤ 1000000) (label user : Int) : iZ ⟨s,path,label,user⟩ = some (pUsed s path label (user == (-1)) user):=by
 have hcl:=h.cl
 have hal:=h.al
 unfold iZ
 rw [fG (fun v i => (v,i)) s.Conts (pHas s path label (user == (-1)) user) (·.Size) (step:=gi ⟨s,path,label,user⟩) (by omega) (fun c hc _ => ((h.sb.cs c hc).mono (by omega))) ?_ ?_]
 ·rfl
 ·intro k hk v hv
  unfold gi
  dsimp only
  rw [aj hk]
  simp only [ai hk,cond_true,At]
  rw [xg (by dsimp only; omega),At,ro hv (h.sb.cs _ (List.getElem_mem hk)) (by omega)]
  unfold pHas
  dsimp only
  cases ha : appAt s s.Conts[k].App with
  | none => simp
  | some a =>
   simp only [Option.elim_some,At,cond_true]
   rw [vz (by dsimp only; omega) (h.ak a (jO (id:=fun x : App => x.Id) ha).1).path]
   dsimp only
   rcases Bool.eq_false_or_eq_true (fR a.Queue path) with hb | hb <;> simp only [hb] <;> cases s.Conts[k].Label == label <;> cases user == (-1) <;> cases a.User == user <;> rfl
 ·intro v
  unfold gi
  dsimp only
  rw [ar]
  rfl
theorem vW (s : State) (path : Str) (label u w : Int) : pUsed s path label true u = pUsed s path label true w:=by
 have : pHas s path label true u = pHas s path label true w:=by
  funext c
  unfold pHas
  cases appAt s c.App <;> simp
 unfold pUsed
 rw [this]
theorem yj {N : Nat} {s : State} (h : Inv N s) {path : Str} (hp : path.length ≤ 1000000) (label : Int) : lb s path label = some (pUsed s path label true 0):=by
 unfold lb
 have:=wZ h hp label (-1)
 rw [show ((-1 : Int) == -1) = true from rfl,vW s path label (-1) 0] at this
 rw [this]
 rfl
theorem va {x : Script} {m : State → Option Bool} (h : ∀ s,Inv 400000 s → m s = some true) : ((bE x).bind fun x2 => bif ! x2 then some true else (bn x).bind m) = some true:=by
 rw [Aa]
 by_cases h1 : x.Ns.length ≤ 30
 ·by_cases h2 : x.Acts.length ≤ 80
  ·rw [decide_eq_true h1,decide_eq_true h2]
   obtain ⟨s,e,hs⟩:=xP x h1 h2
   simp only [Bool.and_self,Bool.not_true,cond_false,At]
   rw [e,At]
   exact h s hs
  ·rw [decide_eq_false h2,Bool.and_false]
   rfl
 ·rw [decide_eq_false h1]
  rfl
theorem vD (least most : Int) {l : List Int} (hl : l.length ≤ 1000) : lJ least most l = some (l.all fun n => decide (least ≤ n) && decide (n ≤ most)):=by
 unfold lJ cx dD
 have e:=o5 (fun i => i) l (fun n => !(decide (least ≤ n) && decide (n ≤ most))) (fun i => (.inl i : Int ⊕ Unit)) (.inr ()) (step:=a6 l fun a' => kf a'.1 least most) (by omega) ?_ ?_ ?_
 ·rw [← rz l]
  rcases e with ⟨k,hk,e1,e2⟩ | ⟨e1,e2⟩
  ·rw [e1,e2]
   simp only [At,Option.isNone_some]
   rw [decide_eq_true (show (k : Int) ≥ 0 by omega)]
   rfl
  ·rw [e1,e2]
   rfl
 ·intro k hk hf
  unfold a6 kf
  rw [aj hk,ai hk]
  simp only [cond_true,At]
  simp only [Bool.not_eq_false',Bool.and_eq_true,decide_eq_true_eq] at hf
  rw [decide_eq_false (show ¬ l[k] < least by omega),decide_eq_false (show ¬ l[k] > most by omega)]
  rfl
 ·intro k hk hf
  unfold a6 kf
  rw [aj hk,ai hk]
  simp only [cond_true,At]
  simp only [Bool.not_eq_true',Bool.and_eq_false_iff,decide_eq_false_iff_not] at hf
  by_cases h1 : l[k] < least
  ·rw [decide_eq_true h1]; rfl
  ·rw [decide_eq_false h1,decide_eq_true (show l[k] > most by omega)]; rfl
 ·unfold a6
  rw [ar]
  rfl
theorem zE {c : Conf} {l : List Ask} (hl : l.length ≤ 100) (h : ∀ x ∈ l,AskOk c x) (label : Int) : kn l label = some (ka l label):=by
 unfold kn
 rw [fG (fun v i => (v,i)) l (fun x => x.Label == label) kb (step:=iY l label) (by omega) (fun x hx _ => (kV (h x hx)).1.mono (by omega)) ?_ ?_]
 ·rfl
 ·intro k hk v hv
  have hx:=h _ (List.getElem_mem hk)
  obtain ⟨t1,t2,t3⟩:=kV hx
  have hs:=hx.size
  have hc:=hx.count
  unfold SzOk at hs
  unfold iY
  dsimp only
  rw [aj hk,cond_true,ai hk]
  simp only [At,t2,t3]
  rw [vD _ _ (by simp),vD _ _ (by simp)]
  have e1 : ([l[k].Size.Mem,l[k].Size.Cores].all fun n => decide (0 ≤ n) && decide (n ≤ 1125899906842624)) = true:=by
   simp; omega
  have e2 : ([l[k].Count].all fun n => decide (0 ≤ n) && decide (n ≤ 50)) = true:=by
   simp; omega
  rw [e1,e2]
  have hp:=oY hv t1
  have e : (⟨w64 (v.Mem + l[k].Size.Mem * l[k].Count),w64 (v.Cores + l[k].Size.Cores * l[k].Count)⟩ : Vec) = vplus v (kb l[k]):=by
   unfold VB vplus kb at hp
   dsimp only at hp
   rw [ao (by omega) (by omega),ao (by omega) (by omega)]
   rfl
  rw [e]
  cases l[k].Label == label <;> rfl
 ·intro v
  unfold iY
  rw [ar]
  rfl
theorem sV {N : Nat} {s : State} (h : Inv N s) {path : Str} (hp : path.length ≤ 1000000) (label : Int) : jM s path label = some (fL s path label):=by
 have hal:=h.al
 unfold jM je
 rw [fG (fun v i => (v,i)) s.Apps (fun a => pLive a && fR a.Queue path) (fun a => ka a.Asks label) (by omega) (fun a ha _ => (lI (h.ak a ha).al (h.ak a ha).ask label).mono (by omega)) ?_ ?_]
 ·rfl
 ·intro k hk v hv
  have hak:=h.ak _ (List.getElem_mem hk)
  unfold h_
  dsimp only
  rw [aj hk,cond_true]
  simp only [ai hk,At]
  rw [vz (by dsimp only; omega) hak.path,zE (by have:=hak.al; omega) hak.ask,At,At,ro hv (lI hak.al hak.ask label) (by omega)]
  unfold nA pLive
  cases s.Apps[k].State == 1 <;> cases s.Apps[k].State == 2 <;> rcases Bool.eq_false_or_eq_true (fR s.Apps[k].Queue path) with hb | hb <;> simp only [hb] <;> rfl
 ·intro v
  unfold h_
  dsimp only
  rw [ar]
  rfl
theorem sL : ∀ {a b c : Str},Op.bytesLess a b = true → Op.bytesLess b c = true → Op.bytesLess a c = true
 | _,[],_,h,_ => by simp [Op.bytesLess] at h
 | _,_ :: _,[],_,h => by simp [Op.bytesLess] at h
 | [],y :: b,z :: c,_,_ => by simp [Op.bytesLess]
 | x :: a,y :: b,z :: c,h1,h2 => by
  unfold Op.bytesLess at *
  simp only [Bool.or_eq_true,decide_eq_true_eq,Bool.and_eq_true,beq_iff_eq] at *
  simp only [UInt8.lt_iff_toNat_lt] at *
  rcases h1 with h1 | ⟨rfl,h1⟩
  ·rcases h2 with h2 | ⟨rfl,h2⟩
   ·left; omega
   ·left; exact h1
  ·rcases h2 with h2 | ⟨rfl,h2⟩
   ·left; exact h2
   ·right; exact ⟨rfl,sL h1 h2⟩
theorem vJ : ∀ {a b : Str},Op.bytesLess a b = false → a ≠ b → Op.bytesLess b a = true
 | [],[],_,h => absurd rfl h
 | [],_ :: _,h,_ => by simp [Op.bytesLess] at h
 | _ :: _,[],_,_ => by simp [Op.bytesLess]
 | x :: a,y :: b,h,hn => by
  unfold Op.bytesLess at *
  simp only [Bool.or_eq_false_iff,decide_eq_false_iff_not,Bool.and_eq_false_iff,beq_eq_false_iff_ne,Bool.or_eq_true,decide_eq_true_eq,Bool.and_eq_true,beq_iff_eq] at *
  simp only [UInt8.lt_iff_toNat_lt] at *
  by_cases hx : x = y
  ·subst hx
   right
   refine ⟨rfl,vJ ?_ (fun e => hn (by rw [e]))⟩
   rcases h.2 with h | h
   ·exact absurd rfl h
   ·exact h
  ·left
   have : x.toNat ≠ y.toNat:=fun e => hx (UInt8.toNat_inj.1 e)
   omega
theorem uC {c : Conf} (h : ConfOk c) : (c.Queues.map (·.Path)).Pairwise fun x y => Op.bytesLess x y = true:=by
 have hn : ∀ j (hj : j + 1 < c.Queues.length),Op.bytesLess c.Queues[j].Path c.Queues[j + 1].Path = true:=by
  intro j hj
  have:=(h.q (j + 1) hj).less c.Queues[j] (by omega) (by simp)
  unfold strLe at this
  rw [Bool.or_eq_false_iff,beq_eq_false_iff_ne] at this
  exact vJ this.1 this.2
 have key : ∀ j i (hij : i < j) (hj : j < c.Queues.length),Op.bytesLess (c.Queues[i]'(by omega)).Path c.Queues[j].Path = true:=by
  intro j
  induction j with
  | zero => intro i hij; omega
  | succ j ih =>
   intro i hij hj
   by_cases he : i = j
   ·subst he; exact hn i hj
   ·exact sL (ih i (by omega) (by omega)) (hn j hj)
 rw [List.pairwise_iff_getElem]
 intro i j hi hj hij
 rw [List.getElem_map,List.getElem_map]
 exact key j i hij (by simpa using hj)
structure SO {α : Type} (lt : α → α → Bool) (l : List α) : Prop where
 irr : ∀ x ∈ l,lt x x = false
 tr : ∀ x ∈ l,∀ y ∈ l,∀ z ∈ l,lt x y = true → lt y z = true → lt x z = true
 tot : ∀ x ∈ l,∀ y ∈ l,x ≠ y → lt x y = true ∨ lt y x = true
theorem SO.sub {α : Type} {lt : α → α → Bool} {l m : List α} (h : SO lt l) (hm : ∀ x ∈ m,x ∈ l) : SO lt m :=
 ⟨fun x hx => h.irr x (hm x hx),fun x hx y hy z hz => h.tr x (hm x hx) y (hm y hy) z (hm z hz),fun x hx y hy => h.tot x (hm x hx) y (hm y hy)⟩
theorem vi {p : Str} (h : PathOk p) : iy p = some (aK p,!(aK p == [])):=by
 have hp : p.length < 1000000000:=by have:=h.len; omega
 have e : cK p [46] = aD p 46:=by
  unfold cK
  rw [show ((([46] : List UInt8).length : Int) == 0) = false from rfl,show ((([46] : List UInt8).length : Int) == 1) = true from rfl]
  simp only [cond_true,cond_false]
  rw [show idx ([46] : List UInt8) 0 = some 46 from rfl,At]
  show (aD p 46).bind some = _
  cases aD p 46 <;> rfl
 have hhead : ∀ r,p ≠ 46 :: r:=by
  intro r er
  rcases h.root with h1 | h1
  ·rw [h1] at er; cases er
  ·obtain ⟨t,h1⟩:=h1
   rw [er] at h1; cases h1
 unfold iy
 rw [e]
 unfold aD
 dsimp only
 rw [ao (by omega) (by omega),qq p hp p.length (Nat.le_refl _),List.take_length,jF]
 have hle:=(List.dropWhile_suffix (· != 46) (l:=p.reverse)).length_le
 rw [List.length_reverse] at hle
 have hone : (p.reverse.dropWhile (· != 46)).length ≠ 1:=by
  intro h1
  rcases oR p with ⟨h2,_⟩ | ⟨r,h2,h3⟩
  ·cases hd : p.reverse.dropWhile (· != 46) with
   | nil => rw [hd] at h1; cases h1
   | cons x d =>
    have:=List.head?_dropWhile_not (fun y : UInt8 => y != 46) p.reverse
    rw [hd] at this
    have hx : x = 46:=by simpa using this
    have hm : x ∈ p.reverse:=List.dropWhile_subset _ (by rw [hd]; simp)
    exact h2 (hx ▸ List.mem_reverse.1 hm)
  ·rw [jF,h1] at h3
   exact hhead r (by simpa using h3)
 generalize (p.reverse.dropWhile (· != 46)).length = n at hle hone ⊢
 by_cases h : n = 0
 ·subst h; rfl
 ·rw [if_neg h]
  simp only [At]
  rw [decide_eq_false (by omega)]
  unfold slc
  simp only [cond_false]
  rw [if_pos ⟨by omega,by omega,by omega⟩]
  simp only [At,Int.toNat_zero,List.drop_zero]
  have hne : (p.take (n - 1) == []) = false:=by
   rw [beq_eq_false_iff_ne]
   intro e0
   have:=congrArg List.length e0
   rw [List.length_take,List.length_nil] at this
   omega
  have e1 : ((n : Int) - 1).toNat = n - 1:=by omega
  rw [e1,hne]
  rfl
theorem sd {c : Conf} (h : ConfOk c) (p : Str) : lT c p = some (pKids c p):=by
 have hq:=h.qs
 have e:=bi (fun (l : List Str) i => (l,i)) c.Queues (fun q => !(aK q.Path == []) && aK q.Path == p) (·.Path) (step:=km c p) (by omega) ?_ ?_
 ·unfold lT
  rw [e,At]
  unfold pKids
  by_cases hp : p = []
  ·subst hp
   rw [if_pos rfl,List.filter_eq_nil_iff.2 (by simp)]
   rfl
  ·rw [if_neg hp]
   congr 2
   refine List.filter_congr fun q _ => ?_
   by_cases e1 : aK q.Path = p
   ·have : aK q.Path ≠ []:=by rw [e1]; exact hp
    rw [beq_eq_false_iff_ne.2 this]; simp
   ·rw [beq_eq_false_iff_ne.2 e1]; simp
 ·intro k hk l hl
  unfold km
  rw [aj hk,cond_true]
  dsimp only
  rw [ai hk,At,vi (iB h (List.getElem_mem hk)),At]
  dsimp only
  cases e1 : (aK c.Queues[k].Path == []) with
  | true => simp
  | false =>
   cases e2 : (aK c.Queues[k].Path == p) with
   | false => simp
   | true =>
    simp only [Bool.not_false,cond_true,At,Bool.and_self,if_true]
    rw [ah (by simp; omega) (by omega)]
    rfl
 ·intro l
  unfold km
  rw [ar]
  rfl
theorem gS (n : Int) : 0 ≤ pGood n ∧ pGood n ≤ 1125899906842624:=by
 unfold pGood
 split <;> omega
theorem oN {n : Int} (h : 0 ≤ n) : pGood n ≤ n:=by
 unfold pGood
 split <;> omega
theorem kC (n : Int) : gw n = some (pGood n):=fI n
def sp1 (x : Int × Int × Int) (left : Int) : Int:=imin (imin (imin (pGood x.1) (pGood x.2.1)) (pGood x.2.2)) left
def st1 (t : List Int × Int) (x : Int × Int × Int) : List Int × Int:=(t.1 ++ [sp1 x t.2],t.2 - sp1 x t.2)
def sp2 (x : (Int × Int × Int) × Int) (left : Int) : Int:=imin (imax (imin (pGood x.1.2.1) (pGood x.1.2.2) - x.2) 0) left
def st2 (t : List Int × Int) (x : (Int × Int × Int) × Int) : List Int × Int:=(t.1 ++ [x.2 + sp2 x t.2],t.2 - sp2 x t.2)
def av (total : Int) (l : List (Int × Int × Int)) : List Int × Int:=l.foldl st1 ([],pGood total)
def gD (total : Int) (l : List (Int × Int × Int)) : List Int:=((l.zip (av total l).1).foldl st2 ([],(av total l).2)).1
theorem rN (x : Int × Int × Int) {left : Int} (h : 0 ≤ left) : 0 ≤ sp1 x left ∧ sp1 x left ≤ left ∧ sp1 x left ≤ pGood x.2.1 ∧ sp1 x left ≤ pGood x.2.2:=by
 have h1:=gS x.1
 have h2:=gS x.2.1
 have h3:=gS x.2.2
 unfold sp1 imin
 repeat' split
 all_goals omega
theorem pB (x : (Int × Int × Int) × Int) {left : Int} (h : 0 ≤ left) (h2 : x.2 ≤ pGood x.1.2.1 ∧ x.2 ≤ pGood x.1.2.2) : 0 ≤ sp2 x left ∧ sp2 x left ≤ left ∧ x.2 + sp2 x left ≤ pGood x.1.2.1 ∧ x.2 + sp2 x left ≤ pGood x.1.2.2:=by
 obtain ⟨q1,q2⟩:=h2
 unfold sp2 imin imax
 repeat' split
 all_goals omega
structure S1Ok (left0 : Int) (l : List (Int × Int × Int)) (t : List Int × Int) : Prop where
 len : t.1.length = l.length
 left : 0 ≤ t.2
 sum : t.1.sum + t.2 = left0
 bd : ∀ k (h : k < l.length) (h' : k < t.1.length),0 ≤ t.1[k] ∧ t.1[k] ≤ pGood l[k].2.1 ∧ t.1[k] ≤ pGood l[k].2.2
theorem zU {left0 : Int} {l : List (Int × Int × Int)} {t : List Int × Int} (h : S1Ok left0 l t) (x : Int × Int × Int) : S1Ok left0 (l ++ [x]) (st1 t x):=by
 have hb:=rN x h.left
 have hl:=h.len
 refine ⟨by simp [st1,hl],by unfold st1; dsimp only; omega,?_,?_⟩
 ·have:=h.sum
  simp only [st1,List.sum_append,List.sum_cons,List.sum_nil]
  omega
 ·intro k h1 h2
  by_cases hk : k < l.length
  ·have:=h.bd k hk (by omega)
   simp only [st1]
   rw [List.getElem_append_left (by omega),List.getElem_append_left hk]
   exact this
  ·have hk : k = l.length:=by simp at h1; omega
   subst hk
   simp only [st1]
   rw [List.getElem_append_right (by omega),List.getElem_append_right (by omega)]
   simp only [hl,Nat.sub_self,List.getElem_cons_zero]
   exact ⟨hb.1,hb.2.2.1,hb.2.2.2⟩
theorem oH {left0 : Int} : ∀ (r l : List (Int × Int × Int)) (t : List Int × Int),S1Ok left0 l t → S1Ok left0 (l ++ r) (r.foldl st1 t)
 | [],l,t,h => by simpa using h
 | x :: r,l,t,h => by
  have:=oH r (l ++ [x]) _ (zU h x)
  simpa using this
theorem cM (total : Int) (l : List (Int × Int × Int)) : S1Ok (pGood total) l (av total l):=by
 have:=oH (left0:=pGood total) l [] ([],pGood total) ⟨rfl,(gS total).1,by simp,fun k h => absurd h (by simp)⟩
 simpa [av] using this
structure S2Ok (left0 : Int) (l : List ((Int × Int × Int) × Int)) (t : List Int × Int) : Prop where
 len : t.1.length = l.length
 left : 0 ≤ t.2
 sum : t.1.sum + t.2 = left0 + (l.map (·.2)).sum
 bd : ∀ k (h : k < l.length) (h' : k < t.1.length),0 ≤ t.1[k] ∧ t.1[k] ≤ pGood l[k].1.2.1 ∧ t.1[k] ≤ pGood l[k].1.2.2
theorem zZ {left0 : Int} {l : List ((Int × Int × Int) × Int)} {t : List Int × Int} (h : S2Ok left0 l t) {x : (Int × Int × Int) × Int} (hx : 0 ≤ x.2 ∧ x.2 ≤ pGood x.1.2.1 ∧ x.2 ≤ pGood x.1.2.2) : S2Ok left0 (l ++ [x]) (st2 t x):=by
 have hb:=pB x h.left hx.2
 have hl:=h.len
 refine ⟨by simp [st2,hl],by unfold st2; dsimp only; omega,?_,?_⟩
 ·have:=h.sum
  simp only [st2,List.sum_append,List.sum_cons,List.sum_nil,List.map_append,List.map_cons,List.map_nil]
  omega
 ·intro k h1 h2
  by_cases hk : k < l.length
  ·have:=h.bd k hk (by omega)
   simp only [st2]
   rw [List.getElem_append_left (by omega),List.getElem_append_left hk]
   exact this
  ·have hk : k = l.length:=by simp at h1; omega
   subst hk
   simp only [st2]
   rw [List.getElem_append_right (by omega),List.getElem_append_right (by omega)]
   simp only [hl,Nat.sub_self,List.getElem_cons_zero]
   omega
theorem oV {left0 : Int} : ∀ (r l : List ((Int × Int × Int) × Int)) (t : List Int × Int),S2Ok left0 l t → (∀ x ∈ r,0 ≤ x.2 ∧ x.2 ≤ pGood x.1.2.1 ∧ x.2 ≤ pGood x.1.2.2) → S2Ok left0 (l ++ r) (r.foldl st2 t)
 | [],l,t,h,_ => by simpa using h
 | x :: r,l,t,h,hr => by
  have:=oV r (l ++ [x]) _ (zZ h (hr x (by simp))) (fun y hy => hr y (by simp [hy]))
  simpa using this
theorem nO (total : Int) (l : List (Int × Int × Int)) : ∀ x ∈ l.zip (av total l).1,0 ≤ x.2 ∧ x.2 ≤ pGood x.1.2.1 ∧ x.2 ≤ pGood x.1.2.2:=by
 have h:=cM total l
 intro x hx
 obtain ⟨k,hk,rfl⟩:=List.getElem_of_mem hx
 have hl:=h.len
 have hz : k < l.length:=by simp at hk; omega
 rw [List.getElem_zip]
 exact h.bd k hz (by omega)
theorem nb (total : Int) (l : List (Int × Int × Int)) : S2Ok (av total l).2 (l.zip (av total l).1) ((l.zip (av total l).1).foldl st2 ([],(av total l).2)):=by
 have:=oV (left0:=(av total l).2) (l.zip (av total l).1) [] ([],(av total l).2) ⟨rfl,(cM total l).left,by simp,fun k h => absurd h (by simp)⟩ (nO total l)
 simpa using this
theorem wq (total : Int) (l : List (Int × Int × Int)) : (gD total l).length = l.length:=by
 have h1:=(cM total l).len
 have h2:=(nb total l).len
 unfold gD
 rw [h2,List.length_zip,h1,Nat.min_self]
theorem pJ {α β : Type} : ∀ {l : List α} {m : List β},l.length = m.length → (l.zip m).map (·.2) = m
 | [],[],_ => rfl
 | a :: l,b :: m,h => by simp only [List.zip_cons_cons,List.map_cons]; rw [pJ (by simpa using h)]
 | [],_ :: _,h => by simp at h
 | _ :: _,[],h => by simp at h
theorem vM {total : Int} (h0 : 0 ≤ total) (l : List (Int × Int × Int)) : (gD total l).sum ≤ total:=by
 have h1:=cM total l
 have h2:=nb total l
 have h3:=h2.sum
 rw [pJ h1.len.symm] at h3
 have h4:=h1.sum
 have h5:=oN h0
 have h6:=h2.left
 show ((l.zip (av total l).1).foldl st2 ([],(av total l).2)).1.sum ≤ total
 omega
theorem xZ (total : Int) (l : List (Int × Int × Int)) (k : Nat) (h : k < l.length) (h' : k < (gD total l).length) : 0 ≤ (gD total l)[k] ∧ (gD total l)[k] ≤ pGood l[k].2.1:=by
 have h1:=cM total l
 have h2:=nb total l
 have hz : k < (l.zip (av total l).1).length:=by rw [List.length_zip,h1.len]; omega
 have:=h2.bd k hz h'
 rw [List.getElem_zip] at this
 exact ⟨this.1,this.2.1⟩
theorem lY (first : Int) (l : List Int) (hl : l.length ≤ 100) : fO first l = some (l.foldl imin first):=by
 unfold fO
 have h:=aw (Q:=fun x => x = l.foldl imin first) (fun (n : Int) i => (n,i)) l.length (fun k n => n = (l.take k).foldl imin first) (step:=ja l) (by omega) ?_ ?_ (s:=first) (by simp)
 ·obtain ⟨x,e,rfl⟩:=h
  rw [e,At]
 ·rintro k hk n rfl
  refine aU (a:=.inl ((l.take (k + 1)).foldl imin first,w64 ((k : Int) + 1))) ?_ (.inl ⟨_,rfl,rfl⟩)
  unfold ja
  dsimp only
  rw [aj hk,cond_true,ai hk,At,List.take_succ_eq_append_getElem hk,List.foldl_append]
  rfl
 ·rintro n rfl
  refine aU (a:=.inr ((l.take l.length).foldl imin first)) ?_ ⟨_,rfl,by rw [List.take_length]⟩
  unfold ja
  dsimp only
  rw [ar]
  rfl
theorem qm (a : Int) : imin a a = a:=by unfold imin; split <;> rfl
section
variable (total : Int) (l : List (Int × Int × Int))
def fs1 (k : Nat) : List Int × Int:=(l.take k).foldl st1 ([],pGood total)
def fs2 (k : Nat) : List Int × Int:=((l.zip (av total l).1).take k).foldl st2 ([],(av total l).2)
theorem rv (k : Nat) : S1Ok (pGood total) (l.take k) (fs1 total l k):=by
 have:=oH (left0:=pGood total) (l.take k) [] ([],pGood total) ⟨rfl,(gS total).1,by simp,fun k h => absurd h (by simp)⟩
 simpa [fs1] using this
theorem sr {k : Nat} (hk : k < l.length) : fs1 total l (k + 1) = st1 (fs1 total l k) l[k]:=by
 unfold fs1
 rw [List.take_succ_eq_append_getElem hk,List.foldl_append]
 rfl
theorem rq (k : Nat) : S2Ok (av total l).2 ((l.zip (av total l).1).take k) (fs2 total l k):=by
 have:=oV (left0:=(av total l).2) ((l.zip (av total l).1).take k) [] ([],(av total l).2) ⟨rfl,(cM total l).left,by simp,fun k h => absurd h (by simp)⟩ (fun x hx => nO total l x (List.mem_of_mem_take hx))
 simpa [fs2] using this
theorem zlen : (l.zip (av total l).1).length = l.length:=by rw [List.length_zip,(cM total l).len,Nat.min_self]
theorem ri {k : Nat} (hk : k < l.length) (hk' : k < (av total l).1.length) : fs2 total l (k + 1) = st2 (fs2 total l k) (l[k],(av total l).1[k]):=by
 have hz : k < (l.zip (av total l).1).length:=by rw [zlen]; exact hk
 unfold fs2
 rw [List.take_succ_eq_append_getElem hz,List.foldl_append,List.getElem_zip]
 rfl
theorem oX (k : Nat) : 0 ≤ (fs1 total l k).2 ∧ (fs1 total l k).2 ≤ 1125899906842624:=by
 have h:=rv total l k
 have h1:=h.sum
 have h2:=(gS total).2
 have h3 : 0 ≤ (fs1 total l k).1.sum:=by
  have gen : ∀ m : List Int,(∀ j (h : j < m.length),0 ≤ m[j]) → 0 ≤ m.sum:=by
   intro m
   induction m with
   | nil => intro _; simp
   | cons a m ih =>
    intro hm
    have h0:=hm 0 (by simp)
    have:=ih fun j hj => by have:=hm (j + 1) (by simp; omega); simpa using this
    simp only [List.sum_cons]
    simp only [List.getElem_cons_zero] at h0
    omega
  exact gen _ fun j hj => (h.bd j (by have:=h.len; omega) hj).1
 have:=h.left
 omega
theorem rt (k : Nat) : 0 ≤ (fs2 total l k).2 ∧ (fs2 total l k).2 ≤ 1125899906842624:=by
 have h1:=(oX total l l.length).2
 have e : fs1 total l l.length = av total l:=by unfold fs1 av; rw [List.take_length]
 rw [e] at h1
 refine ⟨(rq total l k).left,?_⟩
 have gen : ∀ (m : List ((Int × Int × Int) × Int)) (t : List Int × Int),0 ≤ t.2 → (∀ x ∈ m,0 ≤ x.2 ∧ x.2 ≤ pGood x.1.2.1 ∧ x.2 ≤ pGood x.1.2.2) → (m.foldl st2 t).2 ≤ t.2:=by
  intro m
  induction m with
  | nil => intro t _ _; exact Int.le_refl _
  | cons x m ih =>
   intro t ht hm
   have hb:=pB x ht (hm x (by simp)).2
   have:=ih (st2 t x) (by unfold st2; dsimp only; omega) (fun y hy => hm y (by simp [hy]))
   simp only [List.foldl_cons]
   unfold st2 at this ⊢
   dsimp only at this ⊢
   omega
 have:=gen ((l.zip (av total l).1).take k) ([],(av total l).2) (cM total l).left (fun x hx => nO total l x (List.mem_of_mem_take hx))
 unfold fs2
 dsimp only at this
 omega
theorem vK (hl : l.length ≤ 100) : bL total (l.map (·.1)) (l.map (·.2.1)) (l.map (·.2.2)) = some (gD total l):=by
 unfold bL
 simp only [List.length_map,qm]
 rw [fI,At]
 have h1:=aw (Q:=fun x => x = ((av total l).2,(av total l).1)) (fun (t : Int × List Int) i => (t.1,t.2,i)) l.length (fun k t => t = ((fs1 total l k).2,(fs1 total l k).1)) (step:=a9 (l.map (·.1)) (l.map (·.2.1)) (l.map (·.2.2)) (l.length : Int)) (by omega) ?_ ?_ (s:=(pGood total,[])) rfl
 ·obtain ⟨x,e,rfl⟩:=h1
  rw [e,At]
  dsimp only
  have h2:=aw (Q:=fun x => x = gD total l) (fun (t : Int × List Int) i => (t.1,t.2,i)) l.length (fun k t => t = ((fs2 total l k).2,(fs2 total l k).1 ++ (av total l).1.drop k)) (step:=a8 (l.map (·.2.1)) (l.map (·.2.2)) (l.length : Int)) (by omega) ?_ ?_ (s:=((av total l).2,(av total l).1)) (by simp [fs2])
  ·obtain ⟨x,e,rfl⟩:=h2
   rw [e,At]
  ·rintro k hk t rfl
   have hp:=(cM total l).len
   have hk' : k < (av total l).1.length:=by omega
   have hlen:=(rq total l k).len
   rw [List.length_take,zlen] at hlen
   have hL:=rt total l k
   have hz:=nO total l (l[k],(av total l).1[k]) (by
    have : k < (l.zip (av total l).1).length:=by rw [zlen]; exact hk
    have e : (l.zip (av total l).1)[k] = (l[k],(av total l).1[k]):=List.getElem_zip
    rw [← e]; exact List.getElem_mem this)
   have hb:=pB (l[k],(av total l).1[k]) hL.1 hz.2
   dsimp only at hb hz
   have g1:=gS l[k].2.1
   have g2:=gS l[k].2.2
   have hm : 0 ≤ imin (pGood l[k].2.1) (pGood l[k].2.2) ∧ imin (pGood l[k].2.1) (pGood l[k].2.2) ≤ 1125899906842624:=by unfold imin; split <;> omega
   have hget : ((fs2 total l k).1 ++ (av total l).1.drop k)[k]? = some (av total l).1[k]:=by
    rw [List.getElem?_append_right (by omega),show k - (fs2 total l k).1.length = 0 by omega,List.getElem?_drop,Nat.add_zero,Au hk']
   have hlen2 : k < ((fs2 total l k).1 ++ (av total l).1.drop k).length:=by simp; omega
   have hset : ∀ v : Int,List.set ((fs2 total l k).1 ++ (av total l).1.drop k) k v = (fs2 total l k).1 ++ [v] ++ (av total l).1.drop (k + 1):=by
    intro v
    rw [List.set_append_right _ _ (by omega),show k - (fs2 total l k).1.length = 0 by omega,List.drop_eq_getElem_cons hk',List.set_cons_zero]
    simp
   refine aU (a:=.inl ((fs2 total l (k + 1)).2,(fs2 total l (k + 1)).1 ++ (av total l).1.drop (k + 1),w64 ((k : Int) + 1))) ?_ (.inl ⟨(_,_),rfl,rfl⟩)
   unfold a8
   dsimp only
   rw [aj hk,cond_true,ai (by simpa using hk),At,fI,At,ai (by simpa using hk),At,fI,At]
   simp only [aA hlen2,At,hget,List.getElem_map,hset]
   rw [ri total l hk hk',ao (x:=imin _ _ - _) (by omega) (by omega)]
   have esp : imin (imax (imin (pGood l[k].2.1) (pGood l[k].2.2) - (av total l).1[k]) 0) (fs2 total l k).2 = sp2 (l[k],(av total l).1[k]) (fs2 total l k).2:=rfl
   rw [esp,ao (x:=(fs2 total l k).2 - _) (by omega) (by omega),ao (x:=(av total l).1[k] + _) (by omega) (by omega)]
   rfl
  ·rintro t rfl
   have hp:=(cM total l).len
   refine aU (a:=.inr ((fs2 total l l.length).1 ++ (av total l).1.drop l.length)) ?_ ⟨_,rfl,?_⟩
   ·unfold a8
    dsimp only
    rw [ar]
    rfl
   ·rw [← hp,List.drop_length,List.append_nil,hp]
    unfold fs2 gD
    rw [List.take_of_length_le (by rw [zlen]; exact Nat.le_refl _)]
 ·rintro k hk t rfl
  have hL:=oX total l k
  have hb:=rN l[k] hL.1
  have hlen:=(rv total l k).len
  rw [List.length_take] at hlen
  refine aU (a:=.inl ((fs1 total l (k + 1)).2,(fs1 total l (k + 1)).1,w64 ((k : Int) + 1))) ?_ (.inl ⟨(_,_),rfl,rfl⟩)
  unfold a9
  dsimp only
  rw [aj hk,cond_true,ai (by simpa using hk),At,fI,At,ai (by simpa using hk),At,fI,At,ai (by simpa using hk),At,fI,At,ah (by simp; omega) (by omega),At]
  simp only [List.getElem_map]
  have esp : imin (imin (imin (pGood l[k].1) (pGood l[k].2.1)) (pGood l[k].2.2)) (fs1 total l k).2 = sp1 l[k] (fs1 total l k).2:=rfl
  rw [sr total l hk,esp,ao (by omega) (by omega)]
  rfl
 ·rintro t rfl
  refine aU (a:=.inr ((fs1 total l l.length).2,(fs1 total l l.length).1)) ?_ ⟨_,rfl,?_⟩
  ·unfold a9
   dsimp only
   rw [ar]
   rfl
  ·unfold fs1 av
   rw [List.take_length]
theorem qP (hl : l.length ≤ 100) : iO total (l.map (·.1)) (l.map (·.2.1)) (l.map (·.2.2)) = some (gD total l):=by
 unfold iO
 rw [lY _ _ (by simp),At]
 simp only [List.length_map,List.foldl_cons,List.foldl_nil,qm]
 have e0 : mkl 8 (l.length : Int) (l.length : Int) (0 : Int) = some (List.replicate l.length 0):=by
  unfold mkl
  rw [if_pos ⟨by omega,by omega,by unfold maxLen; omega,by omega⟩]
  simp
 rw [e0,At,kC,At]
 have h1:=aw (Q:=fun x => x = av total l) (fun (t : List Int × Int) i => (t.1,t.2,i)) l.length (fun k t => t = ((fs1 total l k).1 ++ List.replicate (l.length - k) 0,(fs1 total l k).2)) (step:=jr (l.map (·.1)) (l.map (·.2.1)) (l.map (·.2.2)) (l.length : Int)) (by omega) ?_ ?_ (s:=(List.replicate l.length 0,pGood total)) (by simp [fs1])
 ·obtain ⟨x,e,rfl⟩:=h1
  rw [e,At]
  have h2:=aw (Q:=fun x => x = gD total l) (fun (t : List Int × Int) i => (t.1,t.2,i)) l.length (fun k t => t = ((fs2 total l k).1 ++ (av total l).1.drop k,(fs2 total l k).2)) (step:=jp (l.map (·.2.1)) (l.map (·.2.2)) (l.length : Int)) (by omega) ?_ ?_ (s:=av total l) (by simp [fs2])
  ·obtain ⟨x,e,rfl⟩:=h2
   rw [e,At]
  ·rintro k hk t rfl
   have hp:=(cM total l).len
   have hk' : k < (av total l).1.length:=by omega
   have hlen:=(rq total l k).len
   rw [List.length_take,zlen] at hlen
   have hL:=rt total l k
   have hz:=nO total l (l[k],(av total l).1[k]) (by
    have : k < (l.zip (av total l).1).length:=by rw [zlen]; exact hk
    have e : (l.zip (av total l).1)[k] = (l[k],(av total l).1[k]):=List.getElem_zip
    rw [← e]; exact List.getElem_mem this)
   have hb:=pB (l[k],(av total l).1[k]) hL.1 hz.2
   dsimp only at hb hz
   have g1:=gS l[k].2.1
   have g2:=gS l[k].2.2
   have hm : 0 ≤ imin (pGood l[k].2.1) (pGood l[k].2.2) ∧ imin (pGood l[k].2.1) (pGood l[k].2.2) ≤ 1125899906842624:=by unfold imin; split <;> omega
   have hget : ((fs2 total l k).1 ++ (av total l).1.drop k)[k]? = some (av total l).1[k]:=by
    rw [List.getElem?_append_right (by omega),show k - (fs2 total l k).1.length = 0 by omega,List.getElem?_drop,Nat.add_zero,Au hk']
   have hlen2 : k < ((fs2 total l k).1 ++ (av total l).1.drop k).length:=by simp; omega
   have hset : ∀ v : Int,List.set ((fs2 total l k).1 ++ (av total l).1.drop k) k v = (fs2 total l k).1 ++ [v] ++ (av total l).1.drop (k + 1):=by
    intro v
    rw [List.set_append_right _ _ (by omega),show k - (fs2 total l k).1.length = 0 by omega,List.drop_eq_getElem_cons hk',List.set_cons_zero]
    simp
   refine aU (a:=.inl ((fs2 total l (k + 1)).1 ++ (av total l).1.drop (k + 1),(fs2 total l (k + 1)).2,w64 ((k : Int) + 1))) ?_ (.inl ⟨(_,_),rfl,rfl⟩)
   unfold jp
   dsimp only
   rw [aj hk,cond_true,ai (by simpa using hk),At,kC,At,ai (by simpa using hk),At,kC,At,lY _ _ (by simp),At]
   simp only [aA hlen2,At,hget,List.getElem_map,hset,List.foldl_cons,List.foldl_nil]
   rw [lY _ _ (by simp),At]
   simp only [List.foldl_cons,List.foldl_nil]
   rw [ri total l hk hk',ao (x:=imin _ _ - _) (by omega) (by omega)]
   have esp : imin (imax (imin (pGood l[k].2.1) (pGood l[k].2.2) - (av total l).1[k]) 0) (fs2 total l k).2 = sp2 (l[k],(av total l).1[k]) (fs2 total l k).2:=rfl
   rw [esp,ao (x:=(fs2 total l k).2 - _) (by omega) (by omega),ao (x:=(av total l).1[k] + _) (by omega) (by omega)]
   rfl
  ·rintro t rfl
   have hp:=(cM total l).len
   refine aU (a:=.inr ((fs2 total l l.length).1 ++ (av total l).1.drop l.length)) ?_ ⟨_,rfl,?_⟩
   ·unfold jp
    dsimp only
    rw [ar]
    rfl
   ·rw [← hp,List.drop_length,List.append_nil,hp]
    unfold fs2 gD
    rw [List.take_of_length_le (by rw [zlen]; exact Nat.le_refl _)]
 ·rintro k hk t rfl
  have hL:=oX total l k
  have hb:=rN l[k] hL.1
  have hlen:=(rv total l k).len
  rw [List.length_take] at hlen
  have hr : List.replicate (l.length - k) (0 : Int) = 0 :: List.replicate (l.length - (k + 1)) 0:=by
   rw [show l.length - k = (l.length - (k + 1)) + 1 by omega,List.replicate_succ]
  have hlen2 : k < ((fs1 total l k).1 ++ List.replicate (l.length - k) (0 : Int)).length:=by simp; omega
  have hset : ∀ v : Int,List.set ((fs1 total l k).1 ++ List.replicate (l.length - k) (0 : Int)) k v = (fs1 total l k).1 ++ [v] ++ List.replicate (l.length - (k + 1)) 0:=by
   intro v
   rw [List.set_append_right _ _ (by omega),show k - (fs1 total l k).1.length = 0 by omega,hr,List.set_cons_zero]
   simp
  have hget : ∀ v : Int,((fs1 total l k).1 ++ [v] ++ List.replicate (l.length - (k + 1)) (0 : Int))[k]? = some v:=by
   intro v
   rw [List.append_assoc,List.getElem?_append_right (by omega),show k - (fs1 total l k).1.length = 0 by omega]
   rfl
  have hlen3 : ∀ v : Int,k < ((fs1 total l k).1 ++ [v] ++ List.replicate (l.length - (k + 1)) (0 : Int)).length:=by intro v; simp; omega
  refine aU (a:=.inl ((fs1 total l (k + 1)).1 ++ List.replicate (l.length - (k + 1)) 0,(fs1 total l (k + 1)).2,w64 ((k : Int) + 1))) ?_ (.inl ⟨(_,_),rfl,rfl⟩)
  unfold jr
  dsimp only
  rw [aj hk,cond_true,ai (by simpa using hk),At,kC,At,ai (by simpa using hk),At,kC,At,ai (by simpa using hk),At,kC,At,lY _ _ (by simp),At,aA hlen2,At,Au hlen2,At]
  simp only [hset,aA (hlen3 _),At,hget,List.getElem_map,List.foldl_cons,List.foldl_nil]
  have esp : imin (imin (imin (pGood l[k].1) (pGood l[k].2.1)) (pGood l[k].2.2)) (fs1 total l k).2 = sp1 l[k] (fs1 total l k).2:=rfl
  rw [sr total l hk,esp,ao (by omega) (by omega)]
  rfl
 ·rintro t rfl
  refine aU (a:=.inr ((fs1 total l l.length).1 ++ List.replicate (l.length - l.length) 0,(fs1 total l l.length).2)) ?_ ⟨_,rfl,?_⟩
  ·unfold jr
   dsimp only
   rw [ar]
   rfl
  ·unfold fs1 av
   simp
end
def pWant (s : State) (label : Int) (x : Str) : Int × Int × Int:=((pDown s x label true).Mem,(pUsed s x label true 0).Mem + (fL s x label).Mem,(pDown s x label false).Mem)
def aY (s : State) (label mem : Int) (kids : List Str) : List Int:=gD mem (kids.map (pWant s label))
def pI : Nat → State → Str → Int → Int → List Share
 | 0,s,path,label,mem => [⟨path,mem⟩]
 | d + 1,s,path,label,mem => if (pKids s.Conf path).isEmpty then [⟨path,mem⟩] else ((pKids s.Conf path).zip (aY s label mem (pKids s.Conf path))).flatMap fun x => pI d s x.1 label x.2
theorem kU (s : State) (label mem : Int) (kids : List Str) : (aY s label mem kids).length = kids.length:=by
 unfold aY
 rw [wq,List.length_map]
theorem mO (s : State) (label mem : Int) (kids : List Str) : (kids.zip (aY s label mem kids)).length = kids.length:=by rw [List.length_zip,kU,Nat.min_self]
theorem jd {α β : Type} (f : α → List β) (n : Nat) : ∀ (l : List α),(∀ x ∈ l,(f x).length ≤ n) → (l.flatMap f).length ≤ l.length * n
 | [],_ => by simp
 | a :: l,h => by
  have h1:=h a (by simp)
  have h2:=jd f n l fun x hx => h x (by simp [hx])
  rw [List.flatMap_cons,Aw,List.length_cons,Nat.succ_mul]
  omega
theorem mu (s : State) (label : Int) : ∀ (d : Nat) (path : Str) (mem : Int),(pKids s.Conf path).length ≤ 16 → (∀ p,(pKids s.Conf p).length ≤ 16) → (pI d s path label mem).length ≤ 16 ^ d
 | 0,path,mem,_,_ => by simp [pI]
 | d + 1,path,mem,hk,ha => by
  unfold pI
  split
  ·simp; exact Nat.one_le_pow _ _ (by omega)
  ·refine Nat.le_trans (jd _ (16 ^ d) _ fun x _ => mu s label d x.1 x.2 (ha _) ha) ?_
   rw [mO,Nat.pow_succ,Nat.mul_comm (16 ^ d)]
   exact Nat.mul_le_mul_right _ hk
theorem iM {N : Nat} {s : State} (h : Inv N s) (p : Str) : (pKids s.Conf p).length ≤ 16:=by
 have:=j2 s.Conf p
 have:=h.cf.qs
 omega
theorem m9 {N : Nat} {s : State} (h : Inv N s) {path x : Str} (hx : x ∈ pKids s.Conf path) : PathOk x ∧ x.count 46 = path.count 46 + 1 ∧ (pFind s.Conf x).isSome = true:=by
 obtain ⟨hp,q,hq',rfl,ha⟩:=cN hx
 obtain ⟨q',e,_⟩:=kN hq'
 exact ⟨iB h.cf hq',gU hp ha,by rw [e]; rfl⟩
theorem tV {N : Nat} {s : State} (h : Inv N s) {path : Str} (hc : 3 ≤ path.count 46) : pKids s.Conf path = []:=by
 cases hk : pKids s.Conf path with
 | nil => rfl
 | cons x l =>
  obtain ⟨h1,h2,_⟩:=m9 h (path:=path) (x:=x) (by rw [hk]; simp)
  have:=h1.deep
  omega
theorem ml {N : Nat} {s : State} (h : Inv N s) (label : Int) (x : Str) : (0 ≤ (pUsed s x label true 0).Mem ∧ (pUsed s x label true 0).Mem ≤ 214748364800) ∧ 0 ≤ (fL s x label).Mem ∧ (fL s x label).Mem ≤ 6871947673600:=by
 have h1:=p6 h.sb x label true 0
 have h2:=uH h x label
 have hcl:=h.cl
 unfold VB at h1 h2
 omega
theorem xS {N : Nat} {s : State} (h : Inv N s) (label : Int) : ∀ (d n : Nat) (path : Str) (mem : Int),3 ≤ path.count 46 + d → d ≤ n → d ≤ 3 →
  aJ (n + 1) s path label mem = some (pI d s path label mem):=by
 have hsc:=h.sc
 have hq:=h.cf.qs
 intro d
 induction d with
 | zero =>
  intro n path mem hc _ _
  show aQ _ s path label mem = _
  unfold aQ
  rw [jY h.cf.small,At,tV h (by omega)]
  rfl
 | succ d ih =>
  intro n path mem hc hn hd3
  obtain ⟨n,rfl⟩ : ∃ m,n = m + 1:=⟨n - 1,by omega⟩
  have hkl:=iM h path
  have hkf:=fun x hx => m9 h (path:=path) (x:=x) hx
  show aQ (aJ (n + 1)) s path label mem = _
  unfold aQ pI
  rw [jY h.cf.small,At]
  generalize hK : pKids s.Conf path = kids at hkl hkf
  cases hkn : kids with
  | nil => rfl
  | cons k0 kr =>
   rw [← hkn]
   have hne : kids.length ≠ 0:=by rw [hkn]; simp
   have hz : ((kids.length : Int) == 0) = false:=by rw [beq_eq_false_iff_ne]; omega
   have hz2 : kids.isEmpty = false:=by rw [hkn]; rfl
   rw [hz,cond_false,hz2,if_neg (by simp)]
   have hw : ∀ k (hk : k < kids.length),w64 ((pUsed s kids[k] label true 0).Mem + (fL s kids[k] label).Mem) = (pUsed s kids[k] label true 0).Mem + (fL s kids[k] label).Mem:=fun k hk => by
    have:=ml h label kids[k]
    exact ao (by omega) (by omega)
   have h1:=aw (Q:=fun x => x = ((kids.map (pWant s label)).map (·.1),(kids.map (pWant s label)).map (·.2.1),(kids.map (pWant s label)).map (·.2.2))) (fun (t : List Int × List Int × List Int) i => (t.1,t.2.1,t.2.2,i)) kids.length (fun k t => t = (((kids.take k).map (pWant s label)).map (·.1),((kids.take k).map (pWant s label)).map (·.2.1),((kids.take k).map (pWant s label)).map (·.2.2))) (step:=aV s label kids) (by omega) ?_ ?_ (s:=([],[],[])) (by simp)
   ·obtain ⟨x,e,rfl⟩:=h1
    rw [e,At]
    dsimp only
    rw [vK mem (kids.map (pWant s label)) (by rw [List.length_map]; omega),At]
    have hpl:=kU s label mem kids
    have hzl:=mO s label mem kids
    have h2:=aw (Q:=fun x => x = (kids.zip (aY s label mem kids)).flatMap fun x => pI d s x.1 label x.2) (fun (t : List Share) i => (t,i)) kids.length (fun k t => t = ((kids.zip (aY s label mem kids)).take k).flatMap fun x => pI d s x.1 label x.2) (step:=aP s label (aJ (n + 1)) kids (aY s label mem kids)) (by omega) ?_ ?_ (s:=[]) (by simp)
    ·obtain ⟨x,e,rfl⟩:=h2
     show ((loop (aP s label (aJ (n + 1)) kids (aY s label mem kids)) ([],0)).bind fun out => some out) = _
     rw [e]
     rfl
    ·rintro k hk t rfl
     have hk2 : k < (aY s label mem kids).length:=by omega
     have hkz : k < (kids.zip (aY s label mem kids)).length:=by omega
     obtain ⟨f1,f2,f3⟩:=hkf kids[k] (List.getElem_mem hk)
     have hpow : 16 ^ d ≤ 16 ^ 3:=Nat.pow_le_pow_right (by omega) (by omega)
     have b1:=mu s label d kids[k] (aY s label mem kids)[k] (iM h _) (iM h)
     have b2:=jd (fun x : Str × Int => pI d s x.1 label x.2) (16 ^ d) ((kids.zip (aY s label mem kids)).take k) fun x _ => mu s label d x.1 x.2 (iM h _) (iM h)
     have b3 : ((kids.zip (aY s label mem kids)).take k).length * 16 ^ d ≤ 16 * 16 ^ 3:=Nat.mul_le_mul (by rw [List.length_take]; omega) hpow
     refine aU (a:=.inl (((kids.zip (aY s label mem kids)).take (k + 1)).flatMap (fun x => pI d s x.1 label x.2),w64 ((k : Int) + 1))) ?_ (.inl ⟨_,rfl,rfl⟩)
     unfold aP
     dsimp only
     rw [aj hk,cond_true,aA hk,At,Au hk,At,aA hk2,At,Au hk2,At,ih n kids[k] _ (by omega) (by omega) (by omega),At,ah (by omega) (by omega),At,
      List.take_succ_eq_append_getElem hkz,List.flatMap_append,List.getElem_zip]
     simp
    ·rintro t rfl
     refine aU (a:=.inr (((kids.zip (aY s label mem kids)).take kids.length).flatMap fun x => pI d s x.1 label x.2)) ?_ ⟨_,rfl,by rw [List.take_of_length_le (by omega)]⟩
     unfold aP
     dsimp only
     rw [ar]
     rfl
   ·rintro k hk t rfl
    obtain ⟨f1,f2,f3⟩:=hkf kids[k] (List.getElem_mem hk)
    have hlen : kids[k].length ≤ 1000000:=by have:=f1.len; omega
    refine aU (a:=.inl (((kids.take (k + 1)).map (pWant s label)).map (·.1),((kids.take (k + 1)).map (pWant s label)).map (·.2.1),((kids.take (k + 1)).map (pWant s label)).map (·.2.2),w64 ((k : Int) + 1))) ?_ (.inl ⟨(_,_,_),rfl,rfl⟩)
    unfold aV
    dsimp only
    rw [aj hk,cond_true]
    simp only [aA hk,At,Au hk]
    rw [jR hsc hlen,At,ah (by simp; omega) (by omega),At,pS hsc hlen,At,ah (by simp; omega) (by omega),At,ie h.sb,At,
     lh h,At,ah (by simp; omega) (by omega),At,hw k hk,List.take_succ_eq_append_getElem hk]
    simp only [List.map_append,List.map_cons,List.map_nil]
    rfl
   ·rintro t rfl
    refine aU (a:=.inr (((kids.take kids.length).map (pWant s label)).map (·.1),((kids.take kids.length).map (pWant s label)).map (·.2.1),((kids.take kids.length).map (pWant s label)).map (·.2.2))) ?_ ⟨_,rfl,by rw [List.take_length]⟩
    unfold aV
    dsimp only
    rw [ar]
    rfl
theorem rj {a b n : Nat} (h1 : a ≤ b) (h2 : b ≤ n) : inS (a : Int) (b : Int) n = some (a,b - a):=by
 unfold inS
 rw [if_pos ⟨by omega,by omega,by omega⟩]
 simp
theorem za (l : List Int) (k : Nat) (n : Nat) (hk : k < l.length) (hn : 0 < n) (v : Int) : cpy l k n [v] = l.take k ++ [v] ++ l.drop (k + 1):=by
 unfold cpy
 obtain ⟨m,rfl⟩ : ∃ m,n = m + 1:=⟨n - 1,by omega⟩
 simp
theorem vP {N : Nat} {s : State} (h : Inv N s) {label : Int} (hl0 : 0 ≤ label) (hl1 : label < s.Conf.Labels.length) : ∀ (d n : Nat) (path : Str) (mem deep : Int),3 ≤ path.count 46 + d → d ≤ n → d ≤ 3 → deep + d = 4 →
  cL (n + 1) s path label mem deep = some (pI d s path label mem):=by
 have hsc:=h.sc
 have hq:=h.cf.qs
 intro d
 induction d with
 | zero =>
  intro n path mem deep hc _ _ hdp
  show iH _ s path label mem deep = _
  unfold iH
  rw [sd h.cf,At,tV h (by omega)]
  rfl
 | succ d ih =>
  intro n path mem deep hc hn hd3 hdp
  obtain ⟨n,rfl⟩ : ∃ m,n = m + 1:=⟨n - 1,by omega⟩
  have hkl:=iM h path
  have hkf:=fun x hx => m9 h (path:=path) (x:=x) hx
  show iH (cL (n + 1)) s path label mem deep = _
  unfold iH pI
  rw [sd h.cf,At]
  generalize hK : pKids s.Conf path = kids at hkl hkf
  cases hkn : kids with
  | nil => rfl
  | cons k0 kr =>
   rw [← hkn]
   have hne : kids.length ≠ 0:=by rw [hkn]; simp
   have hz : ((kids.length : Int) == 0) = false:=by rw [beq_eq_false_iff_ne]; omega
   have hz2 : kids.isEmpty = false:=by rw [hkn]; rfl
   rw [hz,cond_false,decide_eq_false (by omega),At,cond_false,hz2,if_neg (by simp)]
   have hw : ∀ k (hk : k < kids.length),w64 ((pUsed s kids[k] label true 0).Mem + (fL s kids[k] label).Mem) = (pUsed s kids[k] label true 0).Mem + (fL s kids[k] label).Mem:=fun k hk => by
    have:=ml h label kids[k]
    exact ao (by omega) (by omega)
   have e0 : mkl 8 (kids.length : Int) (kids.length : Int) (0 : Int) = some (List.replicate kids.length 0):=by
    unfold mkl
    rw [if_pos ⟨by omega,by omega,by unfold maxLen; omega,by omega⟩]
    simp
   rw [e0,At,At,At]
   have h1:=aw (Q:=fun x => x = (⟨(kids.map (pWant s label)).map (·.1),(kids.map (pWant s label)).map (·.2.1),(kids.map (pWant s label)).map (·.2.2)⟩ : Rows3_ListInt)) (fun (t : Rows3_ListInt) i => (t,i)) kids.length
    (fun k t => t = ⟨((kids.take k).map (pWant s label)).map (·.1) ++ List.replicate (kids.length - k) 0,((kids.take k).map (pWant s label)).map (·.2.1) ++ List.replicate (kids.length - k) 0,((kids.take k).map (pWant s label)).map (·.2.2) ++ List.replicate (kids.length - k) 0⟩)
    (step:=iC s label kids) (by omega) ?_ ?_ (s:=⟨List.replicate kids.length 0,List.replicate kids.length 0,List.replicate kids.length 0⟩) (by simp)
   ·obtain ⟨x,e,rfl⟩:=h1
    rw [e,At]
    dsimp only
    rw [qP mem (kids.map (pWant s label)) (by rw [List.length_map]; omega),At]
    have hpl:=kU s label mem kids
    have hzl:=mO s label mem kids
    have h2:=aw (Q:=fun x => x = (kids.zip (aY s label mem kids)).flatMap fun x => pI d s x.1 label x.2) (fun (t : List Share) i => (t,i)) kids.length (fun k t => t = ((kids.zip (aY s label mem kids)).take k).flatMap fun x => pI d s x.1 label x.2) (step:=fN s label deep (cL (n + 1)) kids (aY s label mem kids)) (by omega) ?_ ?_ (s:=[]) (by simp)
    ·obtain ⟨x,e,rfl⟩:=h2
     show ((loop (fN s label deep (cL (n + 1)) kids (aY s label mem kids)) ([],0)).bind fun out => some out) = _
     rw [e]
     rfl
    ·rintro k hk t rfl
     have hk2 : k < (aY s label mem kids).length:=by omega
     have hkz : k < (kids.zip (aY s label mem kids)).length:=by omega
     obtain ⟨f1,f2,f3⟩:=hkf kids[k] (List.getElem_mem hk)
     have hpow : 16 ^ d ≤ 16 ^ 3:=Nat.pow_le_pow_right (by omega) (by omega)
     have b1:=mu s label d kids[k] (aY s label mem kids)[k] (iM h _) (iM h)
     have b2:=jd (fun x : Str × Int => pI d s x.1 label x.2) (16 ^ d) ((kids.zip (aY s label mem kids)).take k) fun x _ => mu s label d x.1 x.2 (iM h _) (iM h)
     have b3 : ((kids.zip (aY s label mem kids)).take k).length * 16 ^ d ≤ 16 * 16 ^ 3:=Nat.mul_le_mul (by rw [List.length_take]; omega) hpow
     refine aU (a:=.inl (((kids.zip (aY s label mem kids)).take (k + 1)).flatMap (fun x => pI d s x.1 label x.2),w64 ((k : Int) + 1))) ?_ (.inl ⟨_,rfl,rfl⟩)
     unfold fN
     dsimp only
     have hd4 : w64 (deep + 1) = deep + 1:=ao (by omega) (by omega)
     rw [hpl,aj hk,cond_true,aA hk,At,Au hk2,At,At,Au hk,At,hd4,ih n kids[k] _ _ (by omega) (by omega) (by omega) (by omega),At,ah (by omega) (by omega),At,
      List.take_succ_eq_append_getElem hkz,List.flatMap_append,List.getElem_zip]
     simp
    ·rintro t rfl
     refine aU (a:=.inr (((kids.zip (aY s label mem kids)).take kids.length).flatMap fun x => pI d s x.1 label x.2)) ?_ ⟨_,rfl,by rw [List.take_of_length_le (by omega)]⟩
     unfold fN
     dsimp only
     rw [hpl,ar]
     rfl
   ·rintro k hk t rfl
    obtain ⟨f1,f2,f3⟩:=hkf kids[k] (List.getElem_mem hk)
    have hlen : kids[k].length ≤ 1000000:=by have:=f1.len; omega
    have hr : List.replicate (kids.length - k) (0 : Int) = 0 :: List.replicate (kids.length - (k + 1)) 0:=by
     rw [show kids.length - k = (kids.length - (k + 1)) + 1 by omega,List.replicate_succ]
    have row : ∀ (f : Int × Int × Int → Int) (v : Int),cpy (((kids.take k).map (pWant s label)).map f ++ List.replicate (kids.length - k) 0) k (kids.length - k) [v] = ((kids.take k).map (pWant s label)).map f ++ [v] ++ List.replicate (kids.length - (k + 1)) 0:=by
     intro f v
     have hl : (((kids.take k).map (pWant s label)).map f).length = k:=by simp; omega
     rw [za _ _ _ (by simp; omega) (by omega),List.take_append_of_le_length (by omega),List.take_of_length_le (by omega),List.drop_append,hl,List.drop_of_length_le (by omega),hr]
     simp
    have hlr : ∀ (f : Int × Int × Int → Int),(((kids.take k).map (pWant s label)).map f ++ List.replicate (kids.length - k) (0 : Int)).length = kids.length:=by intro f; simp; omega
    refine aU (a:=.inl (⟨((kids.take (k + 1)).map (pWant s label)).map (·.1) ++ List.replicate (kids.length - (k + 1)) 0,((kids.take (k + 1)).map (pWant s label)).map (·.2.1) ++ List.replicate (kids.length - (k + 1)) 0,((kids.take (k + 1)).map (pWant s label)).map (·.2.2) ++ List.replicate (kids.length - (k + 1)) 0⟩,w64 ((k : Int) + 1))) ?_ (.inl ⟨_,rfl,rfl⟩)
    unfold iC
    dsimp only
    rw [aj hk,cond_true,aA hk,At,Au hk,At,vj hsc hlen hl0 hl1,At,yj h hlen,At,sV h hlen,At,xr hsc hlen hl0 hl1,At,hw k hk]
    simp only [hlr,rj (show k ≤ kids.length by omega) (Nat.le_refl _),At]
    have s0 : ∀ a b c : Int,inS 0 1 [a,b,c].length = some (0,1):=fun _ _ _ => rfl
    have s1 : ∀ a b c : Int,inS 1 2 [a,b,c].length = some (1,1):=fun _ _ _ => rfl
    have s2 : ∀ a b c : Int,inS 2 3 [a,b,c].length = some (2,1):=fun _ _ _ => rfl
    have u0 : ∀ a b c : Int,sub [a,b,c] 0 1 = [a]:=fun _ _ _ => rfl
    have u1 : ∀ a b c : Int,sub [a,b,c] 1 1 = [b]:=fun _ _ _ => rfl
    have u2 : ∀ a b c : Int,sub [a,b,c] 2 1 = [c]:=fun _ _ _ => rfl
    simp only [s0,s1,s2,At,u0,u1,u2,row]
    rw [List.take_succ_eq_append_getElem hk]
    simp only [List.map_append,List.map_cons,List.map_nil]
    rfl
   ·rintro t rfl
    refine aU (a:=.inr ⟨((kids.take kids.length).map (pWant s label)).map (·.1) ++ List.replicate (kids.length - kids.length) 0,((kids.take kids.length).map (pWant s label)).map (·.2.1) ++ List.replicate (kids.length - kids.length) 0,((kids.take kids.length).map (pWant s label)).map (·.2.2) ++ List.replicate (kids.length - kids.length) 0⟩) ?_ ⟨_,rfl,by simp⟩
    unfold iC
    dsimp only
    rw [ar]
    rfl
def Ext (p x : Str) : Prop:=x = p ∨ ∃ r,x = p ++ 46 :: r
theorem Ext.trans {p q x : Str} (h : Ext p q) (k : Ext q x) : Ext p x:=by
 rcases k with rfl | ⟨r,rfl⟩
 ·exact h
 ·rcases h with rfl | ⟨t,rfl⟩
  ·exact .inr ⟨r,rfl⟩
  ·exact .inr ⟨t ++ 46 :: r,by simp⟩
theorem sw : ∀ (u a b : Str),Op.bytesLess (u ++ a) (u ++ b) = Op.bytesLess a b
 | [],_,_ => rfl
 | x :: u,a,b => by
  have e : Op.bytesLess (x :: u ++ a) (x :: u ++ b) = (decide (x < x) || (x == x && Op.bytesLess (u ++ a) (u ++ b))):=rfl
  have : ¬ x < x:=by rw [UInt8.lt_iff_toNat_lt]; omega
  rw [e,decide_eq_false this,beq_self_eq_true,Bool.false_or,Bool.true_and]
  exact sw u a b
theorem v6 {α : Type} {p : α → Bool} : ∀ {l : List α},(∀ x ∈ l,p x = true) → l.takeWhile p = l
 | [],_ => rfl
 | a :: l,h => by rw [List.takeWhile_cons,if_pos (h a (by simp)),v6 fun x hx => h x (by simp [hx])]
theorem vG : ∀ {n m : Str},(∀ c ∈ m,c ≠ 46 ∧ 46 ≤ c.toNat) → Op.bytesLess n m = true → ∀ {n' m' : Str},Ext n n' → Ext m m' → Op.bytesLess n' m' = true
 | _,[],_,h,_,_,_,_ => by simp [Op.bytesLess] at h
 | [],y :: m,hm,_,n',m',hn',hm' => by
  have hy:=hm y (by simp)
  have hy2 : (46 : UInt8) < y:=by
   rw [UInt8.lt_iff_toNat_lt]
   have : (46 : UInt8).toNat ≠ y.toNat:=fun e => hy.1 (UInt8.toNat_inj.1 e).symm
   have e : (46 : UInt8).toNat = 46:=rfl
   omega
  rcases hn' with rfl | ⟨r,rfl⟩ <;> rcases hm' with rfl | ⟨t,rfl⟩ <;> simp [Op.bytesLess,hy2]
 | x :: n,y :: m,hm,h,n',m',hn',hm' => by
  have hh : ∃ n2,n' = x :: n2 ∧ Ext n n2:=by
   rcases hn' with rfl | ⟨r,rfl⟩
   ·exact ⟨n,rfl,.inl rfl⟩
   ·exact ⟨n ++ 46 :: r,rfl,.inr ⟨r,rfl⟩⟩
  have hk : ∃ m2,m' = y :: m2 ∧ Ext m m2:=by
   rcases hm' with rfl | ⟨r,rfl⟩
   ·exact ⟨m,rfl,.inl rfl⟩
   ·exact ⟨m ++ 46 :: r,rfl,.inr ⟨r,rfl⟩⟩
  obtain ⟨n2,rfl,en⟩:=hh
  obtain ⟨m2,rfl,em⟩:=hk
  unfold Op.bytesLess at h ⊢
  simp only [Bool.or_eq_true,decide_eq_true_eq,Bool.and_eq_true,beq_iff_eq] at h ⊢
  rcases h with h | ⟨rfl,h⟩
  ·exact .inl h
  ·exact .inr ⟨rfl,vG (fun c hc => hm c (by simp [hc])) h en em⟩
theorem qa {c : Conf} {path x : Str} (hx : x ∈ pKids c path) : ∃ r,46 ∉ r ∧ x = path ++ 46 :: r:=by
 obtain ⟨hp,q,hq,rfl,ha⟩:=cN hx
 rcases oR q.Path with ⟨_,h⟩ | ⟨r,h1,h2⟩
 ·rw [ha] at h; exact absurd h hp
 ·rw [ha] at h2; exact ⟨r,h1,h2⟩
theorem wD {c : Conf} (h : ConfOk c) (p : Str) : (pKids c p).Pairwise fun x y => Op.bytesLess x y = true:=by
 unfold pKids
 split
 ·exact List.Pairwise.nil
 ·exact (uC h).sublist (List.filter_sublist.map _)
theorem yq {c : Conf} (h : ConfOk c) {path a b a' b' : Str} (ha : a ∈ pKids c path) (hb : b ∈ pKids c path) (hl : Op.bytesLess a b = true) (ea : Ext a a') (eb : Ext b b') : Op.bytesLess a' b' = true:=by
 obtain ⟨r,hr,rfl⟩:=qa ha
 obtain ⟨t,ht,rfl⟩:=qa hb
 have hch : ∀ c ∈ t,c ≠ 46 ∧ 46 ≤ c.toNat:=by
  intro x hx
  obtain ⟨_,q,hq,e,_⟩:=cN hb
  have h1:=(iB h hq).ch x (by rw [e]; simp [hx])
  have h2:=h.nd q hq x (by rw [e]; simp [hx])
  refine ⟨fun e => ht (by rw [← e]; exact hx),?_⟩
  have : x.toNat ≠ 45:=fun e => h2 (UInt8.toNat_inj.1 e)
  omega
 have cut : ∀ {r a' : Str},Ext (path ++ 46 :: r) a' → ∃ a2,a' = (path ++ [46]) ++ a2 ∧ Ext r a2:=by
  intro r a' e
  rcases e with rfl | ⟨u,rfl⟩
  ·exact ⟨r,by simp,.inl rfl⟩
  ·exact ⟨r ++ 46 :: u,by simp,.inr ⟨u,rfl⟩⟩
 obtain ⟨a2,rfl,e1⟩:=cut ea
 obtain ⟨b2,rfl,e2⟩:=cut eb
 rw [sw]
 have hl2 : Op.bytesLess ((path ++ [46]) ++ r) ((path ++ [46]) ++ t) = true:=by simpa using hl
 rw [sw] at hl2
 exact vG hch hl2 e1 e2
theorem sn {N : Nat} {s : State} (h : Inv N s) (label : Int) : ∀ (d : Nat) (path : Str) (mem : Int),∀ x ∈ pI d s path label mem,Ext path x.Path
 | 0,path,mem,x,hx => by
  have : x = ⟨path,mem⟩:=by simpa [pI] using hx
  subst this
  exact .inl rfl
 | d + 1,path,mem,x,hx => by
  unfold pI at hx
  split at hx
  ·have : x = ⟨path,mem⟩:=by simpa using hx
   subst this
   exact .inl rfl
  ·obtain ⟨y,hy,hxy⟩:=List.mem_flatMap.1 hx
   have hk : y.1 ∈ pKids s.Conf path:=(List.of_mem_zip (a:=y.1) (b:=y.2) hy).1
   obtain ⟨r,_,e⟩:=qa hk
   exact Ext.trans (.inr ⟨r,e⟩) (sn h label d y.1 y.2 x hxy)
theorem Ak {α β : Type} {R : α → α → Prop} {l : List α} {m : List β} (h : l.Pairwise R) : (l.zip m).Pairwise fun a b => R a.1 b.1:=by
 rw [List.pairwise_iff_getElem] at h ⊢
 intro i j hi hj hij
 rw [List.getElem_zip,List.getElem_zip]
 exact h i j (by rw [List.length_zip] at hi; omega) (by rw [List.length_zip] at hj; omega) hij
theorem pL {N : Nat} {s : State} (h : Inv N s) (label : Int) : ∀ (d : Nat) (path : Str) (mem : Int),(pI d s path label mem).Pairwise fun x y => Op.bytesLess x.Path y.Path = true
 | 0,path,mem => by simp [pI]
 | d + 1,path,mem => by
  unfold pI
  split
  ·simp
  ·rw [List.pairwise_flatMap]
   refine ⟨fun x _ => pL h label d x.1 x.2,?_⟩
   have hz:=Ak (m:=aY s label mem (pKids s.Conf path)) (wD h.cf path)
   refine List.Pairwise.imp_of_mem ?_ hz
   intro a b ha hb hab x hx y hy
   exact yq h.cf (List.of_mem_zip (a:=a.1) (b:=a.2) ha).1 (List.of_mem_zip (a:=b.1) (b:=b.2) hb).1 hab (sn h label d _ _ x hx) (sn h label d _ _ y hy)
theorem oS (s : State) (label mem : Int) (kids : List Str) : ∀ x ∈ kids.zip (aY s label mem kids),0 ≤ x.2 ∧ x.2 ≤ pGood (pWant s label x.1).2.1:=by
 intro x hx
 obtain ⟨k,hk,rfl⟩:=List.getElem_of_mem hx
 have hk1 : k < kids.length:=by rw [mO] at hk; exact hk
 have hk2 : k < (aY s label mem kids).length:=by rw [kU]; exact hk1
 rw [List.getElem_zip]
 have:=xZ mem (kids.map (pWant s label)) k (by rw [List.length_map]; exact hk1) hk2
 rw [List.getElem_map] at this
 exact this
theorem mV : ∀ (l : List Share),(∀ x ∈ l,0 ≤ x.Mem) → 0 ≤ (l.map (·.Mem)).sum
 | [],_ => by simp
 | a :: l,h => by
  have h1:=h a (by simp)
  have h2:=mV l fun x hx => h x (by simp [hx])
  simp only [List.map_cons,List.sum_cons]
  omega
theorem rX (f : Str × Int → List Share) : ∀ (l : List (Str × Int)),(∀ x ∈ l,((f x).map (·.Mem)).sum ≤ x.2) → ((l.flatMap f).map (·.Mem)).sum ≤ (l.map (·.2)).sum
 | [],_ => by simp
 | a :: l,h => by
  have h1:=h a (by simp)
  have h2:=rX f l fun x hx => h x (by simp [hx])
  simp only [List.flatMap_cons,List.map_append,List.sum_append,List.map_cons,List.sum_cons]
  omega
theorem sD (s : State) (label : Int) : ∀ (d : Nat) (path : Str) (mem : Int),0 ≤ mem → ((pI d s path label mem).map (·.Mem)).sum ≤ mem ∧ ∀ x ∈ pI d s path label mem,0 ≤ x.Mem
 | 0,path,mem,h0 => by simp [pI,h0]
 | d + 1,path,mem,h0 => by
  unfold pI
  split
  ·simp [h0]
  ·have hb:=oS s label mem (pKids s.Conf path)
   constructor
   ·refine Int.le_trans (rX _ _ fun x hx => (sD s label d x.1 x.2 (hb x hx).1).1) ?_
    rw [pJ (kU s label mem _).symm]
    exact vM h0 _
   ·intro x hx
    obtain ⟨y,hy,hxy⟩:=List.mem_flatMap.1 hx
    exact (sD s label d y.1 y.2 (hb y hy).1).2 x hxy
def mj (s : State) (label : Int) (x : Str) : Int:=(pUsed s x label true 0).Mem + (fL s x label).Mem
theorem tN {N : Nat} {s : State} (h : Inv N s) (label : Int) : ∀ (d : Nat) (path : Str) (mem : Int),mem ≤ mj s label path → ∀ x ∈ pI d s path label mem,x.Mem ≤ mj s label x.Path
 | 0,path,mem,hm,x,hx => by
  have : x = ⟨path,mem⟩:=by simpa [pI] using hx
  subst this
  exact hm
 | d + 1,path,mem,hm,x,hx => by
  unfold pI at hx
  split at hx
  ·have : x = ⟨path,mem⟩:=by simpa using hx
   subst this
   exact hm
  ·obtain ⟨y,hy,hxy⟩:=List.mem_flatMap.1 hx
   have hb:=oS s label mem (pKids s.Conf path) y hy
   have hw:=ml h label y.1
   refine tN h label d y.1 y.2 ?_ x hxy
   have : pGood (pWant s label y.1).2.1 ≤ (pWant s label y.1).2.1:=oN (by unfold pWant; dsimp only; omega)
   have e : (pWant s label y.1).2.1 = mj s label y.1:=rfl
   omega
theorem y8 {N : Nat} {s : State} (h : Inv N s) (label : Int) (d : Nat) (path : Str) (mem : Int) (hl : 1 < (pI (d + 1) s path label mem).length) : ∀ x ∈ pI (d + 1) s path label mem,x.Mem ≤ mj s label x.Path:=by
 intro x hx
 unfold pI at hx hl
 split at hx
 ·rename_i hk
  rw [if_pos hk] at hl
  simp at hl
 ·obtain ⟨y,hy,hxy⟩:=List.mem_flatMap.1 hx
  have hb:=oS s label mem (pKids s.Conf path) y hy
  have hw:=ml h label y.1
  refine tN h label d y.1 y.2 ?_ x hxy
  have : pGood (pWant s label y.1).2.1 ≤ (pWant s label y.1).2.1:=oN (by unfold pWant; dsimp only; omega)
  have e : (pWant s label y.1).2.1 = mj s label y.1:=rfl
  omega
theorem xn (l : List Share) (hl : l.length ≤ 4096) (hr : l.Pairwise fun x y => Op.bytesLess x.Path y.Path = true) : loop (aO l) ([],0) = some l:=by
 have h:=aw (Q:=fun x => x = l) (fun (t : List Share) i => (t,i)) l.length (fun k t => t = l.take k) (step:=aO l) (by omega) ?_ ?_ (s:=[]) (by simp)
 ·obtain ⟨x,e,rfl⟩:=h
  exact e
 ·rintro k hk t rfl
  have hlt : (l.take k).length = k:=by rw [List.length_take]; omega
  have ht : (l.take k).takeWhile (fun y => Op.bytesLess y.Path l[k].Path) = l.take k:=by
   refine v6 fun y hy => ?_
   obtain ⟨j,hj,rfl⟩:=List.getElem_of_mem hy
   rw [List.getElem_take]
   exact (List.pairwise_iff_getElem.1 hr) j k (by omega) hk (by omega)
  have ew:=gJ (l.take k) (fun y => Op.bytesLess y.Path l[k].Path) (step:=aW l (l.take k,(k : Int))) (by omega) ?_ ?_
  ·rw [ht,hlt] at ew
   refine aU (a:=.inl (l.take (k + 1),w64 ((k : Int) + 1))) ?_ (.inl ⟨_,rfl,rfl⟩)
   unfold aO
   dsimp only
   rw [aj hk,cond_true,ew,At,hlt]
   have i0 : inS 0 (k : Int) k = some (0,k):=by have:=rj (a:=0) (b:=k) (n:=k) (by omega) (Nat.le_refl _); simpa using this
   rw [i0,At]
   have u0 : sub (l.take k) 0 k = l.take k:=by unfold sub; rw [List.drop_zero,List.take_take,Nat.min_self]
   dsimp only
   rw [u0,ah (by simp; omega) (by omega),At,aA hk,At,Au hk,At,ah (by simp; omega) (by omega),At,rj (Nat.le_refl _) (Nat.le_refl _),At]
   have u1 : sub (l.take k) k (k - k) = []:=by simp [sub]
   dsimp only
   rw [u1,ah (by simp; omega) (by omega),At,List.take_succ_eq_append_getElem hk]
   simp
  ·intro j hj
   unfold aW
   dsimp only
   rw [aj hj,cond_true,aA hj,At,Au hj,At,aA hk,At,Au hk,At,At]
   cases Op.bytesLess (l.take k)[j].Path l[k].Path <;> rfl
  ·unfold aW
   dsimp only
   rw [ar]
   rfl
 ·rintro t rfl
  refine aU (a:=.inr (l.take l.length)) ?_ ⟨_,rfl,by rw [List.take_length]⟩
  unfold aO
  dsimp only
  rw [ar]
  rfl
def pIdeal (s : State) (label : Int) : List Share:=pI 3 s root label (fK s label).Mem
theorem qv {N : Nat} {s : State} (h : Inv N s) (label : Int) : (pIdeal s label).length ≤ 4096:=mu s label 3 root _ (iM h _) (iM h)
theorem qt {N : Nat} {s : State} (h : Inv N s) (label : Int) : aX s label = some (pIdeal s label):=by
 unfold aX gI
 rw [jP h.sb,At]
 have e : aJ 64 s ([114,111,111,116] : List UInt8) label (fK s label).Mem = some (pIdeal s label):=xS h label 3 63 root _ (by decide) (by omega) (by omega)
 rw [e,At,xn _ (qv h label) (pL h label 3 root _)]
 rfl
theorem vF {N : Nat} {s : State} (h : Inv N s) {label : Int} (hl0 : 0 ≤ label) (hl1 : label < s.Conf.Labels.length) : kh s label = some (pIdeal s label):=by
 unfold kh md
 rw [qC h.sc,At]
 have e : cL 64 s ([114,111,111,116] : List UInt8) label (fK s label).Mem 1 = some (pIdeal s label):=vP h hl0 hl1 3 63 root _ 1 (by decide) (by omega) (by omega) (by omega)
 rw [e]
 rfl
theorem u_ : fY = some true:=by
 unfold fY
 have e : iO 10 [5,5] [9,3] [10,10] = some [7,3]:=by
  have:=qP 10 [(5,9,10),(5,3,10)] (by decide)
  have e2 : gD 10 [(5,9,10),(5,3,10)] = [7,3]:=by decide +kernel
  rw [e2] at this
  exact this
 rw [e]
 rfl
theorem oU (a0 : Script) : cp a0 = some true:=by
 unfold cp
 rw [u_]
 simp only [At,Bool.not_true,cond_false]
 refine va fun s hs => ?_
 have hlab:=hs.cf.lab
 rw [pU s.Conf.Labels.length (by omega)]
 ·rfl
 ·intro k hk
  unfold dd
  have hr:=pL hs (k : Int) 3 root (fK s (k : Int)).Mem
  have hlen:=qv hs (k : Int)
  have hnl:=hs.nl
  have htb:=lE hs.sb (k : Int)
  have hT : 0 ≤ (fK s (k : Int)).Mem ∧ (fK s (k : Int)).Mem ≤ 12 * 1073741824:=by
   unfold VB at htb
   omega
  have hsum:=sD s (k : Int) 3 root _ hT.1
  have hmany:=y8 hs (k : Int) 2 root (fK s (k : Int)).Mem
  rw [aj hk,cond_true,vF hs (by omega) (by omega),At,qt hs,At]
  have hdef : pIdeal s (k : Int) = pI 3 s root (k : Int) (fK s (k : Int)).Mem:=rfl
  have hpl : ∀ x ∈ pIdeal s (k : Int),x.Path.length ≤ 1000000:=by
   obtain ⟨y,ey,hy⟩:=mc hs (k : Int)
   rw [qt hs] at ey
   cases ey
   intro x hx
   have:=(lU hs.cf (hy.2 x hx)).len
   omega
  rw [← hdef] at hr hsum hmany
  generalize pIdeal s (k : Int) = l at hr hlen hsum hmany hpl
  have e0 : ((l.length : Int) != (l.length : Int)) = false:=by simp
  rw [e0,cond_false]
  have hps : ∀ j,0 ≤ ((l.take j).map (·.Mem)).sum ∧ ((l.take j).map (·.Mem)).sum ≤ (fK s (k : Int)).Mem:=by
   intro j
   have h1:=mV (l.take j) fun x hx => hsum.2 x (List.mem_of_mem_take hx)
   have h2:=mV (l.drop j) fun x hx => hsum.2 x (List.mem_of_mem_drop hx)
   have h3 : (l.map (·.Mem)).sum = ((l.take j).map (·.Mem)).sum + ((l.drop j).map (·.Mem)).sum:=by
    rw [← List.sum_append,← List.map_append,List.take_append_drop]
   have:=hsum.1
   omega
  have e1:=aw (σ:=Int) (Q:=fun x => x = (.inr ((l.map (·.Mem)).sum) : Bool ⊕ Int)) (fun (n : Int) i => (n,i)) l.length (fun j n => n = ((l.take j).map (·.Mem)).sum) (step:=bB s (k : Int) l l) (by omega) ?_ ?_ (s:=0) (by simp)
  ·obtain ⟨x,e,rfl⟩:=e1
   rw [e,At]
   dsimp only
   rw [jP hs.sb,At,decide_eq_false (by have:=hsum.1; omega),cond_false]
  ·rintro j hj n rfl
   have hpj:=hps (j + 1)
   have hj1:=hpl _ (List.getElem_mem hj)
   refine aU (a:=.inl (((l.take (j + 1)).map (·.Mem)).sum,w64 ((j : Int) + 1))) ?_ (.inl ⟨_,rfl,rfl⟩)
   unfold bB
   dsimp only
   rw [aj hj,cond_true]
   simp only [aA hj,At,Au hj]
   rw [beq_self_eq_true,Bool.not_true,cond_false,show (l[j].Mem != l[j].Mem) = false by simp,cond_false]
   have es : ((l.take (j + 1)).map (·.Mem)).sum = ((l.take j).map (·.Mem)).sum + l[j].Mem:=by
    rw [List.take_succ_eq_append_getElem hj,List.map_append,List.sum_append]
    simp
   have eq1 : (bif decide ((j : Int) > 0) then (inb (w64 ((j : Int) - 1)) l.length).bind fun i4 => (l[i4]?).bind fun x8 => some (! (Op.bytesLess x8.Path l[j].Path)) else some false) = some false:=by
    cases j with
    | zero => rfl
    | succ i =>
     have h0 : decide (((i + 1 : Nat) : Int) > 0) = true:=decide_eq_true (by omega)
     have ej : w64 (((i + 1 : Nat) : Int) - 1) = (i : Int):=by rw [ao (by omega) (by omega)]; omega
     rw [h0,cond_true,ej,aA (show i < l.length by omega),At,Au (show i < l.length by omega),At,(List.pairwise_iff_getElem.1 hr) i (i + 1) (by omega) hj (by omega)]
     rfl
   rw [eq1,At,cond_false,← es]
   have ew : w64 ((l.take (j + 1)).map (·.Mem)).sum = ((l.take (j + 1)).map (·.Mem)).sum:=ao (by omega) (by omega)
   have eq2 : (bif decide ((l.length : Int) > 1) then (aG s l[j].Path (k : Int)).bind fun x13 => (bf s l[j].Path (k : Int)).bind fun x15 => some (decide (l[j].Mem > (w64 (x13.Mem + x15.Mem)))) else some false) = some false:=by
    by_cases h1 : 1 < l.length
    ·have hw:=ml hs (k : Int) l[j].Path
     have hm:=hmany h1 l[j] (List.getElem_mem hj)
     rw [decide_eq_true (by omega),cond_true,ie hs.sb,At,lh hs,At,ao (by omega) (by omega)]
     unfold mj at hm
     rw [decide_eq_false (by omega)]
    ·rw [decide_eq_false (by omega),cond_false]
   rw [eq2,At,cond_false,ew]
  ·rintro n rfl
   refine aU (a:=.inr (.inr (((l.take l.length).map (·.Mem)).sum))) ?_ ⟨_,rfl,by rw [List.take_length]⟩
   unfold bB
   dsimp only
   rw [ar]
   rfl
 ·unfold dd
  rw [ar]
  rfl
end Go.Fx.D
