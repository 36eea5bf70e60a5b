/-
  The law over plain data: true at all inputs. Conditions: none.
-/
import Derived.Test.YteodpoelbdakgaaGreatS18
import Derived.Lib.Mul64
import Derived.WalkKit
namespace Go.Fx.D
open Go Go.Fx
set_option linter.unusedVariables false
set_option linter.unusedSimpArgs false
theorem qA (a : Vec) : bc a = some (decide (VB 1125899906842624 a)):=by
 unfold bc
 have e : decide (VB 1125899906842624 a) = ((decide (a.Mem ≥ 0) && decide (a.Mem ≤ 1125899906842624)) && (decide (a.Cores ≥ 0) && decide (a.Cores ≤ 1125899906842624))):=by
  rw [Bool.eq_iff_iff,decide_eq_true_iff]
  simp only [Bool.and_eq_true,decide_eq_true_eq,VB,ge_iff_le]
 rw [e]
 cases decide (a.Mem ≥ 0) <;> cases decide (a.Mem ≤ 1125899906842624) <;> cases decide (a.Cores ≥ 0) <;> cases decide (a.Cores ≤ 1125899906842624) <;> rfl
theorem yc {a : Vec} (h : VB 1125899906842624 a) : nW a = some (a,0):=by
 unfold nW
 rw [qA,decide_eq_true h]
 rfl
theorem qT {a b : Vec} {n m : Int} (ha : VB n a) (hb : VB m b) (h : n + m ≤ 1125899906842624) : k_ a b = some (vplus a b,0):=by
 have hn : 0 ≤ n ∧ 0 ≤ m:=by unfold VB at ha hb; omega
 have hs:=xE ha hb
 unfold k_
 rw [qA,qA,decide_eq_true (ha.mono (by omega)),decide_eq_true (hb.mono (by omega))]
 simp only [Gp,Bool.not_true,cond_false]
 have e : (⟨w64 (a.Mem + b.Mem),w64 (a.Cores + b.Cores)⟩ : Vec) = vplus a b:=by
  unfold VB vplus at hs
  dsimp only at hs
  rw [aj (by omega) (by omega),aj (by omega) (by omega)]
  rfl
 rw [e,yc (hs.mono h)]
 rfl
theorem Ax (a b : Vec) : vplus a b = vplus b a:=by unfold vplus; congr 1 <;> omega
theorem yA (a b c : Vec) : vplus (vplus a b) c = vplus a (vplus b c):=by unfold vplus; dsimp only; congr 1 <;> omega
theorem tU (a : Vec) : vplus ⟨0,0⟩ a = a:=by cases a; simp [vplus]
theorem yB (l : List Vec) (z : Vec) : l.foldl vplus z = vplus z (vsum l):=by
 induction l generalizing z with
 | nil => rw [tx,Ax,tU]; rfl
 | cons x l ih => rw [List.foldl_cons,ih,mf,yA]
theorem Cn {l : List Vec} (hl : l.length ≤ 1000) (h : ∀ v ∈ l,VB 1099511627776 v) : nO l = some (vsum l):=by
 unfold nO
 rw [(dD (fun v i => (v,i)) l vplus (fun k v => VB (1099511627776 * k) v) (fun v => v) (step:=mA l) (by omega) ?_ ?_ (s:=(⟨0,0⟩ : Vec)) (by simp [VB])).1]
 ·rw [yB,tU]; rfl
 ·intro k hk s hs
  have hb:=h _ (List.getElem_mem hk)
  refine ⟨?_,(xE hs hb).mono (by omega)⟩
  unfold mA
  rw [ah hk,ai hk]
  simp only [cond_true,Gp]
  rw [qT hs hb (by omega)]
  rfl
 ·intro s _
  unfold mA
  rw [ao]
  rfl
theorem u64w (x : Int) : IntKind.u64.wrap x = x % 18446744073709551616:=by rw [IntKind.wrap_u64]
theorem u64id {x : Int} (h : 0 ≤ x) (h2 : x < 18446744073709551616) : IntKind.u64.wrap x = x:=by rw [u64w]; omega
theorem shr32 (x : Int) : shrK .u64 x 32 = x / 4294967296:=by
 show x.fdiv (2 ^ min (32 : Int).toNat IntKind.u64.bits) = _
 rw [show (2 ^ min (32 : Int).toNat IntKind.u64.bits : Int) = 4294967296 from by decide,Int.fdiv_eq_ediv_of_nonneg _ (by decide)]
theorem andN (a b : Nat) (ha : a < 18446744073709551616) (hb : b < 18446744073709551616) : andK .u64 (a : Int) (b : Int) = ((a &&& b : Nat) : Int):=by
 show IntKind.u64.wrap ((BitVec.ofInt 64 (a : Int) &&& BitVec.ofInt 64 (b : Int)).toNat) = _
 have e : ((BitVec.ofInt 64 (a : Int) &&& BitVec.ofInt 64 (b : Int)).toNat) = a &&& b:=by
  rw [BitVec.toNat_and,BitVec.toNat_ofInt,BitVec.toNat_ofInt]
  congr 1 <;> omega
 rw [e]
 have : a &&& b ≤ a:=Nat.and_le_left
 exact u64id (by omega) (by omega)
theorem and32 (a : Nat) (ha : a < 18446744073709551616) : andK .u64 (a : Int) 4294967295 = ((a % 4294967296 : Nat) : Int):=by
 have:=andN a 4294967295 ha (by omega)
 rw [show ((4294967295 : Nat) : Int) = 4294967295 from rfl] at this
 rw [this,show (4294967295 : Nat) = 2 ^ 32 - 1 from rfl,Nat.and_two_pow_sub_one_eq_mod]
theorem tq (x y : Nat) (hx : x < 18446744073709551616) (hy : y < 18446744073709551616) :
  ls (x : Int) (y : Int) = some (((x * y / 18446744073709551616 : Nat) : Int),((x * y % 18446744073709551616 : Nat) : Int)):=by
 obtain ⟨h1,h2,h3,h4⟩:=Lib.mul64_hi x y hx hy
 have a1:=Lib.half_mul_le (a:=x / 4294967296) (b:=y / 4294967296) (by omega) (by omega)
 have a2:=Lib.half_mul_le (a:=x / 4294967296) (b:=y % 4294967296) (by omega) (by omega)
 have a3:=Lib.half_mul_le (a:=x % 4294967296) (b:=y / 4294967296) (by omega) (by omega)
 have a4:=Lib.half_mul_le (a:=x % 4294967296) (b:=y % 4294967296) (by omega) (by omega)
 have w : ∀ a : Nat,a < 18446744073709551616 → IntKind.u64.wrap (a : Int) = (a : Int):=fun a ha => u64id (by omega) (by omega)
 have d : ∀ a : Nat,(a : Int) / 4294967296 = ((a / 4294967296 : Nat) : Int):=fun a => by omega
 have m : ∀ a b : Nat,(a : Int) * (b : Int) = ((a * b : Nat) : Int):=fun a b => (Int.natCast_mul a b).symm
 have p : ∀ a b : Nat,(a : Int) + (b : Int) = ((a + b : Nat) : Int):=fun a b => (Int.natCast_add a b).symm
 unfold ls
 simp only [shr32,d]
 rw [and32 y hy,and32 x hx]
 simp only [m,p]
 rw [w _ (Nat.lt_of_le_of_lt a1 (by omega)),w _ (Nat.lt_of_le_of_lt a2 (by omega)),w _ (Nat.lt_of_le_of_lt a3 (by omega)),w _ (Nat.lt_of_le_of_lt a4 (by omega))]
 simp only [d,p]
 rw [w _ h2]
 simp only [d,p]
 rw [and32 _ h2]
 simp only [p]
 rw [w _ h3]
 simp only [d]
 have hq : x * y / 18446744073709551616 < 18446744073709551616:=by
  have : x * y < 18446744073709551616 * 18446744073709551616:=Nat.mul_lt_mul_of_lt_of_lt hx hy
  omega
 have hs : x / 4294967296 * (y / 4294967296) + (x / 4294967296 * (y % 4294967296) + x % 4294967296 * (y % 4294967296) / 4294967296) / 4294967296 < 18446744073709551616:=by omega
 rw [w _ hs]
 simp only [p]
 rw [h4,w _ hq,u64w]
 simp
theorem z8 {n bp : Int} (h0 : 0 ≤ n) (h1 : n ≤ 1099511627776) (b0 : 0 ≤ bp) (b1 : bp ≤ 1000000) : nK n bp = some (n * bp / 10000) ∧ 0 ≤ n * bp / 10000 ∧ n * bp / 10000 ≤ 109951162777600:=by
 obtain ⟨a,rfl⟩:=Int.eq_ofNat_of_zero_le h0
 obtain ⟨b,rfl⟩:=Int.eq_ofNat_of_zero_le b0
 have m3:=mT h0 h1 b0 b1
 have hm : (a : Int) * (b : Int) = ((a * b : Nat) : Int):=(Int.natCast_mul a b).symm
 rw [hm] at m3 ⊢
 refine ⟨?_,by omega,by omega⟩
 unfold nK
 rw [u64id (by omega) (by omega),u64id (by omega) (by omega),tq _ _ (by omega) (by omega)]
 generalize a * b = c at m3 ⊢
 have e1 : c / 18446744073709551616 = 0:=by omega
 have e2 : c % 18446744073709551616 = c:=by omega
 rw [e1,e2]
 simp only [Gp]
 unfold qt
 have n0 : nz 10000 = some ():=rfl
 have c1 : ((10000 : Int) == 0) = false:=rfl
 have c2 : decide ((10000 : Int) ≤ ((0 : Nat) : Int)) = false:=rfl
 have c3 : (((0 : Nat) : Int) == 0) = true:=rfl
 simp only [c1,c2,c3,n0,cond_true,cond_false,Gp]
 rw [Int.tdiv_eq_ediv_of_nonneg (by omega),u64id (by omega) (by omega),aj (by omega) (by omega)]
theorem qW {a : Vec} {bp : Int} (ha : VB 1099511627776 a) (b0 : 0 ≤ bp) (b1 : bp ≤ 1000000) : mV a bp = some (gx a bp,0):=by
 have ha':=ha
 unfold VB at ha'
 obtain ⟨e1,p1,p2⟩:=z8 ha'.1.1 ha'.1.2 b0 b1
 obtain ⟨e2,p3,p4⟩:=z8 ha'.2.1 ha'.2.2 b0 b1
 have hv : VB 109951162777600 (gx a bp):=⟨⟨p1,p2⟩,p3,p4⟩
 unfold mV
 rw [qA,decide_eq_true (ha.mono (by omega))]
 simp only [Gp,Bool.not_true,cond_false]
 rw [decide_eq_false (by omega),decide_eq_false (by omega)]
 simp only [Gp,cond_false]
 rw [e1,e2]
 simp only [Gp]
 have : (⟨a.Mem * bp / 10000,a.Cores * bp / 10000⟩ : Vec) = gx a bp:=rfl
 rw [this,yc (hv.mono (by omega))]
 rfl
theorem vg {s : State} (h : SC s) (label : Int) : lO s label = some (pTotal s label):=by
 unfold lO
 have hn:=h.n
 rw [bb (fun (l : List Vec) i => (l,i)) s.Nodes (fun n => n.Up && n.Label == label) (·.Cap) (step:=lg s label) (by omega) ?_ ?_]
 ·rw [Gp,Cn]
  ·rfl
  ·rw [List.length_map]
   have:=List.length_filter_le (fun n : Node => n.Up && n.Label == label) s.Nodes
   omega
  ·intro v hv
   obtain ⟨n,hn,rfl⟩:=List.mem_map.1 hv
   exact (h.b.nc n (List.mem_filter.1 hn).1).mono (by omega)
 ·intro k hk l hl
  unfold lg
  rw [ah hk,ai hk]
  simp only [cond_true,Gp]
  rw [am (by simp; omega) (by omega)]
  cases s.Nodes[k].Up <;> cases s.Nodes[k].Label == label <;> rfl
 ·intro l
  unfold lg
  rw [ao]
  rfl
theorem Du {s : State} (h : SC s) (hp : s.Plans.length ≤ 100) (label : Int) : n_ s label = some (pKept s label):=by
 unfold n_
 rw [bb (fun (l : List Vec) i => (l,i)) s.Plans (fun p => p.Label == label && decide (p.From ≤ s.Now) && decide (s.Now < p.Until)) (·.Need) (step:=lR s label) (by omega) ?_ ?_]
 ·rw [Gp,Cn]
  ·rfl
  ·rw [List.length_map]
   have:=List.length_filter_le (fun p : Plan => p.Label == label && decide (p.From ≤ s.Now) && decide (s.Now < p.Until)) s.Plans
   omega
  ·intro v hv
   obtain ⟨n,hn,rfl⟩:=List.mem_map.1 hv
   exact (h.b.pn n (List.mem_filter.1 hn).1).mono (by omega)
 ·intro k hk l hl
  unfold lR
  rw [ah hk,ai hk]
  simp only [cond_true,Gp]
  rw [am (by simp; omega) (by omega)]
  cases s.Plans[k].Label == label <;> cases decide (s.Plans[k].From ≤ s.Now) <;> cases decide (s.Now < s.Plans[k].Until) <;> rfl
 ·intro l
  unfold lR
  rw [ao]
  rfl
theorem tZ {α τ ρ : Type} (mk : Int → τ) (l : List α) (p : α → Bool) (g : Int → ρ) (z : ρ) {step : τ → Option (τ ⊕ ρ)} (hn : l.length < 1000000000)
  (h1 : ∀ k (hk : k < l.length),p l[k] = false → step (mk (k : Int)) = some (.inl (mk (w64 ((k : Int) + 1)))))
  (h2 : ∀ k (hk : k < l.length),p l[k] = true → step (mk (k : Int)) = some (.inr (g (k : Int))))
  (h3 : step (mk (l.length : Int)) = some (.inr z)) : (∃ k,∃ (hk : k < l.length),l.find? p = some l[k] ∧ loop step (mk 0) = some (g (k : Int))) ∨ (l.find? p = none ∧ loop step (mk 0) = some z):=by
 have h:=av (σ:=Unit) (Q:=fun x => (∃ k,∃ (hk : k < l.length),l.find? p = some l[k] ∧ x = g (k : Int)) ∨ (l.find? p = none ∧ x = z)) (fun _ i => mk i) l.length (fun k _ => (l.take k).find? p = none) (step:=step) hn ?_ ?_ (s:=()) rfl
 ·obtain ⟨x,e,h⟩:=h
  rcases h with ⟨k,hk,h1,rfl⟩ | ⟨h1,rfl⟩
  ·exact .inl ⟨k,hk,h1,e⟩
  ·exact .inr ⟨h1,e⟩
 ·intro k hk _ hs
  cases hp : p l[k] with
  | false =>
   refine jw (h1 k hk hp) (.inl ⟨(),rfl,?_⟩)
   rw [List.take_succ_eq_append_getElem hk,List.find?_append,hs]
   simp [hp]
  | true =>
   refine jw (h2 k hk hp) (.inr ⟨_,rfl,.inl ⟨k,hk,?_,rfl⟩⟩)
   conv => lhs; rw [← List.take_append_drop k l]
   rw [List.find?_append,hs,Option.none_or,List.drop_eq_getElem_cons hk,List.find?_cons_of_pos hp]
 ·intro _ hs
  rw [List.take_length] at hs
  exact jw h3 ⟨_,rfl,.inr ⟨hs,rfl⟩⟩
theorem tv {c : Conf} (h : CSmall c) (p : Str) : me c p = some ((pFind c p).elim (noQ,false) fun q => (q,true)):=by
 unfold me qk
 have hq:=h.q
 have e:=tZ (fun i => i) c.Queues (fun q => q.Path == p) (fun i => (.inl i : Int ⊕ Unit)) (.inr ()) (step:=kg c.Queues fun a' => lJ a'.1 p) (by omega) ?_ ?_ ?_
 ·unfold pFind
  rcases e with ⟨k,hk,e1,e2⟩ | ⟨e1,e2⟩
  ·rw [e1,e2]
   simp only [Gp,Option.elim_some]
   rw [decide_eq_false (by omega),ai hk]
   simp only [cond_false,Gp]
   unfold oT
   rw [am (by have:=h.c _ (List.getElem_mem hk); simp; omega) (by omega)]
   rfl
  ·rw [e1,e2]
   rfl
 ·intro k hk hf
  unfold kg lJ
  rw [ah hk,ai hk]
  simp only [cond_true,Gp,hf,cond_false]
 ·intro k hk hf
  unfold kg lJ
  rw [ah hk,ai hk]
  simp only [cond_true,Gp,hf]
 ·unfold kg
  rw [ao]
  rfl
theorem vC (p : Str) (hp : p.length < 1000000000) : ∀ m,m ≤ p.length → loop (dm p 46) ((m : Int) - 1) = some (if ((p.take m).reverse.dropWhile (· != 46)).length = 0 then .inr () else .inl ((((p.take m).reverse.dropWhile (· != 46)).length : Int) - 1)):=by
 intro m
 induction m with
 | zero =>
  intro _
  rw [aS]
  rfl
 | succ m ih =>
  intro hm
  rw [aS]
  have e0 : ((m + 1 : Nat) : Int) - 1 = (m : Int):=by omega
  rw [e0]
  unfold dm
  rw [decide_eq_true (by omega),ai (show m < p.length by omega)]
  have hb : ((p[m].toNat : Int) == 46) = !(p[m] != 46):=by
   rw [Bool.eq_iff_iff,beq_iff_eq,Bool.not_eq_true',bne_eq_false_iff_eq]
   refine ⟨fun h => ?_,fun h => by rw [h]; rfl⟩
   exact UInt8.toNat_inj.1 (by have : (46 : UInt8).toNat = 46:=rfl; omega)
  have ht : (p.take (m + 1)).reverse = p[m] :: (p.take m).reverse:=by rw [List.take_succ_eq_append_getElem (by omega),List.reverse_append]; rfl
  rw [ht,List.dropWhile_cons]
  simp only [cond_true,Gp,hb]
  cases h : (p[m] != 46) with
  | true =>
   simp only [Bool.not_true,cond_false,if_true]
   rw [aj (by omega) (by omega)]
   exact ih (by omega)
  | false =>
   simp only [Bool.not_false,cond_true,Bool.false_eq_true,if_false,List.length_cons,List.length_reverse,List.length_take]
   rw [if_neg (by omega)]
   congr 2
   omega
theorem Bl {p : Str} (hp : p.length < 1000000000) : ∃ b,jZ p = some (aR p,b):=by
 have e : dC p [46] = aL p 46:=by
  unfold dC
  rw [show ((([46] : List UInt8).length : Int) == 0) = false from rfl,show ((([46] : List UInt8).length : Int) == 1) = true from rfl]
  simp only [cond_true,cond_false]
  rw [show idx ([46] : List UInt8) 0 = some 46 from rfl,Gp]
  show (aL p 46).bind some = _
  cases aL p 46 <;> rfl
 unfold jZ
 rw [e]
 unfold aL
 dsimp only
 rw [aj (by omega) (by omega),vC p hp p.length (Nat.le_refl _),List.take_length,lE]
 have hle:=(List.dropWhile_suffix (· != 46) (l:=p.reverse)).length_le
 rw [List.length_reverse] at hle
 generalize (p.reverse.dropWhile (· != 46)).length = n at hle ⊢
 by_cases h : n = 0
 ·subst h; exact ⟨false,rfl⟩
 ·rw [if_neg h]
  simp only [Gp]
  rw [decide_eq_false (by omega)]
  unfold slc
  simp only [cond_false]
  rw [if_pos ⟨by omega,by omega,by omega⟩]
  simp only [Gp,Int.toNat_zero,List.drop_zero]
  refine ⟨true,?_⟩
  congr 3
  omega
theorem yh : ∀ (n : Nat) (p : Str) (l : List Str),p.length ≤ n → p.length + l.length ≤ 1000000 → loop mU (p,l) = some (l ++ pUp p)
 | n,p,l,h1,h2 => by
  by_cases h : p = []
  ·subst h
   rw [aS]
   simp [mU,lC]
  ·have hl:=eS h
   have hb : (p == []) = false:=by simp [h]
   have hs : mU (p,l) = some (.inl (aR p,l ++ [p])):=by
    unfold mU
    simp only [hb,Bool.not_false,cond_true]
    obtain ⟨b,e⟩:=Bl (p:=p) (by omega)
    rw [am (by simp; omega) (by omega),e]
    rfl
   rw [aS,hs]
   dsimp only
   match n with
   | 0 => omega
   | n + 1 =>
    rw [yh n (aR p) (l ++ [p]) (by omega) (by simp; omega),jX h]
    simp
theorem Bw {p : Str} (h : p.length ≤ 1000000) : qj p = some (pUp p):=by
 unfold qj
 rw [yh p.length p [] (Nat.le_refl _) (by simpa using h)]
 rfl
theorem xg {s : State} (h : SC s) {path : Str} (hp : path.length ≤ 1000000) {label : Int} (h0 : 0 ≤ label) (h1 : label < s.Conf.Labels.length) (least : Bool) {part : TupT fam [.st 1] → Option Int}
  (hpart : ∀ c : Cap,part (c,()) = some (bif least then c.Least else c.Most)) : mJ s path label part = some (pDown s path label least):=by
 have hn:=h.n
 unfold mJ pDown
 rw [Bw hp,Gp,tv h.b.cf]
 cases hf : pFind s.Conf path with
 | none => simp
 | some q =>
  simp only [Option.elim_some,Gp,Bool.not_true,cond_false,Option.isSome_some,true_and]
  rw [if_pos ⟨h0,h1⟩,vg h,Gp]
  have hfound:=nI h.c path.length path (Nat.le_refl _) (by rw [hf]; rfl)
  have hul:=oh path
  have hpos : 0 < (pUp path).length:=by
   have : path ≠ []:=by
    intro e
    obtain ⟨hm,hq⟩:=kZ hf
    obtain ⟨i,hi,rfl⟩:=List.getElem_of_mem hm
    have:=(h.c.q i hi).path.root
    rw [hq,e] at this
    simp at this
   rw [jX this]
   simp
  rw [aj (by omega) (by omega)]
  have key : ∀ m,m ≤ (pUp path).length → ∀ v,VB (s.Nodes.length * 1073741824) v → loop (lW s label part (pUp path)) ((⟨0,0⟩ : Vec),v,(m : Int) - 1) = some (.inr (⟨0,0⟩,((pUp path).take m).reverse.foldl (fun v p => gx v (bpOf s.Conf label least p)) v)):=by
   intro m
   induction m with
   | zero =>
    intro _ v _
    rw [aS]
    rfl
   | succ m ih =>
    intro hm v hv
    have hfm:=hfound _ (List.getElem_mem (show m < (pUp path).length by omega))
    have hbp:=wh h.c hfm h0 h1 least
    have hs : lW s label part (pUp path) ((⟨0,0⟩ : Vec),v,((m + 1 : Nat) : Int) - 1) = some (.inl (⟨0,0⟩,gx v (bpOf s.Conf label least (pUp path)[m]),(m : Int) - 1)):=by
     unfold lW
     dsimp only
     rw [show ((m + 1 : Nat) : Int) - 1 = (m : Int) by omega,decide_eq_true (by omega),ay (show m < (pUp path).length by omega)]
     simp only [cond_true,Gp,Gq (show m < (pUp path).length by omega)]
     obtain ⟨q',e1,e2,e3,e4⟩:=qO h.c hfm h0 h1
     rw [tv h.b.cf,e1]
     simp only [Option.elim_some,Gp,Bool.not_true,cond_false]
     rw [decide_eq_false (show ¬ label < 0 by omega),decide_eq_false (show ¬ label ≥ (q'.Caps.length : Int) by omega)]
     simp only [cond_false,Gp]
     have hin : inb label q'.Caps.length = some label.toNat:=by
      unfold inb
      rw [if_pos ⟨by omega,e2⟩]
     rw [hin]
     simp only [Gp,e3]
     rw [hpart]
     simp only [Gp]
     rw [show (bif least then (capAt s.Conf label (pUp path)[m]).Least else (capAt s.Conf label (pUp path)[m]).Most) = bpOf s.Conf label least (pUp path)[m] from rfl]
     rw [qW (hv.mono (by omega)) hbp.1 (by omega),Gp,aj (by omega) (by omega)]
    rw [aS,hs]
    dsimp only
    rw [ih (by omega) _ (rR hv hbp.1 hbp.2),List.take_succ_eq_append_getElem (by omega),List.reverse_append]
    rfl
  have:=key ((pUp path).length - 1) (by omega) _ (oU h.b label)
  rw [show (((pUp path).length - 1 : Nat) : Int) - 1 = ((pUp path).length : Int) - 2 by omega] at this
  rw [this,List.dropLast_eq_take]
  rfl
theorem rN {s : State} (h : SC s) {path : Str} (hp : path.length ≤ 1000000) {label : Int} (h0 : 0 ≤ label) (h1 : label < s.Conf.Labels.length) : kx s path label = some (pDown s path label true):=by
 unfold kx; rw [xg h hp h0 h1 true (fun c => rfl)]; rfl
theorem DM {s : State} (h : SC s) {path : Str} (hp : path.length ≤ 1000000) {label : Int} (h0 : 0 ≤ label) (h1 : label < s.Conf.Labels.length) : n7 s path label = some (pDown s path label false):=by
 unfold n7; rw [xg h hp h0 h1 false (fun c => rfl)]; rfl
theorem DU {s : State} (h : SC s) {path : Str} (hp : path.length ≤ 1000000) {label : Int} (h0 : 0 ≤ label) (h1 : label < s.Conf.Labels.length) : n9 s path label = some (pUser s path label):=by
 unfold n9 pUser
 have hn:=h.n
 rw [tv h.b.cf,Gp,rN h hp h0 h1,Gp]
 cases hf : pFind s.Conf path with
 | none =>
  have : pDown s path label true = ⟨0,0⟩:=by unfold pDown; rw [if_neg (by rw [hf]; simp)]
  rw [this]
  simp only [Option.elim_none]
  rw [qW (by unfold VB; simp) (by unfold noQ; decide) (by unfold noQ; decide)]
  rfl
 | some q =>
  have hu:=tN h.c hf
  simp only [Option.elim_some]
  rw [qW ((h.down_bd label true).mono (by omega)) (by omega) hu.2]
  rfl
theorem xS (q : Str) : (46 ∉ q ∧ aR q = []) ∨ ∃ r,46 ∉ r ∧ q = aR q ++ 46 :: r:=by
 have h0 : q.reverse.takeWhile (· != 46) ++ q.reverse.dropWhile (· != 46) = q.reverse:=List.takeWhile_append_dropWhile
 have h1 : 46 ∉ (q.reverse.takeWhile (· != 46)).reverse:=by
  intro h
  have:=List.all_eq_true.1 (List.all_takeWhile (p:=(· != 46)) (l:=q.reverse)) _ (List.mem_reverse.1 h)
  simp at this
 have h2 : q = (q.reverse.dropWhile (· != 46)).reverse ++ (q.reverse.takeWhile (· != 46)).reverse:=by rw [← List.reverse_append,h0,List.reverse_reverse]
 cases hd : q.reverse.dropWhile (· != 46) with
 | nil =>
  left
  rw [hd] at h2
  refine ⟨?_,by unfold aR; rw [hd]; rfl⟩
  rw [h2]
  simpa using h1
 | cons x d =>
  right
  have hx : x = 46:=by
   have : (q.reverse.dropWhile (· != 46)).head? = some x:=by rw [hd]; rfl
   have:=List.head?_dropWhile_not (· != 46) q.reverse
   rw [hd] at this
   simpa using this
  refine ⟨(q.reverse.takeWhile (· != 46)).reverse,h1,?_⟩
  unfold aR
  rw [hd]
  conv => lhs; rw [h2,hd,hx]
  simp
theorem E1 {p u r : Str} (hr : 46 ∉ r) : (p ++ [46]) <+: (u ++ 46 :: r) ↔ p = u ∨ (p ++ [46]) <+: u:=by
 constructor
 ·intro h
  by_cases h1 : p.length < u.length
  ·right
   exact List.prefix_of_prefix_length_le h (List.prefix_append _ _) (by simp; omega)
  ·by_cases h2 : p.length = u.length
   ·left
    have:=List.prefix_of_prefix_length_le (List.IsPrefix.trans (List.prefix_append p [46]) h) (List.prefix_append u _) (by omega)
    exact List.IsPrefix.eq_of_length this h2
   ·exfalso
    have hp : u ++ [46] <+: p:=by
     refine List.prefix_of_prefix_length_le (l₃:=u ++ 46 :: r) ⟨r,by simp⟩ (List.IsPrefix.trans (List.prefix_append p [46]) h) (by simp; omega)
    obtain ⟨z,rfl⟩:=hp
    obtain ⟨y,hy⟩:=h
    have : z ++ [46] ++ y = r:=by
     have : u ++ (46 :: (z ++ [46] ++ y)) = u ++ (46 :: r):=by rw [← hy]; simp
     have:=List.append_cancel_left this
     simpa using this
    exact hr (by rw [← this]; simp)
 ·rintro (rfl | h)
  ·exact ⟨r,by simp⟩
  ·exact List.IsPrefix.trans h (List.prefix_append _ _)
theorem Ce {p : Str} (hp : p ≠ []) : ∀ (n : Nat) (q : Str),q.length ≤ n → (p ∈ pUp q ↔ p = q ∨ (p ++ [46]) <+: q)
 | n,q,hn => by
  by_cases hq : q = []
  ·subst hq
   rw [lC]
   constructor
   ·intro h; cases h
   ·rintro (h | h)
    ·exact absurd h hp
    ·have:=h.length_le; simp at this
  ·rw [jX hq,List.mem_cons]
   refine or_congr Iff.rfl ?_
   have ha:=eS hq
   match n with
   | 0 => omega
   | n + 1 =>
    rw [Ce hp n (aR q) (by omega)]
    rcases xS q with ⟨h1,h2⟩ | ⟨r,h1,h2⟩
    ·rw [h2]
     constructor
     ·rintro (h | h)
      ·exact absurd h hp
      ·have:=h.length_le; simp at this
     ·intro h
      exact absurd (h.subset (by simp)) h1
    ·conv => rhs; rw [h2]
     rw [E1 h1]
def pHasP (q p : Str) : Bool:=q == p || (p ++ [46]).isPrefixOf q
theorem ES {q : Str} (hq : PathOk q) (p : Str) : pHasP q p = kX q p:=by
 have hqn : q ≠ []:=by
  intro e
  have:=hq.root
  rw [e] at this
  simp at this
 unfold pHasP kX
 rw [Bool.eq_iff_iff,Bool.or_eq_true,beq_iff_eq,List.isPrefixOf_iff_prefix,List.contains_iff_mem]
 by_cases hp : p = []
 ·subst hp
  constructor
  ·rintro (h | h)
   ·exact absurd h hqn
   ·exfalso
    rcases hq.root with h1 | h1
    ·rw [h1] at h; revert h; decide
    ·obtain ⟨z,rfl⟩:=h1
     obtain ⟨y,hy⟩:=h
     have:=congrArg List.head? hy
     simp at this
  ·intro h
   exfalso
   have key : ∀ (n : Nat) (x : Str),x.length ≤ n → [] ∉ pUp x:=by
    intro n
    induction n with
    | zero =>
     intro x hx
     have : x = []:=List.length_eq_zero_iff.1 (by omega)
     subst this
     simp [lC]
    | succ n ih =>
     intro x hx
     by_cases h : x = []
     ·subst h; simp [lC]
     ·have:=eS h
      rw [jX h]
      simp only [List.mem_cons,not_or]
      exact ⟨fun e => h e.symm,ih _ (by omega)⟩
   exact key _ _ (Nat.le_refl _) h
 ·rw [Ce hp q.length q (Nat.le_refl _)]
  constructor
  ·rintro (rfl | h)
   ·exact .inl rfl
   ·exact .inr h
  ·rintro (rfl | h)
   ·exact .inl rfl
   ·exact .inr h
theorem CD (s p : Str) : jz s p = some (p.isPrefixOf s):=by
 unfold jz jI
 by_cases h : p.length ≤ s.length
 ·rw [decide_eq_true (by omega)]
  unfold slc
  simp only [cond_true]
  rw [if_pos ⟨by omega,by omega,by omega⟩]
  simp only [Gp,Int.toNat_zero,List.drop_zero,Int.toNat_natCast]
  congr 1
  rw [Bool.eq_iff_iff,beq_iff_eq,List.isPrefixOf_iff_prefix,List.prefix_iff_eq_take]
  exact eq_comm
 ·rw [decide_eq_false (by omega)]
  have : p.isPrefixOf s = false:=by
   rw [Bool.eq_false_iff]
   intro hc
   have:=(List.isPrefixOf_iff_prefix.1 hc).length_le
   omega
  rw [this]
  rfl
theorem FY {v : View} {a : App} (hp : v.path.length ≤ 1000000) (ha : PathOk a.Queue) : ll v a = some (kX a.Queue v.path && (v.user == (-1) || a.User == v.user)):=by
 unfold ll
 rw [dd (by simp; omega),Gp,CD,← ES ha]
 unfold pHasP
 cases a.Queue == v.path <;> cases (v.path ++ [46]).isPrefixOf a.Queue <;> cases v.user == (-1) <;> rfl
theorem Ee {v : View} (h : v.s.Apps.length ≤ 100000) (c : Cont) : j4 v c = some ((appAt v.s c.App).elim (noA,false) fun x => (x,true)):=by
 unfold j4
 have e:=cI (fun i => (noA,i)) v.s.Apps (fun x => x.Id == c.App) (fun x => (.inl (x,true) : (App × Bool) ⊕ App)) (.inr noA) (step:=eu v c) (by omega) ?_ ?_ ?_
 ·unfold noA at e
  rw [e]
  unfold appAt noA
  cases v.s.Apps.find? fun x => x.Id == c.App <;> rfl
 ·intro k hk hf
  unfold eu
  rw [ah hk,ai hk]
  simp only [cond_true,Gp,hf,cond_false]
 ·intro k hk hf
  unfold eu
  rw [ah hk,ai hk]
  simp only [cond_true,Gp,hf]
 ·unfold eu
  rw [ao]
  rfl
theorem wj {N : Nat} {s : State} (h : Inv N s) {path : Str} (hp : path.length ≤ 1000000) (label user : Int) : iN ⟨s,path,label,user⟩ = some (pUsed s path label (user == (-1)) user):=by
 have hcl:=h.cl
 have hal:=h.al
 unfold iN
 rw [jb (fun v i => (v,i)) s.Conts (pHas s path label (user == (-1)) user) (·.Size) (step:=jk ⟨s,path,label,user⟩) (by omega) (fun c hc _ => ((h.sb.cs c hc).mono (by omega))) ?_ ?_]
 ·rfl
 ·intro k hk v hv
  unfold jk
  dsimp only
  rw [ah hk]
  simp only [ai hk,cond_true,Gp]
  rw [Ee (by dsimp only; omega),Gp,qT hv (h.sb.cs _ (List.getElem_mem hk)) (by omega)]
  unfold pHas
  dsimp only
  cases ha : appAt s s.Conts[k].App with
  | none => simp
  | some a =>
   simp only [Option.elim_some,Gp,cond_true]
   rw [FY (by dsimp only; omega) (h.ak a (jn (id:=fun x : App => x.Id) ha).1).path]
   dsimp only
   rcases Bool.eq_false_or_eq_true (kX a.Queue path) with hb | hb <;> simp only [hb] <;> cases s.Conts[k].Label == label <;> cases user == (-1) <;> cases a.User == user <;> rfl
 ·intro v
  unfold jk
  dsimp only
  rw [ao]
  rfl
theorem Bn (s : State) (path : Str) (label u w : Int) : pUsed s path label true u = pUsed s path label true w:=by
 have : pHas s path label true u = pHas s path label true w:=by
  funext c
  unfold pHas
  cases appAt s c.App <;> simp
 unfold pUsed
 rw [this]
theorem s_ {N : Nat} {s : State} (h : Inv N s) {path : Str} (hp : path.length ≤ 1000000) (label : Int) : lr s path label = some (pUsed s path label true 0):=by
 unfold lr
 have:=wj h hp label (-1)
 rw [show ((-1 : Int) == -1) = true from rfl,Bn s path label (-1) 0] at this
 rw [this]
 rfl
theorem Dh {N : Nat} {s : State} (h : Inv N s) {path : Str} (hp : path.length ≤ 1000000) (label : Int) {user : Int} (hu : 0 ≤ user) : li s path label user = some (pUsed s path label false user):=by
 unfold li
 have hb : (user == -1) = false:=by simp only [beq_eq_false_iff_ne]; omega
 have:=wj h hp label user
 rw [hb] at this
 rw [hb,cond_false,this]
 rfl
theorem nj (a b : Vec) : i_ a b = some (vfits a b):=by
 unfold i_ vfits
 cases decide (a.Mem ≤ b.Mem) <;> rfl
theorem Ek {s : State} (h : SC s) {k : Int} (h0 : 0 ≤ k) (h1 : k < s.Conf.Labels.length) (least : Bool) : pDown s root k least = pTotal s k:=by
 unfold pDown
 rw [if_pos ⟨qB h.c,h0,h1⟩]
 rfl
theorem En {N : Nat} {s : State} (h : Inv N s) {path : Str} (hp : path.length ≤ 1000000) {label : Int} (h0 : 0 ≤ label) (h1 : label < s.Conf.Labels.length) {size : Vec} (hs : VB 1073741824 size) : oa s path label size = some (pRoom s path label size):=by
 have hl:=oh path
 have hcl:=h.cl
 have hnl:=h.nl
 have hpl:=h.pl
 have sc:=h.sc
 unfold oa
 rw [Bw hp,Gp]
 have st : ∀ k (hk : k < (pUp path).length),ke s label size (pUp path) (k : Int) = some (bif jN s label size (pUp path)[k] then .inl (w64 ((k : Int) + 1)) else .inr (.inl false)):=by
  intro k hk
  unfold ke jN
  rw [ah hk,ay hk]
  simp only [cond_true,Gp,Gq hk]
  have hx : (pUp path)[k].length ≤ 1000000:=by have:=sW (List.getElem_mem hk); omega
  rw [s_ h hx,Gp,qT (qh sc.b _ label true 0) hs (by omega),Gp]
  simp only [show ((0 : Int) != 0) = false from rfl,cond_false]
  rw [DM sc hx h0 h1,Gp,nj,Gp,Gp]
  have hT:=oU sc.b label
  have hK:=zj sc.b label
  have e1 : (⟨imax (w64 ((pTotal s label).Mem - (pKept s label).Mem)) 0,imax (w64 ((pTotal s label).Cores - (pKept s label).Cores)) 0⟩ : Vec) = vless (pTotal s label) (pKept s label):=by
   unfold VB at hT hK
   unfold vless
   rw [aj (by omega) (by omega),aj (by omega) (by omega)]
  cases hb : vfits (vplus (pUsed s (pUp path)[k] label true 0) size) (pDown s (pUp path)[k] label false) with
  | false => rfl
  | true =>
   simp only [Bool.not_true,cond_false,Bool.true_and]
   rw [vg sc,Du sc (by omega)]
   simp only [Gp]
   rw [e1]
   by_cases hr : (pUp path)[k] = root
   ·have hm : (vless (pTotal s label) (pKept s label)).Mem = imax (w64 ((pTotal s label).Mem - (pKept s label).Mem)) 0:=by rw [← e1]
    have hc : (vless (pTotal s label) (pKept s label)).Cores = imax (w64 ((pTotal s label).Cores - (pKept s label).Cores)) 0:=by rw [← e1]
    rw [← hm,← hc]
    rw [hr,Ek sc h0 h1] at hb
    rw [hr]
    generalize vless (pTotal s label) (pKept s label) = F
    generalize vplus (pUsed s root label true 0) size = V at hb ⊢
    generalize pTotal s label = T at hb ⊢
    simp only [show ((root : Str) == [114,111,111,116]) = true from rfl,cond_true,Bool.not_true,Bool.false_or]
    cases hq : (F.Mem == T.Mem) && (F.Cores == T.Cores) with
    | true =>
     have : F = T:=by
      rw [Bool.and_eq_true,beq_iff_eq,beq_iff_eq] at hq
      cases F; cases T; simp at hq; simp [hq]
     rw [this,hb]
     rfl
    | false =>
     simp only [Bool.not_false,cond_true,nj,Gp]
     cases vfits V F <;> rfl
   ·have : ((pUp path)[k] == ([114,111,111,116] : Str)) = false:=by simpa using hr
    simp only [this,cond_false,Gp,Bool.not_false,Bool.true_or,cond_true]
 have e:=cI (fun i => i) (pUp path) (fun x => !(jN s label size x)) (fun q => (.inl false : Bool ⊕ Unit)) (.inr ()) (step:=ke s label size (pUp path)) (by omega) ?_ ?_ ?_
 ·rw [e]
  unfold pRoom
  rw [← wQ]
  cases (pUp path).find? fun x => !(jN s label size x) <;> rfl
 ·intro k hk hf
  rw [st k hk]
  simp only [Bool.not_eq_false'] at hf
  rw [hf]; rfl
 ·intro k hk hf
  rw [st k hk]
  simp only [Bool.not_eq_true'] at hf
  rw [hf]; rfl
 ·unfold ke
  rw [ao]
  rfl
theorem qV : ∀ a : Str,Op.bytesLess a a = false
 | [] => rfl
 | x :: a => by
  unfold Op.bytesLess
  rw [qV a]
  have : ¬ x < x:=by rw [UInt8.lt_iff_toNat_lt]; omega
  simp [this]
theorem tA : ∀ {a b c : Str},Op.bytesLess a b = true → Op.bytesLess b c = true → Op.bytesLess a c = true
 | _,[],_,h,_ => by simp [Op.bytesLess] at h
 | _,_ :: _,[],_,h => by simp [Op.bytesLess] at h
 | [],y :: b,z :: c,_,_ => by simp [Op.bytesLess]
 | x :: a,y :: b,z :: c,h1,h2 => by
  unfold Op.bytesLess at *
  simp only [Bool.or_eq_true,decide_eq_true_eq,Bool.and_eq_true,beq_iff_eq] at *
  simp only [UInt8.lt_iff_toNat_lt] at *
  rcases h1 with h1 | ⟨rfl,h1⟩
  ·rcases h2 with h2 | ⟨rfl,h2⟩
   ·left; omega
   ·left; exact h1
  ·rcases h2 with h2 | ⟨rfl,h2⟩
   ·left; exact h2
   ·right; exact ⟨rfl,tA h1 h2⟩
theorem xx : ∀ {a b : Str},Op.bytesLess a b = false → a ≠ b → Op.bytesLess b a = true
 | [],[],_,h => absurd rfl h
 | [],_ :: _,h,_ => by simp [Op.bytesLess] at h
 | _ :: _,[],_,_ => by simp [Op.bytesLess]
 | x :: a,y :: b,h,hn => by
  unfold Op.bytesLess at *
  simp only [Bool.or_eq_false_iff,decide_eq_false_iff_not,Bool.and_eq_false_iff,beq_eq_false_iff_ne,Bool.or_eq_true,decide_eq_true_eq,Bool.and_eq_true,beq_iff_eq] at *
  simp only [UInt8.lt_iff_toNat_lt] at *
  by_cases hx : x = y
  ·subst hx
   right
   refine ⟨rfl,xx ?_ (fun e => hn (by rw [e]))⟩
   rcases h.2 with h | h
   ·exact absurd rfl h
   ·exact h
  ·left
   have : x.toNat ≠ y.toNat:=fun e => hx (UInt8.toNat_inj.1 e)
   omega
theorem AK {c : Conf} (h : ConfOk c) : (c.Queues.map (·.Path)).Pairwise fun x y => Op.bytesLess x y = true:=by
 have hn : ∀ j (hj : j + 1 < c.Queues.length),Op.bytesLess c.Queues[j].Path c.Queues[j + 1].Path = true:=by
  intro j hj
  have:=(h.q (j + 1) hj).less c.Queues[j] (by omega) (by simp)
  unfold strLe at this
  rw [Bool.or_eq_false_iff,beq_eq_false_iff_ne] at this
  exact xx this.1 this.2
 have key : ∀ j i (hij : i < j) (hj : j < c.Queues.length),Op.bytesLess (c.Queues[i]'(by omega)).Path c.Queues[j].Path = true:=by
  intro j
  induction j with
  | zero => intro i hij; omega
  | succ j ih =>
   intro i hij hj
   by_cases he : i = j
   ·subst he; exact hn i hj
   ·exact tA (ih i (by omega) (by omega)) (hn j hj)
 rw [List.pairwise_iff_getElem]
 intro i j hi hj hij
 rw [List.getElem_map,List.getElem_map]
 exact key j i hij (by simpa using hj)
theorem yx {c : Conf} (h : ConfOk c) : (c.Queues.map (·.Path)).Nodup :=
 (AK h).imp fun hab e => by rw [e,qV] at hab; cases hab
theorem Am {c : Conf} (h : ConfOk c) (p : Str) : (pKids c p).Nodup:=by
 unfold pKids
 split
 ·exact List.nodup_nil
 ·exact (List.filter_sublist.map _).nodup (yx h)
def Ok (v : Vec) : Prop:=0 ≤ v.Mem ∧ v.Mem ≤ 1125899906842624 ∧ 0 ≤ v.Cores ∧ v.Cores ≤ 1125899906842624
instance (v : Vec) : Decidable (Ok v):=by unfold Ok; exact inferInstance
theorem Er (v : Vec) : bc v = some (decide (Ok v)):=by
 unfold bc Ok
 by_cases h1 : 0 ≤ v.Mem <;> by_cases h2 : v.Mem ≤ 1125899906842624 <;> by_cases h3 : 0 ≤ v.Cores <;> by_cases h4 : v.Cores ≤ 1125899906842624 <;> simp [h1,h2,h3,h4]
theorem FW (v : Vec) : a6 v = some (decide (Ok v)):=by
 unfold a6 gn Ok
 by_cases h1 : 0 ≤ v.Mem <;> by_cases h2 : v.Mem ≤ 1125899906842624 <;> by_cases h3 : 0 ≤ v.Cores <;> by_cases h4 : v.Cores ≤ 1125899906842624 <;> simp [h1,h2,h3,h4]
def rcmp (n a m b : Int) : Int:=if a = 0 then (if b = 0 then 0 else 1) else if b = 0 then -1 else if n * b < m * a then -1 else if n * b = m * a then 0 else 1
theorem uk (r q : Ratio) (h1 : 0 ≤ r.n ∧ r.n ≤ 1125899906842624) (h2 : 0 ≤ r.of ∧ r.of ≤ 1125899906842624) (h3 : 0 ≤ q.n ∧ q.n ≤ 1125899906842624) (h4 : 0 ≤ q.of ∧ q.of ≤ 1125899906842624) :
  fd r q = some (rcmp r.n r.of q.n q.of):=by
 obtain ⟨n,a⟩:=r
 obtain ⟨m,b⟩:=q
 dsimp only at *
 obtain ⟨n,rfl⟩:=Int.eq_ofNat_of_zero_le h1.1
 obtain ⟨a,rfl⟩:=Int.eq_ofNat_of_zero_le h2.1
 obtain ⟨m,rfl⟩:=Int.eq_ofNat_of_zero_le h3.1
 obtain ⟨b,rfl⟩:=Int.eq_ofNat_of_zero_le h4.1
 unfold fd rcmp
 dsimp only
 rw [tq n b (by omega) (by omega),tq m a (by omega) (by omega)]
 by_cases ha : a = 0
 ·subst ha
  by_cases hb : b = 0
  ·subst hb; rfl
  ·have e : (((b : Nat) : Int) == 0) = false:=by rw [beq_eq_false_iff_ne]; omega
   rw [if_pos (show (((0 : Nat) : Int)) = 0 from rfl),if_neg (show ¬ ((b : Nat) : Int) = 0 by omega)]
   simp [e]
 ·have ea : (((a : Nat) : Int) == 0) = false:=by rw [beq_eq_false_iff_ne]; omega
  rw [if_neg (show ¬ ((a : Nat) : Int) = 0 by omega)]
  by_cases hb : b = 0
  ·subst hb
   rw [if_pos (show (((0 : Nat) : Int)) = 0 from rfl)]
   simp [ea]
  ·have eb : (((b : Nat) : Int) == 0) = false:=by rw [beq_eq_false_iff_ne]; omega
   rw [if_neg (show ¬ ((b : Nat) : Int) = 0 by omega)]
   simp only [ea,eb,cond_false,Gp]
   rw [← Int.natCast_mul,← Int.natCast_mul]
   generalize n * b = X
   generalize m * a = Y
   rcases Nat.lt_trichotomy X Y with h | h | h
   ·rw [if_pos (by omega)]
    by_cases hh : X / 18446744073709551616 < Y / 18446744073709551616
    ·have : decide (((X / 18446744073709551616 : Nat) : Int) < ((Y / 18446744073709551616 : Nat) : Int)) = true:=by rw [decide_eq_true_eq]; omega
     simp only [this,cond_true,Gp]
    ·have e1 : decide (((X / 18446744073709551616 : Nat) : Int) < ((Y / 18446744073709551616 : Nat) : Int)) = false:=by rw [decide_eq_false_iff_not]; omega
     have e2 : (((X / 18446744073709551616 : Nat) : Int) == ((Y / 18446744073709551616 : Nat) : Int)) = true:=by rw [beq_iff_eq]; omega
     have e3 : decide (((X % 18446744073709551616 : Nat) : Int) < ((Y % 18446744073709551616 : Nat) : Int)) = true:=by rw [decide_eq_true_eq]; omega
     simp only [e1,e2,e3,cond_true,cond_false,Gp]
   ·subst h
    rw [if_neg (by omega),if_pos rfl]
    have e1 : ∀ x : Int,decide (x < x) = false:=fun x => by rw [decide_eq_false_iff_not]; omega
    simp only [e1,beq_self_eq_true,cond_true,cond_false,Gp]
   ·rw [if_neg (by omega),if_neg (by omega)]
    by_cases hh : Y / 18446744073709551616 < X / 18446744073709551616
    ·have e1 : decide (((X / 18446744073709551616 : Nat) : Int) < ((Y / 18446744073709551616 : Nat) : Int)) = false:=by rw [decide_eq_false_iff_not]; omega
     have e2 : (((X / 18446744073709551616 : Nat) : Int) == ((Y / 18446744073709551616 : Nat) : Int)) = false:=by rw [beq_eq_false_iff_ne]; omega
     simp only [e1,e2,cond_true,cond_false,Gp]
    ·have e1 : decide (((X / 18446744073709551616 : Nat) : Int) < ((Y / 18446744073709551616 : Nat) : Int)) = false:=by rw [decide_eq_false_iff_not]; omega
     have e2 : (((X / 18446744073709551616 : Nat) : Int) == ((Y / 18446744073709551616 : Nat) : Int)) = true:=by rw [beq_iff_eq]; omega
     have e3 : decide (((X % 18446744073709551616 : Nat) : Int) < ((Y % 18446744073709551616 : Nat) : Int)) = false:=by rw [decide_eq_false_iff_not]; omega
     have e4 : (((X % 18446744073709551616 : Nat) : Int) == ((Y % 18446744073709551616 : Nat) : Int)) = false:=by rw [beq_eq_false_iff_ne]; omega
     simp only [e1,e2,e3,e4,cond_true,cond_false,Gp]
theorem shr25 (x : Int) : shrK .i64 x 25 = x / 33554432:=by
 show x.fdiv (2 ^ min (25 : Int).toNat IntKind.i64.bits) = _
 rw [show (2 ^ min (25 : Int).toNat IntKind.i64.bits : Int) = 33554432 from by decide,Int.fdiv_eq_ediv_of_nonneg _ (by decide)]
theorem shr50 (x : Int) : shrK .i64 x 50 = x / 1125899906842624:=by
 show x.fdiv (2 ^ min (50 : Int).toNat IntKind.i64.bits) = _
 rw [show (2 ^ min (50 : Int).toNat IntKind.i64.bits : Int) = 1125899906842624 from by decide,Int.fdiv_eq_ediv_of_nonneg _ (by decide)]
theorem shl25 (x : Int) : shlK .i64 x 25 = w64 (x * 33554432):=by
 show IntKind.i64.wrap (x * 2 ^ min (25 : Int).toNat IntKind.i64.bits) = _
 rw [show (2 ^ min (25 : Int).toNat IntKind.i64.bits : Int) = 33554432 from by decide]
theorem andI (a b : Nat) (ha : a < 9223372036854775808) (hb : b < 9223372036854775808) : andK .i64 (a : Int) (b : Int) = ((a &&& b : Nat) : Int):=by
 show IntKind.i64.wrap ((BitVec.ofInt 64 (a : Int) &&& BitVec.ofInt 64 (b : Int)).toNat) = _
 have e : ((BitVec.ofInt 64 (a : Int) &&& BitVec.ofInt 64 (b : Int)).toNat) = a &&& b:=by
  rw [BitVec.toNat_and,BitVec.toNat_ofInt,BitVec.toNat_ofInt]
  congr 1 <;> omega
 rw [e]
 have : a &&& b ≤ a:=Nat.and_le_left
 exact aj (by omega) (by omega)
theorem and25 (a : Nat) (ha : a < 9223372036854775808) : andK .i64 (a : Int) 33554431 = ((a % 33554432 : Nat) : Int):=by
 have:=andI a 33554431 ha (by omega)
 rw [show ((33554431 : Nat) : Int) = 33554431 from rfl] at this
 rw [this,show (33554431 : Nat) = 2 ^ 25 - 1 from rfl,Nat.and_two_pow_sub_one_eq_mod]
theorem and50 (a : Nat) (ha : a < 9223372036854775808) : andK .i64 (a : Int) 1125899906842623 = ((a % 1125899906842624 : Nat) : Int):=by
 have:=andI a 1125899906842623 ha (by omega)
 rw [show ((1125899906842623 : Nat) : Int) = 1125899906842623 from rfl] at this
 rw [this,show (1125899906842623 : Nat) = 2 ^ 50 - 1 from rfl,Nat.and_two_pow_sub_one_eq_mod]
theorem zo (a b : Nat) (ha : a ≤ 1125899906842624) (hb : b ≤ 1125899906842624) : gw (a : Int) (b : Int) = some (((a * b / 1125899906842624 : Nat) : Int),((a * b % 1125899906842624 : Nat) : Int)):=by
 have le : ∀ {x y X Y : Nat},x ≤ X → y ≤ Y → x * y ≤ X * Y:=fun h k => Nat.mul_le_mul h k
 have p1:=le (show a / 33554432 ≤ 33554432 by omega) (show b / 33554432 ≤ 33554432 by omega)
 have p2:=le (show a / 33554432 ≤ 33554432 by omega) (show b % 33554432 ≤ 33554432 by omega)
 have p3:=le (show a % 33554432 ≤ 33554432 by omega) (show b / 33554432 ≤ 33554432 by omega)
 have p4:=le (show a % 33554432 ≤ 33554432 by omega) (show b % 33554432 ≤ 33554432 by omega)
 have hab : a * b = a / 33554432 * (b / 33554432) * 1125899906842624 + (a / 33554432 * (b % 33554432) + a % 33554432 * (b / 33554432)) * 33554432 + a % 33554432 * (b % 33554432):=by
  have e1 : a = a / 33554432 * 33554432 + a % 33554432:=by omega
  have e2 : b = b / 33554432 * 33554432 + b % 33554432:=by omega
  have:=Lib.split_mul (a / 33554432) (a % 33554432) (b / 33554432) (b % 33554432) 33554432
  rw [← e1,← e2] at this
  rw [this]
 have w : ∀ x : Nat,x ≤ 9223372036854775807 → w64 (x : Int) = (x : Int):=fun x hx => aj (by omega) (by omega)
 have d : ∀ x : Nat,(x : Int) / 33554432 = ((x / 33554432 : Nat) : Int):=fun x => by omega
 have d5 : ∀ x : Nat,(x : Int) / 1125899906842624 = ((x / 1125899906842624 : Nat) : Int):=fun x => by omega
 have m : ∀ x y : Nat,(x : Int) * (y : Int) = ((x * y : Nat) : Int):=fun x y => (Int.natCast_mul x y).symm
 have m5 : ∀ x : Nat,(x : Int) * 33554432 = ((x * 33554432 : Nat) : Int):=fun x => by omega
 have p : ∀ x y : Nat,(x : Int) + (y : Int) = ((x + y : Nat) : Int):=fun x y => (Int.natCast_add x y).symm
 unfold gw
 simp only [shr25,shr50,shl25,d]
 rw [and25 a (by omega),and25 b (by omega)]
 simp only [m]
 rw [hab]
 generalize a / 33554432 * (b / 33554432) = X1 at *
 generalize a / 33554432 * (b % 33554432) = X2 at *
 generalize a % 33554432 * (b / 33554432) = X3 at *
 generalize a % 33554432 * (b % 33554432) = X4 at *
 rw [w X1 (by omega),w X2 (by omega),w X3 (by omega),w X4 (by omega)]
 simp only [p]
 rw [w (X2 + X3) (by omega),and25 (X2 + X3) (by omega)]
 simp only [d,m5]
 rw [w ((X2 + X3) % 33554432 * 33554432) (by omega)]
 simp only [p]
 rw [w (X1 + (X2 + X3) / 33554432) (by omega),w (X4 + (X2 + X3) % 33554432 * 33554432) (by omega),and50 _ (by omega)]
 simp only [d5,p]
 rw [w _ (by omega)]
 congr 2
 ·congr 1; omega
 ·congr 1; omega
def nm (n a : Int) : Int:=if n = 0 then 1 else a
theorem Cw (X Y : Nat) : (((bif decide (((X / 1125899906842624 : Nat) : Int) < ((Y / 1125899906842624 : Nat) : Int)) then some true else
  bif ((X / 1125899906842624 : Nat) : Int) == ((Y / 1125899906842624 : Nat) : Int) then some (decide (((X % 1125899906842624 : Nat) : Int) < ((Y % 1125899906842624 : Nat) : Int))) else some false) : Option Bool) = some (decide (X < Y))) ∧
  (((bif ((X / 1125899906842624 : Nat) : Int) == ((Y / 1125899906842624 : Nat) : Int) then some (((X % 1125899906842624 : Nat) : Int) == ((Y % 1125899906842624 : Nat) : Int)) else some false) : Option Bool) = some (decide (X = Y))):=by
 have t1 : ((((X / 1125899906842624 : Nat) : Int) == ((Y / 1125899906842624 : Nat) : Int))) = decide (X / 1125899906842624 = Y / 1125899906842624):=by
  rw [Bool.eq_iff_iff,beq_iff_eq,decide_eq_true_eq]; omega
 have t2 : ((((X % 1125899906842624 : Nat) : Int) == ((Y % 1125899906842624 : Nat) : Int))) = decide (X % 1125899906842624 = Y % 1125899906842624):=by
  rw [Bool.eq_iff_iff,beq_iff_eq,decide_eq_true_eq]; omega
 rw [t1,t2]
 constructor
 ·by_cases h : X / 1125899906842624 < Y / 1125899906842624
  ·rw [decide_eq_true (by omega : ((X / 1125899906842624 : Nat) : Int) < ((Y / 1125899906842624 : Nat) : Int)),decide_eq_true (by omega : X < Y)]; rfl
  ·rw [decide_eq_false (by omega : ¬ ((X / 1125899906842624 : Nat) : Int) < ((Y / 1125899906842624 : Nat) : Int))]
   by_cases k : X / 1125899906842624 = Y / 1125899906842624
   ·rw [decide_eq_true k]
    simp only [cond_true,cond_false,Option.some.injEq,decide_eq_decide]
    omega
   ·rw [decide_eq_false k,decide_eq_false (by omega : ¬ X < Y)]; rfl
 ·by_cases k : X / 1125899906842624 = Y / 1125899906842624
  ·rw [decide_eq_true k]
   simp only [cond_true,Option.some.injEq,decide_eq_decide]
   omega
  ·rw [decide_eq_false k,decide_eq_false (by omega : ¬ X = Y)]; rfl
theorem Ap (x a y b : Nat) (hx : x ≤ 1125899906842624) (ha : a ≤ 1125899906842624) (hy : y ≤ 1125899906842624) (hb : b ≤ 1125899906842624) :
  bn ⟨(x : Int),(a : Int)⟩ ⟨(y : Int),(b : Int)⟩ = some (rcmp x (nm x a) y (nm y b)):=by
 unfold bn
 have n1 : ((bif ((x : Int) == 0) then some (⟨(x : Int),1⟩ : Frac) else some ⟨(x : Int),(a : Int)⟩) : Option Frac) = some ⟨(x : Int),nm x a⟩:=by
  unfold nm
  by_cases h : (x : Int) = 0
  ·rw [if_pos h,(beq_iff_eq.2 h : ((x : Int) == 0) = true)]; rfl
  ·rw [if_neg h,(beq_eq_false_iff_ne.2 h : ((x : Int) == 0) = false)]; rfl
 have n2 : ((bif ((y : Int) == 0) then some (⟨(y : Int),1⟩ : Frac) else some ⟨(y : Int),(b : Int)⟩) : Option Frac) = some ⟨(y : Int),nm y b⟩:=by
  unfold nm
  by_cases h : (y : Int) = 0
  ·rw [if_pos h,(beq_iff_eq.2 h : ((y : Int) == 0) = true)]; rfl
  ·rw [if_neg h,(beq_eq_false_iff_ne.2 h : ((y : Int) == 0) = false)]; rfl
 dsimp only
 rw [n1,n2]
 obtain ⟨a',ha',ea⟩ : ∃ k : Nat,k ≤ 1125899906842624 ∧ nm x a = (k : Int):=by
  unfold nm
  split
  ·exact ⟨1,by omega,rfl⟩
  ·exact ⟨a,ha,rfl⟩
 obtain ⟨b',hb',eb⟩ : ∃ k : Nat,k ≤ 1125899906842624 ∧ nm y b = (k : Int):=by
  unfold nm
  split
  ·exact ⟨1,by omega,rfl⟩
  ·exact ⟨b,hb,rfl⟩
 rw [ea,eb]
 dsimp only [Gp]
 unfold rcmp
 by_cases h0 : a' = 0
 ·subst h0
  by_cases k0 : b' = 0
  ·subst k0; rfl
  ·have e : (((b' : Nat) : Int) == 0) = false:=by rw [beq_eq_false_iff_ne]; omega
   rw [if_pos (show (((0 : Nat) : Int)) = 0 from rfl),if_neg (show ¬ ((b' : Nat) : Int) = 0 by omega)]
   simp [e]
 ·have e0 : (((a' : Nat) : Int) == 0) = false:=by rw [beq_eq_false_iff_ne]; omega
  rw [if_neg (show ¬ ((a' : Nat) : Int) = 0 by omega)]
  by_cases k0 : b' = 0
  ·subst k0
   rw [if_pos (show (((0 : Nat) : Int)) = 0 from rfl)]
   simp [e0]
  ·have e1 : (((b' : Nat) : Int) == 0) = false:=by rw [beq_eq_false_iff_ne]; omega
   rw [if_neg (show ¬ ((b' : Nat) : Int) = 0 by omega),zo x b' hx hb',zo y a' hy ha',← Int.natCast_mul,← Int.natCast_mul]
   simp only [e0,e1,cond_false,Gp]
   obtain ⟨w1,w2⟩:=Cw (x * b') (y * a')
   rw [w1,w2]
   generalize x * b' = X
   generalize y * a' = Y
   simp only [Gp]
   rcases Nat.lt_trichotomy X Y with h | h | h
   ·rw [decide_eq_true h,if_pos (by omega)]; rfl
   ·rw [decide_eq_false (by omega : ¬ X < Y),decide_eq_true h,if_neg (by omega),if_pos (by omega)]; rfl
   ·rw [decide_eq_false (by omega : ¬ X < Y),decide_eq_false (by omega : ¬ X = Y),if_neg (by omega),if_neg (by omega)]; rfl
theorem F3 (a p : Vec) (ha : Ok a) (hp : Ok p) : nr a p (fun a => mX a.1) = some ⟨a.Mem,nm a.Mem p.Mem⟩:=by
 unfold nr mX nm
 simp only [Gp]
 unfold Ok at ha hp
 by_cases h : a.Mem = 0
 ·rw [if_pos h,(beq_iff_eq.2 h : (a.Mem == 0) = true),h]; rfl
 ·rw [if_neg h,(beq_eq_false_iff_ne.2 h : (a.Mem == 0) = false),u64id (by omega) (by omega),u64id (by omega) (by omega)]; rfl
theorem CI (a p : Vec) (ha : Ok a) (hp : Ok p) : nr a p (fun a => lw a.1) = some ⟨a.Cores,nm a.Cores p.Cores⟩:=by
 unfold nr lw nm
 simp only [Gp]
 unfold Ok at ha hp
 by_cases h : a.Cores = 0
 ·rw [if_pos h,(beq_iff_eq.2 h : (a.Cores == 0) = true),h]; rfl
 ·rw [if_neg h,(beq_eq_false_iff_ne.2 h : (a.Cores == 0) = false),u64id (by omega) (by omega),u64id (by omega) (by omega)]; rfl
theorem wd {n a : Int} (h : 0 ≤ a ∧ a ≤ 1125899906842624) : 0 ≤ nm n a ∧ nm n a ≤ 1125899906842624:=by unfold nm; split <;> omega
def ld (a p : Vec) : Int × Int:=if rcmp a.Mem (nm a.Mem p.Mem) a.Cores (nm a.Cores p.Cores) < 0 then (a.Cores,nm a.Cores p.Cores) else (a.Mem,nm a.Mem p.Mem)
theorem tH {a p : Vec} (ha : Ok a) (hp : Ok p) : (0 ≤ (ld a p).1 ∧ (ld a p).1 ≤ 1125899906842624) ∧ (0 ≤ (ld a p).2 ∧ (ld a p).2 ≤ 1125899906842624):=by
 have h1:=wd (n:=a.Mem) (a:=p.Mem) ⟨hp.1,hp.2.1⟩
 have h2:=wd (n:=a.Cores) (a:=p.Cores) ⟨hp.2.2.1,hp.2.2.2⟩
 unfold ld
 unfold Ok at ha
 split
 ·exact ⟨⟨ha.2.2.1,ha.2.2.2⟩,h2⟩
 ·exact ⟨⟨ha.1,ha.2.1⟩,h1⟩
theorem zU {a p : Vec} (ha : Ok a) (hp : Ok p) : nT a p = some ⟨(ld a p).1,(ld a p).2⟩:=by
 unfold nT
 rw [F3 a p ha hp,CI a p ha hp]
 have h1:=wd (n:=a.Mem) (a:=p.Mem) ⟨hp.1,hp.2.1⟩
 have h2:=wd (n:=a.Cores) (a:=p.Cores) ⟨hp.2.2.1,hp.2.2.2⟩
 simp only [Gp]
 rw [uk _ _ ⟨ha.1,ha.2.1⟩ h1 ⟨ha.2.2.1,ha.2.2.2⟩ h2]
 unfold ld
 simp only [Gp]
 by_cases h : rcmp a.Mem (nm a.Mem p.Mem) a.Cores (nm a.Cores p.Cores) < 0
 ·rw [if_pos h,decide_eq_true h]; rfl
 ·rw [if_neg h,decide_eq_false h]; rfl
theorem wE (a p b q : Vec) : lu a p b q = some (if Ok a ∧ Ok p ∧ Ok b ∧ Ok q then rcmp (ld a p).1 (ld a p).2 (ld b q).1 (ld b q).2 else 0):=by
 unfold lu
 simp only [Er]
 by_cases h1 : Ok a <;> by_cases h2 : Ok p <;> by_cases h3 : Ok b <;> by_cases h4 : Ok q <;> simp only [h1,h2,h3,h4,decide_true,decide_false,Gp,Bool.not_true,Bool.not_false,cond_true,cond_false,and_self,and_true,and_false,false_and,if_true,if_false]
 rw [zU h1 h2,zU h3 h4]
 simp only [Gp]
 rw [uk _ _ (tH h1 h2).1 (tH h1 h2).2 (tH h3 h4).1 (tH h3 h4).2]
 rfl
theorem vo (x y : Frac) (h1 : 0 ≤ x.A ∧ x.A ≤ 1125899906842624) (h2 : 0 ≤ x.P ∧ x.P ≤ 1125899906842624) (h3 : 0 ≤ y.A ∧ y.A ≤ 1125899906842624) (h4 : 0 ≤ y.P ∧ y.P ≤ 1125899906842624) :
  bn x y = some (rcmp x.A (nm x.A x.P) y.A (nm y.A y.P)):=by
 obtain ⟨n,a⟩:=x
 obtain ⟨m,b⟩:=y
 dsimp only at *
 obtain ⟨n,rfl⟩:=Int.eq_ofNat_of_zero_le h1.1
 obtain ⟨a,rfl⟩:=Int.eq_ofNat_of_zero_le h2.1
 obtain ⟨m,rfl⟩:=Int.eq_ofNat_of_zero_le h3.1
 obtain ⟨b,rfl⟩:=Int.eq_ofNat_of_zero_le h4.1
 exact Ap n a m b (by omega) (by omega) (by omega) (by omega)
theorem vW (a p b q : Vec) : br a p b q = lu a p b q:=by
 rw [wE]
 have key : ∀ {a p : Vec},Ok a → Ok p → ∃ f : Frac,b7 a p = some f ∧ (0 ≤ f.A ∧ f.A ≤ 1125899906842624) ∧ (0 ≤ f.P ∧ f.P ≤ 1125899906842624) ∧ (ld a p).1 = f.A ∧ (ld a p).2 = nm f.A f.P:=by
  intro a p ha hp
  unfold b7 ld
  rw [vo _ _ ⟨ha.1,ha.2.1⟩ ⟨hp.1,hp.2.1⟩ ⟨ha.2.2.1,ha.2.2.2⟩ ⟨hp.2.2.1,hp.2.2.2⟩]
  simp only [Gp]
  by_cases h : rcmp a.Mem (nm a.Mem p.Mem) a.Cores (nm a.Cores p.Cores) < 0
  ·rw [if_pos h,decide_eq_true h]
   exact ⟨_,rfl,⟨ha.2.2.1,ha.2.2.2⟩,⟨hp.2.2.1,hp.2.2.2⟩,rfl,rfl⟩
  ·rw [if_neg h,decide_eq_false h]
   exact ⟨_,rfl,⟨ha.1,ha.2.1⟩,⟨hp.1,hp.2.1⟩,rfl,rfl⟩
 unfold br
 simp only [FW]
 by_cases h1 : Ok a <;> by_cases h2 : Ok p <;> by_cases h3 : Ok b <;> by_cases h4 : Ok q <;> simp only [h1,h2,h3,h4,decide_true,decide_false,Gp,Bool.not_true,Bool.not_false,cond_true,cond_false,and_self,and_true,and_false,false_and,if_true,if_false]
 obtain ⟨f,e1,f1,f2,f3,f4⟩:=key h1 h2
 obtain ⟨k,e2,k1,k2,k3,k4⟩:=key h3 h4
 rw [e1,e2]
 simp only [Gp]
 rw [vo f k f1 f2 k1 k2,f3,f4,k3,k4]
 rfl
theorem uG {n a m b : Int} (h1 : 0 ≤ a) (h2 : 0 ≤ b) : rcmp n a m b < 0 ↔ (b = 0 ∧ a ≠ 0) ∨ (a ≠ 0 ∧ b ≠ 0 ∧ n * b < m * a):=by
 unfold rcmp
 repeat' split
 all_goals omega
theorem xo {n a m b : Int} (h1 : 0 ≤ a) (h2 : 0 ≤ b) : rcmp n a m b ≤ 0 ↔ b = 0 ∨ (a ≠ 0 ∧ b ≠ 0 ∧ n * b ≤ m * a):=by
 unfold rcmp
 repeat' split
 all_goals omega
theorem Cs {n a m b k c : Int} (ha : 0 < a) (hb : 0 < b) (hc : 0 < c) (h1 : n * b ≤ m * a) (h2 : m * c ≤ k * b) : n * c ≤ k * a ∧ (n * b < m * a ∨ m * c < k * b → n * c < k * a) ∧ (n * b = m * a → m * c = k * b → n * c = k * a):=by
 have e1 : n * c * b = n * b * c:=by rw [Int.mul_assoc,Int.mul_comm c b,← Int.mul_assoc]
 have e2 : m * a * c = m * c * a:=by rw [Int.mul_assoc,Int.mul_comm a c,← Int.mul_assoc]
 have e3 : k * b * a = k * a * b:=by rw [Int.mul_assoc,Int.mul_comm b a,← Int.mul_assoc]
 have l1 : n * b * c ≤ m * a * c:=Int.mul_le_mul_of_nonneg_right h1 (by omega)
 have l2 : m * c * a ≤ k * b * a:=Int.mul_le_mul_of_nonneg_right h2 (by omega)
 refine ⟨?_,?_,?_⟩
 ·apply Int.le_of_mul_le_mul_right _ hb
  omega
 ·rintro (h | h)
  ·have l3 : n * b * c < m * a * c:=Int.mul_lt_mul_of_pos_right h hc
   apply Int.lt_of_mul_lt_mul_right _ (Int.le_of_lt hb)
   omega
  ·have l3 : m * c * a < k * b * a:=Int.mul_lt_mul_of_pos_right h ha
   apply Int.lt_of_mul_lt_mul_right _ (Int.le_of_lt hb)
   omega
 ·intro h h'
  have : n * c * b = k * a * b:=by rw [e1,h,e2,h',e3]
  exact Int.eq_of_mul_eq_mul_right (by omega) this
theorem BK {n a m b k c : Int} (h1 : 0 ≤ a) (h2 : 0 ≤ b) (h3 : 0 ≤ c) (x : rcmp n a m b ≤ 0) (y : rcmp m b k c ≤ 0) : rcmp n a k c ≤ 0 ∧ (rcmp n a k c < 0 ↔ rcmp n a m b < 0 ∨ rcmp m b k c < 0):=by
 rw [xo h1 h2] at x
 rw [xo h2 h3] at y
 rw [xo h1 h3,uG h1 h3,uG h1 h2,uG h2 h3]
 by_cases hc : c = 0
 ·subst hc
  refine ⟨.inl rfl,?_⟩
  constructor
  ·rintro (⟨_,h⟩ | ⟨_,h,_⟩)
   ·by_cases hb : b = 0
    ·exact .inl (.inl ⟨hb,h⟩)
    ·exact .inr (.inl ⟨rfl,hb⟩)
   ·exact absurd rfl h
  ·rintro ((⟨_,h⟩ | ⟨h,_,_⟩) | (⟨_,h⟩ | ⟨_,h,_⟩))
   ·exact .inl ⟨rfl,h⟩
   ·exact .inl ⟨rfl,h⟩
   ·rcases x with x | ⟨x,_⟩
    ·exact absurd x h
    ·exact .inl ⟨rfl,x⟩
   ·exact absurd rfl h
 ·rcases y with y | ⟨y1,_,y2⟩
  ·exact absurd y hc
  ·rcases x with x | ⟨x1,_,x2⟩
   ·exact absurd x y1
   ·obtain ⟨k1,k2,k3⟩:=Cs (by omega : 0 < a) (by omega : 0 < b) (by omega : 0 < c) x2 y2
    refine ⟨.inr ⟨x1,hc,k1⟩,?_⟩
    constructor
    ·rintro (⟨h,_⟩ | ⟨_,_,h⟩)
     ·exact absurd h hc
     ·by_cases e1 : n * b < m * a
      ·exact .inl (.inr ⟨x1,y1,e1⟩)
      ·by_cases e2 : m * c < k * b
       ·exact .inr (.inr ⟨y1,hc,e2⟩)
       ·have:=k3 (by omega) (by omega)
        omega
    ·rintro ((⟨h,_⟩ | ⟨_,_,h⟩) | (⟨h,_⟩ | ⟨_,_,h⟩))
     ·exact absurd h y1
     ·exact .inr ⟨x1,hc,k2 (.inl h)⟩
     ·exact absurd h hc
     ·exact .inr ⟨x1,hc,k2 (.inr h)⟩
structure SO {α : Type} (lt : α → α → Bool) (l : List α) : Prop where
 irr : ∀ x ∈ l,lt x x = false
 tr : ∀ x ∈ l,∀ y ∈ l,∀ z ∈ l,lt x y = true → lt y z = true → lt x z = true
 tot : ∀ x ∈ l,∀ y ∈ l,x ≠ y → lt x y = true ∨ lt y x = true
theorem SO.sub {α : Type} {lt : α → α → Bool} {l m : List α} (h : SO lt l) (hm : ∀ x ∈ m,x ∈ l) : SO lt m :=
 ⟨fun x hx => h.irr x (hm x hx),fun x hx y hy z hz => h.tr x (hm x hx) y (hm y hy) z (hm z hz),fun x hx y hy => h.tot x (hm x hx) y (hm y hy)⟩
theorem SO.asm {α : Type} {lt : α → α → Bool} {l : List α} (h : SO lt l) {x y : α} (hx : x ∈ l) (hy : y ∈ l) (hl : lt x y = true) : lt y x = false:=by
 cases e : lt y x with
 | false => rfl
 | true =>
  have h1:=h.tr x hx y hy x hx hl e
  rw [h.irr x hx] at h1
  exact h1.symm
theorem SO.uniq {α : Type} {lt : α → α → Bool} {l l1 l2 : List α} (h : SO lt l) (p1 : l1.Perm l) (p2 : l2.Perm l) (s1 : l1.Pairwise fun a b => lt a b = true) (s2 : l2.Pairwise fun a b => lt a b = true) : l1 = l2 :=
 List.Perm.eq_of_pairwise (fun a b ha hb h1 h2 => by
  have:=h.asm (p1.mem_iff.1 ha) (p2.mem_iff.1 hb) h1
  rw [this] at h2
  cases h2) s1 s2 (p1.trans p2.symm)
theorem SO.isort_pw {α : Type} {lt : α → α → Bool} : ∀ {l : List α},SO lt l → l.Nodup → (isort lt l).Pairwise fun a b => lt a b = true
 | [],_,_ => .nil
 | x :: l,h,hn => by
  have hn':=List.nodup_cons.1 hn
  have ih:=SO.isort_pw (h.sub fun y hy => List.mem_cons_of_mem x hy) hn'.2
  have hp : (isort lt l).Perm l:=jY
  unfold isort
  have gen : ∀ m : List α,(∀ y ∈ m,y ∈ l) → m.Pairwise (fun a b => lt a b = true) → (Fx.insG lt x m).Pairwise fun a b => lt a b = true:=by
   intro m
   induction m with
   | nil => intro _ _; exact List.pairwise_singleton _ _
   | cons y m ihm =>
    intro hm hs
    have hs':=List.pairwise_cons.1 hs
    have hy : y ∈ l:=hm y (by simp)
    unfold Fx.insG
    split
    ·rename_i hyx
     refine List.pairwise_cons.2 ⟨fun z hz => ?_,ihm (fun z hz => hm z (by simp [hz])) hs'.2⟩
     rcases Fx.mem_insG.1 hz with rfl | hz
     ·exact hyx
     ·exact hs'.1 z hz
    ·rename_i hyx
     have hxy : lt x y = true:=by
      rcases h.tot x (by simp) y (by simp [hy]) (fun e => hn'.1 (e ▸ hy)) with h1 | h1
      ·exact h1
      ·exact absurd h1 hyx
     refine List.pairwise_cons.2 ⟨fun z hz => ?_,hs⟩
     rcases List.mem_cons.1 hz with rfl | hz'
     ·exact hxy
     ·exact h.tr x (by simp) y (by simp [hy]) z (by simp [hm z hz]) hxy (hs'.1 z hz')
  exact gen _ (fun y hy => hp.mem_iff.1 hy) ih
theorem SO.insB_pw {α : Type} {lt : α → α → Bool} {l : List α} (h : SO lt l) (hn : l.Nodup) : (l.foldl (insB lt) []).Pairwise fun a b => lt a b = true:=by
 have gen : ∀ (m out : List α),(∀ y ∈ m,y ∈ l) → (∀ y ∈ out,y ∈ l) → m.Nodup → (∀ y ∈ m,y ∉ out) → out.Pairwise (fun a b => lt a b = true) → (m.foldl (insB lt) out).Pairwise fun a b => lt a b = true:=by
  intro m
  induction m with
  | nil => intro out _ _ _ _ h; exact h
  | cons x m ih =>
   intro out hm ho hnd hd hs
   have hnd':=List.nodup_cons.1 hnd
   have hx : x ∈ l:=hm x (by simp)
   rw [List.foldl_cons]
   refine ih _ (fun y hy => hm y (by simp [hy])) (fun y hy => ?_) hnd'.2 (fun y hy hy2 => ?_) ?_
   ·rcases qv.1 hy with rfl | hy
    ·exact hx
    ·exact ho y hy
   ·rcases qv.1 hy2 with rfl | hy2
    ·exact hnd'.1 hy
    ·exact hd y (by simp [hy]) hy2
   ·have hxo : x ∉ out:=hd x (by simp)
    unfold insB
    have hcat:=List.takeWhile_append_dropWhile (p:=fun y => !lt x y) (l:=out)
    have hs2 : (out.takeWhile (fun y => !lt x y) ++ out.dropWhile fun y => !lt x y).Pairwise fun a b => lt a b = true:=by rw [hcat]; exact hs
    have hs3:=List.pairwise_append.1 hs2
    have hdw : ∀ y ∈ out.dropWhile (fun y => !lt x y),lt x y = true:=by
     intro y hy
     cases e : out.dropWhile (fun y => !lt x y) with
     | nil => rw [e] at hy; cases hy
     | cons z r =>
      have hz : lt x z = true:=by
       have:=List.head?_dropWhile_not (fun y => !lt x y) out
       rw [e] at this
       simpa using this
      have hzo : z ∈ out:=List.dropWhile_subset _ (by rw [e]; simp)
      rw [e] at hy
      rcases List.mem_cons.1 hy with rfl | hy'
      ·exact hz
      ·have:=hs3.2.1
       rw [e] at this
       exact h.tr x hx z (ho z hzo) y (ho y (List.dropWhile_subset _ (by rw [e]; exact hy))) hz ((List.pairwise_cons.1 this).1 y hy')
    have htw : ∀ y ∈ out.takeWhile (fun y => !lt x y),lt y x = true:=by
     intro y hy
     have h1 : lt x y = false:=by simpa using yf hy
     have hyo : y ∈ out:=(List.takeWhile_sublist _).subset hy
     rcases h.tot x hx y (ho y hyo) (fun e => hxo (e ▸ hyo)) with h2 | h2
     ·rw [h1] at h2; cases h2
     ·exact h2
    refine List.pairwise_append.2 ⟨hs3.1,List.pairwise_cons.2 ⟨hdw,hs3.2.1⟩,fun a ha b hb => ?_⟩
    rcases List.mem_cons.1 hb with rfl | hb
    ·exact htw a ha
    ·exact hs3.2.2 a ha b hb
 exact gen l [] (fun _ h => h) (by simp) hn (by simp) .nil
theorem SO.isort_eq {α : Type} {lt : α → α → Bool} {l : List α} (h : SO lt l) (hn : l.Nodup) : isort lt l = l.foldl (insB lt) [] :=
 h.uniq jY (nh lt l) (h.isort_pw hn) (h.insB_pw hn)
theorem pI {α : Type} {lt lt' : α → α → Bool} {l : List α} (h : ∀ x ∈ l,∀ y ∈ l,lt x y = lt' x y) : isort lt l = isort lt' l:=by
 have gi : ∀ (x : α) (m : List α),(∀ y ∈ m,lt y x = lt' y x) → Fx.insG lt x m = Fx.insG lt' x m:=by
  intro x m
  induction m with
  | nil => intro _; rfl
  | cons y m ih =>
   intro hm
   unfold Fx.insG
   rw [hm y (by simp),ih fun z hz => hm z (by simp [hz])]
 induction l with
 | nil => rfl
 | cons x l ih =>
  unfold isort
  rw [ih fun a ha b hb => h a (by simp [ha]) b (by simp [hb])]
  exact gi x _ fun y hy => h y (by simp [(jY (lt:=lt') (l:=l)).mem_iff.1 hy]) x (by simp)
theorem DR {α : Type} {φ : α → α → Option Int} {lt : α → α → Bool} {l : List α} (hφ : ∀ x ∈ l,∀ y ∈ l,∃ c,φ x y = some c ∧ decide (c < 0) = lt x y) (h : SO lt l) (hn : l.Nodup) (hl : l.length < 1000000000) :
  sortA φ l = some (l.foldl (insB lt) []):=by
 have hlt : ∀ x ∈ l,∀ y ∈ l,ltG φ x y = lt x y:=by
  intro x hx y hy
  obtain ⟨c,e,h2⟩:=hφ x hx y hy
  unfold ltG
  rw [e]
  exact h2
 cases l with
 | nil => rfl
 | cons x l =>
  show (if okG (cG φ (x :: l) x) (l.length + 1) && decide (l.length < 1000000000) then some (isort (ltG φ) (x :: l)) else none) = _
  have hl' : l.length + 1 < 1000000000:=hl
  rw [pI hlt,h.isort_eq hn]
  generalize hL : x :: l = L at *
  have hlen : l.length + 1 = L.length:=by rw [← hL]; rfl
  rw [hlen]
  have gd : ∀ i (hi : i < L.length),getG L x i = L[i]:=fun i hi => by
   unfold getG
   rw [List.getD_eq_getElem?_getD,Gq hi]
   rfl
  have key : okG (cG φ L x) L.length = true:=by
   unfold okG
   simp only [List.all_eq_true,List.mem_range]
   intro i hi j hj
   unfold cG
   rw [gd i hi,gd j hj]
   have mi:=List.getElem_mem hi
   have mj:=List.getElem_mem hj
   obtain ⟨a,ea,ha⟩:=hφ _ mi _ mj
   obtain ⟨b,eb,hb⟩:=hφ _ mj _ mi
   rw [ea,eb]
   dsimp only
   rw [Bool.and_eq_true]
   constructor
   ·split
    ·rename_i e
     subst e
     rw [ha,h.irr _ mi]
     rfl
    ·rename_i e
     rw [ha,hb]
     have hne : L[i] ≠ L[j]:=fun e2 => e ((List.getElem_inj hn).1 e2)
     rcases h.tot _ mi _ mj hne with h1 | h1
     ·rw [h1,h.asm mi mj h1]; rfl
     ·rw [h1,h.asm mj mi h1]; rfl
   ·rw [List.all_eq_true]
    intro k hk
    have hk:=List.mem_range.1 hk
    rw [gd k hk]
    have mk:=List.getElem_mem hk
    obtain ⟨c,ec,hc⟩:=hφ _ mj _ mk
    obtain ⟨d,ed,hd⟩:=hφ _ mi _ mk
    rw [ec,ed]
    dsimp only
    rw [ha,hc,hd]
    cases h1 : lt L[i] L[j] with
    | false => rfl
    | true =>
     cases h2 : lt L[j] L[k] with
     | false => rfl
     | true => rw [h.tr _ mi _ mj _ mk h1 h2]; rfl
  rw [key,decide_eq_true (by omega : l.length < 1000000000)]
  rfl
theorem yl (a p b q : Vec) : pOrder a p b q = if Ok a ∧ Ok p ∧ Ok b ∧ Ok q then rcmp (ld a p).1 (ld a p).2 (ld b q).1 (ld b q).2 else 0:=by
 unfold pOrder
 rw [vW,wE]
 rfl
theorem VB.ok {n : Int} {v : Vec} (h : VB n v) (hn : n ≤ 1125899906842624) : Ok v:=by
 unfold VB at h; unfold Ok; omega
def pc (a p : Vec) (x : Str) (b q : Vec) (y : Str) : Bool:=decide (pOrder a p b q < 0) || (pOrder a p b q == 0 && Op.bytesLess x y)
theorem Cy {n a m b : Int} (h1 : 0 ≤ a) (h2 : 0 ≤ b) : rcmp n a m b < 0 ∨ rcmp m b n a < 0 ∨ (rcmp n a m b = 0 ∧ rcmp m b n a = 0):=by
 unfold rcmp
 repeat' split
 all_goals omega
theorem B7 (n a : Int) : rcmp n a n a = 0:=by
 unfold rcmp
 repeat' split
 all_goals omega
theorem A0 {α : Type} (f : α → Vec) (g : α → Vec) (nm : α → Str) {l : List α} (hn : ∀ x ∈ l,∀ y ∈ l,nm x = nm y → x = y) (hf : ∀ x ∈ l,Ok (f x)) (hg : ∀ x ∈ l,Ok (g x)) : SO (fun x y => pc (f x) (g x) (nm x) (f y) (g y) (nm y)) l:=by
 have ho : ∀ x ∈ l,∀ y ∈ l,pOrder (f x) (g x) (f y) (g y) = rcmp (ld (f x) (g x)).1 (ld (f x) (g x)).2 (ld (f y) (g y)).1 (ld (f y) (g y)).2:=fun x hx y hy => by
  rw [yl,if_pos ⟨hf x hx,hg x hx,hf y hy,hg y hy⟩]
 have hb : ∀ x ∈ l,0 ≤ (ld (f x) (g x)).2:=fun x hx => (tH (hf x hx) (hg x hx)).2.1
 refine ⟨fun x hx => ?_,fun x hx y hy z hz h1 h2 => ?_,fun x hx y hy hne => ?_⟩
 ·unfold pc
  rw [ho x hx x hx,B7,qV]
  rfl
 ·unfold pc at h1 h2 ⊢
  rw [ho x hx y hy] at h1
  rw [ho y hy z hz] at h2
  rw [ho x hx z hz]
  simp only [Bool.or_eq_true,Bool.and_eq_true,decide_eq_true_eq,beq_iff_eq] at h1 h2 ⊢
  have c1 : rcmp (ld (f x) (g x)).1 (ld (f x) (g x)).2 (ld (f y) (g y)).1 (ld (f y) (g y)).2 ≤ 0:=by rcases h1 with h | ⟨h,_⟩ <;> omega
  have c2 : rcmp (ld (f y) (g y)).1 (ld (f y) (g y)).2 (ld (f z) (g z)).1 (ld (f z) (g z)).2 ≤ 0:=by rcases h2 with h | ⟨h,_⟩ <;> omega
  obtain ⟨k1,k2⟩:=BK (hb x hx) (hb y hy) (hb z hz) c1 c2
  rcases h1 with h1 | ⟨h1,b1⟩
  ·exact .inl (k2.2 (.inl h1))
  ·rcases h2 with h2 | ⟨h2,b2⟩
   ·exact .inl (k2.2 (.inr h2))
   ·by_cases h3 : rcmp (ld (f x) (g x)).1 (ld (f x) (g x)).2 (ld (f z) (g z)).1 (ld (f z) (g z)).2 < 0
    ·exact .inl h3
    ·exact .inr ⟨by omega,tA b1 b2⟩
 ·unfold pc
  rw [ho x hx y hy,ho y hy x hx]
  simp only [Bool.or_eq_true,Bool.and_eq_true,decide_eq_true_eq,beq_iff_eq]
  rcases Cy (n:=(ld (f x) (g x)).1) (m:=(ld (f y) (g y)).1) (hb x hx) (hb y hy) with h | h | ⟨h1,h2⟩
  ·exact .inl (.inl h)
  ·exact .inr (.inl h)
  ·cases e : Op.bytesLess (nm x) (nm y) with
   | true => exact .inl (.inr ⟨h1,rfl⟩)
   | false => exact .inr (.inr ⟨h2,xx e fun e2 => hne (hn x hx y hy e2)⟩)
theorem B6 {p : Str} (h : PathOk p) : jZ p = some (aR p,!(aR p == [])):=by
 have hp : p.length < 1000000000:=by have:=h.len; omega
 have e : dC p [46] = aL p 46:=by
  unfold dC
  rw [show ((([46] : List UInt8).length : Int) == 0) = false from rfl,show ((([46] : List UInt8).length : Int) == 1) = true from rfl]
  simp only [cond_true,cond_false]
  rw [show idx ([46] : List UInt8) 0 = some 46 from rfl,Gp]
  show (aL p 46).bind some = _
  cases aL p 46 <;> rfl
 have hhead : ∀ r,p ≠ 46 :: r:=by
  intro r er
  rcases h.root with h1 | h1
  ·rw [h1] at er; cases er
  ·obtain ⟨t,h1⟩:=h1
   rw [er] at h1; cases h1
 unfold jZ
 rw [e]
 unfold aL
 dsimp only
 rw [aj (by omega) (by omega),vC p hp p.length (Nat.le_refl _),List.take_length,lE]
 have hle:=(List.dropWhile_suffix (· != 46) (l:=p.reverse)).length_le
 rw [List.length_reverse] at hle
 have hone : (p.reverse.dropWhile (· != 46)).length ≠ 1:=by
  intro h1
  rcases xS p with ⟨h2,_⟩ | ⟨r,h2,h3⟩
  ·cases hd : p.reverse.dropWhile (· != 46) with
   | nil => rw [hd] at h1; cases h1
   | cons x d =>
    have:=List.head?_dropWhile_not (fun y : UInt8 => y != 46) p.reverse
    rw [hd] at this
    have hx : x = 46:=by simpa using this
    have hm : x ∈ p.reverse:=List.dropWhile_subset _ (by rw [hd]; simp)
    exact h2 (hx ▸ List.mem_reverse.1 hm)
  ·rw [lE,h1] at h3
   exact hhead r (by simpa using h3)
 generalize (p.reverse.dropWhile (· != 46)).length = n at hle hone ⊢
 by_cases h : n = 0
 ·subst h; rfl
 ·rw [if_neg h]
  simp only [Gp]
  rw [decide_eq_false (by omega)]
  unfold slc
  simp only [cond_false]
  rw [if_pos ⟨by omega,by omega,by omega⟩]
  simp only [Gp,Int.toNat_zero,List.drop_zero]
  have hne : (p.take (n - 1) == []) = false:=by
   rw [beq_eq_false_iff_ne]
   intro e0
   have:=congrArg List.length e0
   rw [List.length_take,List.length_nil] at this
   omega
  have e1 : ((n : Int) - 1).toNat = n - 1:=by omega
  rw [e1,hne]
  rfl
theorem Ei {c : Conf} (h : ConfOk c) (p : Str) : pw c p = some (pKids c p):=by
 have hq:=h.qs
 have e:=bb (fun (l : List Str) i => (l,i)) c.Queues (fun q => !(aR q.Path == []) && aR q.Path == p) (·.Path) (step:=mL c p) (by omega) ?_ ?_
 ·unfold pw
  rw [e,Gp]
  unfold pKids
  by_cases hp : p = []
  ·subst hp
   rw [if_pos rfl,List.filter_eq_nil_iff.2 (by simp)]
   rfl
  ·rw [if_neg hp]
   congr 2
   refine List.filter_congr fun q _ => ?_
   by_cases e1 : aR q.Path = p
   ·have : aR q.Path ≠ []:=by rw [e1]; exact hp
    rw [beq_eq_false_iff_ne.2 this]; simp
   ·rw [beq_eq_false_iff_ne.2 e1]; simp
 ·intro k hk l hl
  unfold mL
  rw [ah hk,cond_true]
  dsimp only
  rw [ai hk,Gp,B6 (kT h (List.getElem_mem hk)),Gp]
  dsimp only
  cases e1 : (aR c.Queues[k].Path == []) with
  | true => simp
  | false =>
   cases e2 : (aR c.Queues[k].Path == p) with
   | false => simp
   | true =>
    simp only [Bool.not_false,cond_true,Gp,Bool.and_self,if_true]
    rw [am (by simp; omega) (by omega)]
    rfl
 ·intro l
  unfold mL
  rw [ao]
  rfl
theorem Eh {α β : Type} (f : α → β) (lt : β → β → Bool) (out : List α) (x : α) : (insB (fun a b => lt (f a) (f b)) out x).map f = insB lt (out.map f) (f x):=by
 unfold insB
 rw [List.map_append,List.map_cons,List.takeWhile_map,List.dropWhile_map]
 rfl
theorem qK {α β : Type} (f : α → β) (lt : β → β → Bool) : ∀ (l out : List α),(l.foldl (insB fun a b => lt (f a) (f b)) out).map f = (l.map f).foldl (insB lt) (out.map f)
 | [],_ => rfl
 | x :: l,out => by rw [List.foldl_cons,qK f lt l,Eh,List.map_cons,List.foldl_cons]
def mW (s : State) (label : Int) (x : Str) : Load:=⟨x,pUsed s x label true 0,pDown s x label true⟩
theorem Cm (x y : Str) : iB x y = some (if Op.bytesLess x y then -1 else if strLe x y then 0 else 1):=by
 unfold iB jx
 have h1 : (x == x) = true:=by simp
 have h2 : (y == y) = true:=by simp
 rw [h1,h2]
 cases Op.bytesLess x y <;> cases strLe x y <;> rfl
theorem or2 (a b : Int) : lK [a,b] = some (if a ≠ 0 then a else b):=by
 unfold lK
 rw [aS]
 by_cases ha : a = 0
 ·subst ha
  rw [show jQ [0,b] 0 = some (.inl 1) from rfl]
  dsimp only
  rw [aS]
  by_cases hb : b = 0
  ·subst hb
   rw [show jQ [0,0] 1 = some (.inl 2) from rfl]
   dsimp only
   rw [aS]
   rfl
  ·have e : (b != 0) = true:=by simp [hb]
   have : jQ [0,b] 1 = some (.inr (.inl b)):=by
    show (bif (b != 0) then _ else _) = _
    rw [e]; rfl
   rw [this]
   rfl
 ·have e : (a != 0) = true:=by simp [ha]
  have : jQ [a,b] 0 = some (.inr (.inl a)):=by
   show (bif (a != 0) then _ else _) = _
   rw [e]; rfl
  rw [this]
  simp [ha]
theorem xv (x y : Load) : ∃ c,bM x y = some c ∧ decide (c < 0) = pc x.used x.least x.path y.used y.least y.path:=by
 unfold bM
 have e : lu x.used x.least y.used y.least = some (pOrder x.used x.least y.used y.least):=by rw [← vW,wF]
 rw [e,Gp,Cm,Gp,or2,Gp]
 refine ⟨_,rfl,?_⟩
 unfold pc
 generalize pOrder x.used x.least y.used y.least = o
 by_cases h : o = 0
 ·subst h
  rw [if_neg (by simp)]
  cases Op.bytesLess x.path y.path
  ·cases strLe x.path y.path <;> rfl
  ·rfl
 ·rw [if_pos h,beq_eq_false_iff_ne.2 h]
  simp
theorem BQ (K : List Load) (hK : K.length ≤ 1000) : ((mkl 16 (K.length : Int) (K.length : Int) ([] : Str)).bind fun l2 => (loop (kn K) (l2,0)).bind fun out => some out) = some (K.map (·.path)):=by
 have hmk : mkl 16 (K.length : Int) (K.length : Int) ([] : Str) = some (List.replicate K.length []):=by
  unfold mkl
  rw [if_pos ⟨by omega,by omega,by unfold maxLen; omega,by omega⟩]
  rfl
 rw [hmk,Gp]
 generalize hM : K.map (·.path) = M
 have hml : M.length = K.length:=by rw [← hM,List.length_map]
 have g:=av (Q:=fun x => x = M) (fun (out : List Str) i => (out,i)) K.length (fun k out => out = M.take k ++ List.replicate (K.length - k) []) (step:=kn K) (by omega) ?_ ?_ (s:=List.replicate K.length []) (by simp)
 ·obtain ⟨x,ex,rfl⟩:=g
  rw [ex]; rfl
 ·rintro k hk out rfl
  have hol : (M.take k ++ List.replicate (K.length - k) ([] : Str)).length = K.length:=by simp; omega
  refine jw (a:=.inl (M.take (k + 1) ++ List.replicate (K.length - (k + 1)) [],w64 ((k : Int) + 1))) ?_ (.inl ⟨_,rfl,rfl⟩)
  unfold kn
  dsimp only
  rw [ah hk,cond_true,ay hk,Gp,Gq hk,Gp,hol]
  have i1 : inS (k : Int) (K.length : Int) K.length = some (k,K.length - k):=by unfold inS; rw [if_pos ⟨by omega,by omega,by omega⟩]; simp
  rw [i1,Gp]
  dsimp only
  have ec : cpy (M.take k ++ List.replicate (K.length - k) ([] : Str)) k (K.length - k) [K[k].path] = M.take (k + 1) ++ List.replicate (K.length - (k + 1)) []:=by
   unfold cpy
   have hk1 : K.length - k = (K.length - (k + 1)) + 1:=by omega
   have hpk : K[k].path = M[k]'(by omega):=by simp [← hM]
   have htl : (M.take k).length = k:=by rw [List.length_take]; omega
   rw [List.take_append_of_le_length (by omega),List.take_take,Nat.min_self,hk1,List.take_of_length_le (l:=[K[k].path]) (by simp)]
   have : min (K.length - (k + 1) + 1) [K[k].path].length = 1:=by simp
   rw [this,List.replicate_succ,List.drop_append,htl,List.drop_of_length_le (by omega),show k + 1 - k = 1 by omega,List.take_succ_eq_append_getElem (by omega),hpk]
   simp
  rw [ec]
 ·rintro out rfl
  refine jw (a:=.inr M) ?_ ⟨_,rfl,rfl⟩
  unfold kn
  dsimp only
  rw [ao,← hml]
  simp
def ltL (x y : Load) : Bool:=pc x.used x.least x.path y.used y.least y.path
theorem EK {l : List Load} (hn : ∀ x ∈ l,∀ y ∈ l,x.path = y.path → x = y) (hf : ∀ x ∈ l,Ok x.used) (hg : ∀ x ∈ l,Ok x.least) : SO ltL l:=A0 Load.used Load.least Load.path hn hf hg
theorem xr {L : List Load} (hso : SO ltL L) (hnd : L.Nodup) (hl : L.length < 1000000000) : nG L (fun a' => bM a'.1 a'.2.1) = some (L.foldl (insB ltL) []) :=
 DR (α:=Load) (φ:=bM) (fun x _ y _ => xv x y) hso hnd hl
theorem EU (s : State) (label : Int) (K : List Str) : (K.map (mW s label)).map (·.path) = K:=by
 rw [List.map_map]
 exact (List.map_congr_left (fun x _ => rfl)).trans (List.map_id K)
theorem Bs {N : Nat} {s : State} (h : Inv N s) (label : Int) {K : List Str} (hn : K.Nodup) (hK : K.length ≤ 1000) :
  nG (K.map (mW s label)) (fun a' => bM a'.1 a'.2.1) = some ((K.foldl (insB fun a b => e_ s a b label) []).map (mW s label)):=by
 have okU : ∀ x,Ok (pUsed s x label true 0):=fun x => (qh h.sb x label true 0).ok (by have:=h.cl; omega)
 have okD : ∀ x,Ok (pDown s x label true):=fun x => (h.sc.down_bd label true).ok (by have:=h.nl; omega)
 have hnd : (K.map (mW s label)).Nodup:=List.pairwise_map.2 (hn.imp fun {a b} hab e => hab (congrArg Load.path e))
 have hso : SO ltL (K.map (mW s label)):=by
  refine EK ?_ ?_ ?_
  ·intro x hx y hy e
   obtain ⟨a,_,rfl⟩:=List.mem_map.1 hx
   obtain ⟨b,_,rfl⟩:=List.mem_map.1 hy
   have : a = b:=e
   rw [this]
  ·intro x hx
   obtain ⟨a,_,rfl⟩:=List.mem_map.1 hx
   exact okU a
  ·intro x hx
   obtain ⟨a,_,rfl⟩:=List.mem_map.1 hx
   exact okD a
 rw [xr hso hnd (by rw [List.length_map]; omega)]
 have e3:=qK (mW s label) ltL K []
 rw [List.map_nil] at e3
 rw [← e3]
 rfl
theorem xf {N : Nat} {s : State} (h : Inv N s) (path : Str) {label : Int} (h0 : 0 ≤ label) (h1 : label < s.Conf.Labels.length) : n5 s path label = some (pOKids s path label):=by
 have hc:=h.cf
 have hq:=hc.qs
 have hkl:=kW s.Conf path
 have hkp : ∀ x ∈ pKids s.Conf path,PathOk x:=fun x hx => BE hc hx
 unfold n5
 rw [Ei hc,Gp]
 have e1:=bb (fun (l : List Load) i => (l,i)) (pKids s.Conf path) (fun _ => true) (mW s label) (step:=kb s label (pKids s.Conf path)) (by omega) ?_ ?_
 ·have e1' : loop (kb s label (pKids s.Conf path)) ([],0) = some ((pKids s.Conf path).map (mW s label)):=by
   rw [e1,List.filter_eq_self.2 (by simp)]
  rw [e1',Gp]
  rw [Bs h label (Am hc path) (by omega),Gp]
  have e4 : (pKids s.Conf path).foldl (insB fun a b => e_ s a b label) [] = pOKids s path label:=rfl
  rw [e4]
  have hlen : (pOKids s path label).length = (pKids s.Conf path).length:=(kD s path label).length_eq
  generalize hK : pOKids s path label = K at *
  have hc2:=BQ (K.map (mW s label)) (by rw [List.length_map]; omega)
  have hm2:=EU s label K
  rw [hm2] at hc2
  exact hc2
 ·intro k hk l hl
  have hx:=hkp _ (List.getElem_mem hk)
  have hxl:=hx.len
  unfold kb
  rw [ah hk,cond_true]
  dsimp only
  rw [ay hk,Gp,Gq hk,Gp,s_ h (by omega),Gp,rN h.sc (by omega) h0 h1,Gp,am (by simp; omega) (by omega)]
  rfl
 ·intro l
  unfold kb
  rw [ao]
  rfl
theorem BA {N : Nat} {s : State} (h : Inv N s) {label : Int} (h0 : 0 ≤ label) (h1 : label < s.Conf.Labels.length) : ∀ (d n : Nat) (path : Str),3 ≤ path.count 46 + d → d ≤ n → d ≤ 3 →
  dF (n + 1) s path label (4 - (d : Int)) = some (pLeavesN d s path label):=by
 intro d
 induction d with
 | zero =>
  intro n path hc _ _
  have hk : pKids s.Conf path = []:=by
   cases hk : pKids s.Conf path with
   | nil => rfl
   | cons x l =>
    have hx : x ∈ pKids s.Conf path:=by rw [hk]; simp
    obtain ⟨hp,q,hq,rfl,ha⟩:=fh hx
    have h1:=g9 hp ha
    have h2:=(kT h.cf hq).deep
    omega
  show kh _ s path label _ = _
  unfold kh
  have hp : pOKids s path label = []:=by have:=kD s path label; rw [hk] at this; exact this.eq_nil
  rw [xf h path h0 h1,Gp,hp]
  rfl
 | succ d ih =>
  intro n path hc hn hd3
  obtain ⟨n,rfl⟩ : ∃ m,n = m + 1:=⟨n - 1,by omega⟩
  have hperm:=kD s path label
  have hlen:=hperm.length_eq
  have hkl:=kW s.Conf path
  have hq:=h.cf.qs
  have e0 : (pKids s.Conf path = []) ↔ pOKids s path label = []:=⟨fun e => by rw [e] at hperm; exact hperm.eq_nil,fun e => by rw [e] at hperm; exact hperm.symm.eq_nil⟩
  have hkid : ∀ x ∈ pOKids s path label,dF (n + 1) s x label (4 - (d : Int)) = some (pLeavesN d s x label) ∧ (pLeavesN d s x label).length ≤ 16 ^ d:=by
   intro x hx
   obtain ⟨hp,q,hq',rfl,ha⟩:=fh (hperm.mem_iff.1 hx)
   have h1:=g9 hp ha
   exact ⟨ih n q.Path (by omega) (by omega) (by omega),(qw h.sc label d n q.Path (by omega) (by omega) (by omega)).2⟩
  show kh (dF (n + 1)) s path label _ = _
  unfold kh
  rw [xf h path h0 h1,Gp]
  unfold pLeavesN
  by_cases hk : pKids s.Conf path = []
  ·rw [if_pos hk,e0.1 hk]; rfl
  ·rw [if_neg hk]
   have hne : pOKids s path label ≠ []:=fun e => hk (e0.2 e)
   have hpos : 0 < (pOKids s path label).length:=List.length_pos_iff.2 hne
   have e1 : (((pOKids s path label).length : Int) == 0) = false:=by
    rw [beq_eq_false_iff_ne]; omega
   rw [e1,cond_false,Gp,decide_eq_false (by omega),cond_false]
   have hpow : 16 ^ d ≤ 16 ^ 3:=Nat.pow_le_pow_right (by omega) (by omega)
   have e:=(dD (fun (out : List Str) i => (out,i)) (pOKids s path label) (fun out x => out ++ pLeavesN d s x label) (fun k out => out.length ≤ k * 16 ^ d) (fun out => out)
    (step:=j3 s label (4 - ((d + 1 : Nat) : Int)) (dF (n + 1)) (pOKids s path label)) (by omega) ?_ ?_ (s:=[]) (by simp)).1
   ·rw [e,Gp]
    have gen : ∀ (l z : List Str),l.foldl (fun out x => out ++ pLeavesN d s x label) z = z ++ l.flatMap fun x => pLeavesN d s x label:=by
     intro l
     induction l with
     | nil => intro z; simp
     | cons x l ihl => intro z; rw [List.foldl_cons,ihl,List.flatMap_cons,List.append_assoc]
    rw [gen]
    rfl
   ·intro k hk out ho
    obtain ⟨k1,k2⟩:=hkid _ (List.getElem_mem hk)
    have hmul : k * 16 ^ d ≤ 16 * 16 ^ 3:=Nat.mul_le_mul (by omega) hpow
    refine ⟨?_,by rw [Gs,Nat.succ_mul]; omega⟩
    unfold j3
    rw [ah hk,cond_true]
    dsimp only
    have ew : w64 (4 - ((d + 1 : Nat) : Int) + 1) = 4 - (d : Int):=by rw [aj (by omega) (by omega)]; omega
    rw [ay hk,Gp,Gq hk,Gp,ew,k1,Gp,am (by omega) (by omega),Gp]
   ·intro out _
    unfold j3
    rw [ao]
    rfl
theorem AN {N : Nat} {s : State} (h : Inv N s) {label : Int} (h0 : 0 ≤ label) (h1 : label < s.Conf.Labels.length) : mB s label = some (bB s label):=by
 unfold mB pJ
 have:=BA h h0 h1 3 63 root (by decide) (by omega) (by omega)
 show (dF 64 s root label 1).bind _ = _
 rw [show (1 : Int) = 4 - ((3 : Nat) : Int) by rfl,this]
 rfl
theorem eF {τ σ : Type} {step : τ → Option (τ ⊕ σ)} {t : τ} {r : σ} (h : step t = some (.inr r)) : loop step t = some r:=by
 rw [aS,h]
theorem mu {τ σ : Type} {step : τ → Option (τ ⊕ σ)} {t t' : τ} (h : step t = some (.inl t')) : loop step t = loop step t':=by
 rw [aS,h]
theorem rf {k n : Nat} (h : k < n) : inb (k : Int) n = some k:=ay h
theorem rn {k : Nat} (h : k < 1000000000) : w64 ((k : Int) + 1) = ((k + 1 : Nat) : Int):=uS h
def LtA (a b : App) : Prop:=b.Prio < a.Prio ∨ (b.Prio = a.Prio ∧ a.Id < b.Id)
theorem vf {a b c : App} (h : LtA a b) (k : LtA b c) : LtA a c:=by unfold LtA at *; omega
theorem u_ {a b : App} (h : a.Id ≠ b.Id) (k : ¬ LtA a b) : LtA b a:=by unfold LtA at *; omega
theorem cmpI (x y : Int) : ig x y = some (if x < y then -1 else if x > y then 1 else 0):=by
 unfold ig lj
 have h1 : (x != x) = false:=by simp
 have h2 : (y != y) = false:=by simp
 simp only [h1,h2,Gp,cond_false]
 by_cases h : x < y
 ·simp [h]
 ·by_cases k : x > y
  ·simp [h,k]
  ·simp [h,k]
theorem ord1 (a b : App) : ∃ r,jH a b = some r ∧ (r < 0 ↔ LtA a b):=by
 unfold jH
 rw [cmpI,cmpI]
 simp only [Gp]
 rw [or2]
 refine ⟨_,rfl,?_⟩
 unfold LtA
 rcases Int.lt_trichotomy b.Prio a.Prio with h | h | h
 ·simp [h]
 ·have h1 : ¬ b.Prio < a.Prio:=by omega
  have h2 : ¬ b.Prio > a.Prio:=by omega
  rcases Int.lt_trichotomy a.Id b.Id with k | k | k
  ·simp [h1,h2,h,k]
  ·have k1 : ¬ a.Id < b.Id:=by omega
   have k2 : ¬ a.Id > b.Id:=by omega
   simp [h1,h2,h,k]
  ·have k1 : ¬ a.Id < b.Id:=by omega
   simp [h1,h2,h,k,k1]
 ·have h1 : ¬ b.Prio < a.Prio:=by omega
  have h2 : b.Prio > a.Prio:=by omega
  have h3 : ¬ b.Prio = a.Prio:=by omega
  simp [h1,h2,h3]
noncomputable abbrev cmpF : TupT fam [.st 6,.st 6] → Option Int:=fun a' => jH a'.1 a'.2.1
theorem in0 (x : App) (T : List App) : g8 0 cmpF (x :: T,0) = some (.inr (x :: T)):=by
 unfold g8
 rfl
theorem inS_ (B T : List App) (x y : App) (hbig : B.length < 1000000000) : (LtA x y → g8 0 cmpF (B ++ y :: x :: T,((B.length + 1 : Nat) : Int)) = some (.inl (B ++ x :: y :: T,(B.length : Int)))) ∧
  (¬ LtA x y → g8 0 cmpF (B ++ y :: x :: T,((B.length + 1 : Nat) : Int)) = some (.inr (B ++ y :: x :: T))):=by
 obtain ⟨r,hr,hlt⟩:=ord1 x y
 have hL : (B ++ y :: x :: T).length = B.length + (T.length + 2):=by simp
 have g1 : (B ++ y :: x :: T)[B.length + 1]? = some x:=by rw [List.getElem?_append_right (by omega)]; simp
 have g0 : (B ++ y :: x :: T)[B.length]? = some y:=by rw [List.getElem?_append_right (by omega)]; simp
 have w1 : w64 (((B.length + 1 : Nat) : Int) - 1) = (B.length : Int):=by rw [aj (by omega) (by omega)]; omega
 have i1 : inb (((B.length + 1 : Nat) : Int)) (B ++ y :: x :: T).length = some (B.length + 1):=rf (by omega)
 have i0 : inb ((B.length : Int)) (B ++ y :: x :: T).length = some B.length:=rf (by omega)
 have e1 : List.set (B ++ y :: x :: T) (B.length + 1) y = B ++ y :: y :: T:=by
  rw [List.set_append_right _ _ (by omega)]; simp
 have i2 : inb ((B.length : Int)) (B ++ y :: y :: T).length = some B.length:=rf (by simp)
 have g2 : (B ++ y :: y :: T)[B.length]? = some y:=by rw [List.getElem?_append_right (by omega)]; simp
 have e2 : List.set (B ++ y :: y :: T) B.length x = B ++ x :: y :: T:=by
  rw [List.set_append_right _ _ (by omega)]; simp
 have d1 : decide (((B.length + 1 : Nat) : Int) > 0) = true:=by rw [decide_eq_true_iff]; omega
 constructor
 ·intro h
  unfold g8
  simp only [d1,cond_true,i1,i0,w1,Gp,g1,g0,hr,decide_eq_true (hlt.2 h),e1,i2,g2,e2]
 ·intro h
  unfold g8
  simp only [d1,cond_true,i1,i0,w1,Gp,g1,g0,hr,decide_eq_false (fun k => h (hlt.1 k)),cond_false]
theorem inner : ∀ (n : Nat) (B : List App),B.length = n → n < 1000000000 → ∀ (x : App) (T : List App),∃ B1 B2,B = B1 ++ B2 ∧ loop (g8 0 cmpF) (B ++ x :: T,(B.length : Int)) = some (B1 ++ x :: (B2 ++ T)) ∧ (∀ y ∈ B2,LtA x y) ∧ (∀ C y,B1 = C ++ [y] → ¬ LtA x y)
 | 0,B,hn,_,x,T => by
  have : B = []:=List.length_eq_zero_iff.1 hn
  subst this
  exact ⟨[],[],rfl,eF (in0 x T),by simp,fun C y h => by simp at h⟩
 | n + 1,B,hn,hb,x,T => by
  rcases List.eq_nil_or_concat B with h | ⟨B',y,h⟩
  ·subst h; simp at hn
  ·have h : B = B' ++ [y]:=by simpa using h
   subst h
   have hl : B'.length = n:=by simp at hn; exact hn
   have e : B' ++ [y] ++ x :: T = B' ++ y :: x :: T:=by simp
   have el : ((B' ++ [y]).length : Int) = ((B'.length + 1 : Nat) : Int):=by simp
   obtain ⟨q1,q2⟩:=inS_ B' T x y (by omega)
   rw [e,el]
   by_cases hlt : LtA x y
   ·rw [mu (q1 hlt)]
    obtain ⟨B1,B2,k1,k2,k3,k4⟩:=inner n B' hl (by omega) x (y :: T)
    refine ⟨B1,B2 ++ [y],by rw [k1]; simp,by rw [k2]; simp,?_,k4⟩
    intro z hz
    rcases List.mem_append.1 hz with h | h
    ·exact k3 z h
    ·rw [Gt.1 h]; exact hlt
   ·refine ⟨B' ++ [y],[],by simp,by rw [eF (q2 hlt)]; simp,by simp,?_⟩
    intro C z hz
    have:=List.append_inj' hz rfl
    rw [← (List.cons.inj this.2).1]; exact hlt
theorem outer (n : Nat) (hn : n < 1000000000) : ∀ (R A : List App),(A ++ R).length = n → A.Pairwise LtA → (A ++ R).Pairwise (fun a b => a.Id ≠ b.Id) →
  ∃ r,loop (kq 0 (n : Int) cmpF) (A ++ R,(A.length : Int)) = some r ∧ r.Perm (A ++ R) ∧ r.Pairwise LtA
 | [],A,hl,hs,hd => by
  have hl' : A.length = n:=by simpa using hl
  refine ⟨A,?_,by simp,hs⟩
  refine eF ?_
  unfold kq
  have : decide ((A.length : Int) < (n : Int)) = false:=by rw [decide_eq_false_iff_not]; omega
  simp only [this,cond_false,List.append_nil]
 | x :: R,A,hl,hs,hd => by
  have hl' : A.length + (R.length + 1) = n:=by simpa using hl
  obtain ⟨B1,B2,k1,k2,k3,k4⟩:=inner A.length A rfl (by omega) x R
  have d1 : decide ((A.length : Int) < (n : Int)) = true:=by rw [decide_eq_true_iff]; omega
  have hst : kq 0 (n : Int) cmpF (A ++ x :: R,(A.length : Int)) = some (.inl ((B1 ++ x :: B2) ++ R,(((B1 ++ x :: B2).length : Nat) : Int))):=by
   unfold kq
   simp only [d1,cond_true,k2,Gp]
   rw [rn (by omega)]
   have : (B1 ++ x :: B2).length = A.length + 1:=by rw [k1]; simp; omega
   rw [this]
   simp
  have hp : ((B1 ++ x :: B2) ++ R).Perm (A ++ x :: R):=by
   rw [k1]
   have : (B1 ++ x :: B2).Perm (B1 ++ B2 ++ [x]):=by
    refine List.perm_middle.trans ?_
    exact (List.perm_append_singleton x (B1 ++ B2)).symm
   have:=this.append_right R
   simpa using this
  have hpA : (B1 ++ x :: B2).Pairwise LtA:=by
   rw [k1] at hs
   obtain ⟨s1,s2,s3⟩:=List.pairwise_append.1 hs
   refine List.pairwise_append.2 ⟨s1,List.pairwise_cons.2 ⟨k3,s2⟩,?_⟩
   have hx : ∀ y ∈ B1,LtA y x:=by
    rcases List.eq_nil_or_concat B1 with h | ⟨C,z,h⟩
    ·subst h; simp
    ·have h : B1 = C ++ [z]:=by simpa using h
     have hz : LtA z x:=by
      refine u_ ?_ (k4 C z h)
      rw [k1,h] at hd
      have:=(List.pairwise_append.1 hd).2.2 z (by simp) x (by simp)
      exact fun e => this e.symm
     intro y hy
     rw [h] at hy s1
     rcases List.mem_append.1 hy with hy | hy
     ·exact vf ((List.pairwise_append.1 s1).2.2 y hy z (by simp)) hz
     ·rw [Gt.1 hy]; exact hz
   intro y hy z hz
   rcases List.mem_cons.1 hz with rfl | hz
   ·exact hx y hy
   ·exact s3 y hy z hz
  obtain ⟨r,r1,r2,r3⟩:=outer n hn R (B1 ++ x :: B2) (by rw [hp.length_eq]; exact hl) hpA (hp.symm.pairwise hd (fun h => fun e => h e.symm))
  exact ⟨r,by rw [mu hst]; exact r1,r2.trans hp,r3⟩
theorem C_ (l : List App) (hl : l.length ≤ 19) (hd : l.Pairwise (fun a b => a.Id ≠ b.Id)) : ∃ r,lL l cmpF = some r ∧ r.Perm l ∧ r.Pairwise LtA:=by
 have h0 : ∃ r,oI l 0 (l.length : Int) cmpF = some r ∧ r.Perm l ∧ r.Pairwise LtA:=by
  unfold oI
  cases l with
  | nil =>
   refine ⟨[],?_,List.Perm.refl _,List.Pairwise.nil⟩
   have : kq 0 ((([] : List App).length : Nat) : Int) cmpF ([],w64 (0 + 1)) = some (.inr []):=rfl
   rw [eF this]; rfl
  | cons x l =>
   obtain ⟨r,r1,r2,r3⟩:=outer (x :: l).length (by omega) l [x] (by simp) (by simp) hd
   refine ⟨r,?_,r2,r3⟩
   have e : ((x :: l : List App),w64 (0 + 1)) = ([x] ++ l,(([x] : List App).length : Int)):=rfl
   rw [e,r1]; rfl
 obtain ⟨r,r1,r2,r3⟩:=h0
 refine ⟨r,?_,r2,r3⟩
 unfold lL oC
 have e1 : mI (l.length : Int) cmpF (l,0,20) = some (.inr (l,0)):=by
  unfold mI
  have : decide ((20 : Int) ≤ (l.length : Int)) = false:=by rw [decide_eq_false_iff_not]; omega
  simp only [this,cond_false]
 have e2 : mE (l.length : Int) cmpF (r,20) = some (.inr r):=by
  unfold mE
  have : decide ((20 : Int) < (l.length : Int)) = false:=by rw [decide_eq_false_iff_not]; omega
  simp only [this,cond_false]
 rw [eF e1]
 simp only [Gp,r1]
 rw [eF e2]
 rfl
def ltA (a b : App) : Bool:=decide (b.Prio < a.Prio) || (decide (b.Prio = a.Prio) && decide (a.Id < b.Id))
theorem lm {a b : App} : ltA a b = true ↔ LtA a b:=by unfold ltA LtA; simp
theorem Bu {l : List App} (h : l.Pairwise fun x y => x.Id < y.Id) : SO ltA l:=by
 refine ⟨fun x _ => ?_,fun x _ y _ z _ h1 h2 => ?_,fun x hx y hy hne => ?_⟩
 ·cases e : ltA x x with
  | false => rfl
  | true => have:=lm.1 e; unfold LtA at this; omega
 ·exact lm.2 (vf (lm.1 h1) (lm.1 h2))
 ·have hid : x.Id ≠ y.Id:=fun e => by
   have h1:=oo h hx
   have h2:=oo h hy
   rw [e] at h1
   rw [h1] at h2
   exact hne (Option.some.inj h2)
  by_cases k : LtA x y
  ·exact .inl (lm.2 k)
  ·exact .inr (lm.2 (u_ hid k))
theorem Ah {l : List App} (h : l.Pairwise fun x y => x.Id < y.Id) : l.Nodup:=h.imp fun {a b} hab e => by rw [e] at hab; omega
theorem sG : ∀ (l out : List App),l.Pairwise (fun x y => x.Id < y.Id) → (∀ x ∈ out,∀ y ∈ l,x.Id < y.Id) → l.foldl pV out = l.foldl (insB ltA) out
 | [],_,_,_ => rfl
 | x :: l,out,h,ho => by
  have h':=List.pairwise_cons.1 h
  have e : pV out x = insB ltA out x:=by
   unfold pV insB
   have hc : ∀ y ∈ out,(!(!decide (y.Prio ≥ x.Prio))) = (!ltA x y):=by
    intro y hy
    have:=ho y hy x (by simp)
    rw [Bool.eq_iff_iff,Bool.not_not,decide_eq_true_eq,Bool.not_eq_true',← Bool.not_eq_true,lm]
    unfold LtA
    omega
   have t : ∀ o : List App,(∀ y ∈ o,(!(!decide (y.Prio ≥ x.Prio))) = (!ltA x y)) → (o.takeWhile fun y => !(!decide (y.Prio ≥ x.Prio))) = (o.takeWhile fun y => !ltA x y) ∧ (o.dropWhile fun y => !(!decide (y.Prio ≥ x.Prio))) = (o.dropWhile fun y => !ltA x y):=by
    intro o
    induction o with
    | nil => intro _; exact ⟨rfl,rfl⟩
    | cons y o ih =>
     intro hc
     obtain ⟨i1,i2⟩:=ih fun z hz => hc z (by simp [hz])
     rw [List.takeWhile_cons,List.takeWhile_cons,List.dropWhile_cons,List.dropWhile_cons,hc y (by simp),i1,i2]
     exact ⟨rfl,rfl⟩
   obtain ⟨t1,t2⟩:=t out hc
   rw [t1,t2]
  rw [List.foldl_cons,List.foldl_cons,e]
  refine sG l _ h'.2 fun y hy z hz => ?_
  rcases qv.1 hy with rfl | hy
  ·exact h'.1 z hz
  ·exact ho y hy z (by simp [hz])
theorem DP {N : Nat} {s : State} (h : Inv N s) (queue : Str) : (kS s queue).Pairwise LtA:=by
 have hf : (s.Apps.filter fun a => pLive a && a.Queue == queue).Pairwise fun x y => x.Id < y.Id:=h.asr.sublist List.filter_sublist
 unfold kS
 rw [sG _ _ hf (by simp)]
 exact ((Bu hf).insB_pw (Ah hf)).imp fun {a b} k => lm.1 k
theorem zR (a : App) : nQ a = some (pLive a):=by
 unfold nQ pLive
 cases a.State == 1 <;> rfl
theorem Cx (K : List App) (hK : K.length ≤ 1000) : ((mkl 8 (K.length : Int) (K.length : Int) (0 : Int)).bind fun l3 => (loop (ka K) (l3,0)).bind fun out => some out) = some (K.map (·.Id)):=by
 have e0 : mkl 8 (K.length : Int) (K.length : Int) (0 : Int) = some (List.replicate K.length 0):=by
  unfold mkl
  rw [if_pos ⟨by omega,by omega,by unfold maxLen; omega,by omega⟩]
  simp
 rw [e0,Gp]
 have h:=av (Q:=fun x => x = K.map (·.Id)) (fun (l : List Int) i => (l,i)) K.length (fun k l => l = (K.take k).map (·.Id) ++ List.replicate (K.length - k) 0) (step:=ka K) (by omega) ?_ ?_ (s:=List.replicate K.length 0) (by simp)
 ·obtain ⟨x,e,rfl⟩:=h
  rw [e]; rfl
 ·rintro k hk l rfl
  have hlen : ((K.take k).map (·.Id) ++ List.replicate (K.length - k) (0 : Int)).length = K.length:=by simp; omega
  have hr : List.replicate (K.length - k) (0 : Int) = 0 :: List.replicate (K.length - (k + 1)) 0:=by
   rw [show K.length - k = (K.length - (k + 1)) + 1 by omega,List.replicate_succ]
  have htl : ((K.take k).map (·.Id)).length = k:=by simp; omega
  refine jw (a:=.inl ((K.take (k + 1)).map (·.Id) ++ List.replicate (K.length - (k + 1)) 0,w64 ((k : Int) + 1))) ?_ (.inl ⟨_,rfl,rfl⟩)
  unfold ka
  dsimp only
  rw [ah hk,cond_true,ay hk,Gp,Gq hk,Gp,hlen,ay hk,Gp,Gq (by omega),Gp]
  congr 3
  rw [List.set_append_right _ _ (by omega),htl,Nat.sub_self,hr,List.set_cons_zero,List.take_succ_eq_append_getElem hk,List.map_append]
  simp
 ·rintro l rfl
  refine jw (a:=.inr _) ?_ ⟨_,rfl,rfl⟩
  unfold ka
  dsimp only
  rw [ao,cond_false]
  simp
theorem CZ {N : Nat} {s : State} (h : Inv N s) (queue : Str) : oe s queue = some (pApps s queue):=by
 unfold oe
 have hal:=h.al
 have hf : (s.Apps.filter fun a => pLive a && a.Queue == queue).Pairwise fun x y => x.Id < y.Id:=h.asr.sublist List.filter_sublist
 have hfl : (s.Apps.filter fun a => pLive a && a.Queue == queue).length ≤ 16:=Nat.le_trans (List.length_filter_le _ _) hal
 have e1:=bb (fun (l : List App) i => (l,i)) s.Apps (fun a => pLive a && a.Queue == queue) (fun x => x) (step:=lX s queue) (by omega) ?_ ?_
 ·rw [List.map_id'] at e1
  rw [e1,Gp]
  generalize hL : (s.Apps.filter fun a => pLive a && a.Queue == queue) = L at *
  obtain ⟨r,r1,r2,r3⟩:=C_ L (by omega) (hf.imp fun {a b} hab => by omega)
  have er : r = kS s queue:=by
   have h2:=DP h queue
   have h3:=pM s queue
   rw [hL] at h3
   have so:=Bu hf
   have cv : ∀ {m : List App},m.Pairwise LtA → m.Pairwise fun a b => ltA a b = true:=fun hm => hm.imp fun {a b} k => lm.2 k
   exact so.uniq r2 h3 (cv r3) (cv h2)
  rw [show lL L (fun a' => jH a'.1 a'.2.1) = some r from r1,Gp]
  have:=Cx r (by have:=r2.length_eq; omega)
  rw [this,er]
  rfl
 ·intro k hk l hl
  unfold lX
  dsimp only
  rw [ah hk,cond_true,ai hk,Gp,zR,Gp]
  cases pLive s.Apps[k] with
  | false => rfl
  | true =>
   rw [cond_true,Gp,Bool.true_and]
   cases s.Apps[k].Queue == queue with
   | false => rfl
   | true =>
    rw [cond_true,am (by simp; omega) (by omega)]
    rfl
 ·intro l
  unfold lX
  dsimp only
  rw [ao]
  rfl
theorem wo {τ ρ σ : Type} (mk : σ → Int → τ) (step : τ → Option (τ ⊕ ρ)) (n : Nat) (Inv : Nat → σ → Prop) (fin : σ → ρ)
  (h1 : ∀ k,k < n → ∀ s,Inv k s → ∃ s',step (mk s (k : Int)) = some (.inl (mk s' ((k + 1 : Nat) : Int))) ∧ Inv (k + 1) s')
  (h2 : ∀ s,Inv n s → step (mk s (n : Int)) = some (.inr (fin s))) {s : σ} (h0 : Inv 0 s) : ∃ s',loop step (mk s 0) = some (fin s') ∧ Inv n s':=by
 have key : ∀ (m k : Nat),m + k = n → ∀ s,Inv k s → ∃ s',loop step (mk s (k : Int)) = some (fin s') ∧ Inv n s':=by
  intro m
  induction m with
  | zero =>
   intro k hk s hs
   have hk : k = n:=by omega
   subst hk
   exact ⟨s,by rw [aS,h2 s hs],hs⟩
  | succ m ih =>
   intro k hk s hs
   obtain ⟨s',e,hs'⟩:=h1 k (by omega) s hs
   rw [aS,e]
   exact ih (k + 1) (by omega) s' hs'
 exact key n 0 rfl s h0
theorem Ge {α : Type} {b : Nat} {l m : List α} (h : (l ++ m).length ≤ 1000000) (hb : b ≤ 100000) : app b l m = some (l ++ m):=by
 unfold app
 rw [if_pos]
 have : (l ++ m).length * b ≤ 1000000 * 100000:=Nat.mul_le_mul h hb
 unfold maxLen
 omega
theorem Ev {ρ : Type} (step : Int → Option (Int ⊕ ρ)) (n : Nat) (p : Nat → Bool) (bad : Nat → ρ) (good : ρ) (h1 : ∀ k : Nat,k < n → step k = some (bif p k then .inl ((k + 1 : Nat) : Int) else .inr (bad k))) (h2 : step (n : Int) = some (.inr good)) :
  ((∀ i,i < n → p i = true) ∧ loop step 0 = some good) ∨ ∃ i,i < n ∧ p i = false ∧ loop step 0 = some (bad i):=by
 have key : ∀ (m k : Nat),m + k = n → ((∀ i,k ≤ i → i < n → p i = true) ∧ loop step (k : Int) = some good) ∨ ∃ i,i < n ∧ p i = false ∧ loop step (k : Int) = some (bad i):=by
  intro m
  induction m with
  | zero =>
   intro k hk
   have hk : k = n:=by omega
   subst hk
   exact .inl ⟨fun i h1 h2 => by omega,by rw [aS,h2]⟩
  | succ m ih =>
   intro k hk
   have hk' : k < n:=by omega
   cases hp : p k with
   | true =>
    rw [aS,h1 k hk',hp]
    simp only [cond_true]
    rcases ih (k + 1) (by omega) with ⟨a,b⟩ | h
    ·refine .inl ⟨fun i h1 h2 => ?_,b⟩
     by_cases e : i = k
     ·subst e; exact hp
     ·exact a i (by omega) h2
    ·exact .inr h
   | false =>
    refine .inr ⟨k,hk',hp,?_⟩
    rw [aS,h1 k hk',hp]
    rfl
 rcases key n 0 rfl with ⟨a,b⟩ | h
 ·exact .inl ⟨fun i hi => a i (by omega) hi,b⟩
 ·exact .inr h
theorem ku {α : Type} {b : Nat} {l : List α} (h : l.length ≤ 1000000) (hb : b ≤ 100000) : app b [] l = some l:=by
 have:=Ge (b:=b) (l:=[]) (m:=l) (by simpa using h) hb
 simpa using this
theorem AY {α : Type} {b : Nat} {n : Nat} {z : α} (h : n ≤ 1000000) (hb : b ≤ 100000) : mkl b (n : Int) (n : Int) z = some (List.replicate n z):=by
 unfold mkl
 rw [if_pos]
 ·simp
 ·have : b * n ≤ 100000 * 1000000:=Nat.mul_le_mul hb h
  refine ⟨by omega,by omega,?_,?_⟩ <;> simp only [Int.toNat_natCast] <;> unfold maxLen at * <;> omega
theorem zZ {α : Type} {l m : List α} (h : l.length = m.length) : cpy l 0 l.length m = m:=by
 unfold cpy
 rw [h,List.take_length,Nat.min_self,← h]
 simp
structure SmallA (a : App) : Prop where
 asks : a.Asks.length ≤ 1000000
 grants : a.Grants.length ≤ 1000000
 kills : a.Kills.length ≤ 1000000
 told : a.Told.length ≤ 1000000
 lost : a.Lost.length ≤ 1000000
structure Small (s : State) : Prop where
 labels : s.Conf.Labels.length ≤ 1000
 queues : s.Conf.Queues.length ≤ 1000
 caps : ∀ q ∈ s.Conf.Queues,q.Caps.length ≤ 1000
 nodes : s.Nodes.length ≤ 1000
 apps : s.Apps.length ≤ 1000
 app : ∀ a ∈ s.Apps,SmallA a
 conts : s.Conts.length ≤ 1000
 slots : s.Slots.length ≤ 1000
 plans : s.Plans.length ≤ 1000
theorem r8 {l : List Int} (h : l.length ≤ 1000000) : k8 l = some l:=by
 unfold k8
 rw [AY (by omega) (by omega)]
 simp only [Gp]
 rw [zZ (by simp)]
theorem p_ {a : App} (h : SmallA a) : np a = some a:=by
 unfold np na
 rw [ku (by have:=h.asks; omega) (by omega),r8 h.grants,r8 h.kills,r8 h.told,r8 h.lost]
 rfl
theorem xW {α : Type} {l : List α} {k : Nat} (h : k < l.length) : l.set k l[k] = l:=by simp
theorem wP {s : State} (h : Small s) : nt s = some s:=by
 unfold nt dG nq qP nZ ro rA oV
 rw [ku (by have:=h.labels; omega) (by omega),ku (by have:=h.queues; omega) (by omega)]
 simp only [Gp]
 obtain ⟨x,e,hx⟩:=wo (fun (v : List Queue) k => (v,k)) (nH s.Conf.Queues) s.Conf.Queues.length (fun _ v => v = s.Conf.Queues) (fun v => v) (by
  rintro k hk v rfl
  refine ⟨s.Conf.Queues,?_,rfl⟩
  have hq:=h.queues
  have hc:=h.caps _ (List.getElem_mem hk)
  unfold nH oT
  rw [decide_eq_true (by dsimp only; omega),rn (by omega)]
  dsimp only
  rw [rf hk]
  simp only [cond_true,Gp,Gq hk]
  rw [ku (by omega) (by omega)]
  simp only [Gp]
  rw [show (⟨s.Conf.Queues[k].Path,s.Conf.Queues[k].Caps,s.Conf.Queues[k].User⟩ : Queue) = s.Conf.Queues[k] from rfl,xW hk]) (by
  rintro v rfl
  unfold nH
  rw [decide_eq_false (by dsimp only; omega)]
  rfl) (s:=s.Conf.Queues) rfl
 rw [e,hx]
 simp only [Gp]
 rw [ku (by have:=h.nodes; omega) (by omega),ku (by have:=h.conts; omega) (by omega),ku (by have:=h.slots; omega) (by omega),ku (by have:=h.plans; omega) (by omega),ku (by have:=h.apps; omega) (by omega)]
 simp only [Gp]
 obtain ⟨y,e,hy⟩:=wo (fun (v : List App) k => (v,k)) (nC s.Apps) s.Apps.length (fun _ v => v = s.Apps) (fun v => v) (by
  rintro k hk v rfl
  refine ⟨s.Apps,?_,rfl⟩
  have hq:=h.apps
  unfold nC
  rw [decide_eq_true (by dsimp only; omega),rn (by omega)]
  dsimp only
  rw [rf hk]
  simp only [cond_true,Gp,Gq hk]
  rw [p_ (h.app _ (List.getElem_mem hk))]
  simp only [Gp]
  rw [xW hk]) (by
  rintro v rfl
  unfold nC
  rw [decide_eq_false (by dsimp only; omega)]
  rfl) (s:=s.Apps) rfl
 rw [e,hy]
 rfl
theorem zV {s : State} (h : Small s) : kU s [] = some s:=by
 unfold kU
 rw [wP h]
 simp only [Gp]
 first
 | rw [show loop (kP []) (s,0) = some s by rw [aS]; unfold kP; rfl]
 | rw [show loop (kP []) 0 = some () by rw [aS]; unfold kP; rfl]
 simp only [Gp]
 rw [wP h]
 rfl
theorem oJ {ρ : Type} (step : Int → Option (Int ⊕ ρ)) (n : Nat) (fin : ρ) (h1 : ∀ k : Nat,k < n → step k = some (.inl ((k + 1 : Nat) : Int))) (h2 : step (n : Int) = some (.inr fin)) : loop step 0 = some fin:=by
 rcases Ev step n (fun _ => true) (fun _ => fin) fin (fun k hk => by rw [h1 k hk]; rfl) h2 with ⟨_,b⟩ | ⟨i,_,h,_⟩
 ·exact b
 ·cases h
theorem Inv.small {N : Nat} {s : State} (h : Inv N s) (hN : N ≤ 1000000) : Small s:=by
 have c:=h.cf
 have h1:=c.lab
 have h2:=c.qs
 have h3:=h.nl
 have h4:=h.al
 have h5:=h.cl
 have h6:=h.sl
 have h7:=h.pl
 refine ⟨by omega,by omega,?_,by omega,by omega,?_,by omega,by omega,by omega⟩
 ·intro q hq
  obtain ⟨i,hi,rfl⟩:=List.getElem_of_mem hq
  have:=(c.q i hi).caps
  omega
 ·intro a ha
  have:=h.ak a ha
  have k1:=this.al
  have k2:=this.gr
  have k3:=this.ki
  have k4:=this.to
  have k5:=this.lo
  exact ⟨by omega,by omega,by omega,by omega,by omega⟩
def G2 {α β : Type} (m : Option α) (m' : Option β) (R : α → β → Prop) : Prop:=∃ a b,m = some a ∧ m' = some b ∧ R a b
section
variable {α β γ δ τ σ ρ τ' σ' ρ' : Type}
theorem bg {R : α → β → Prop} {a : α} {b : β} (h : R a b) : G2 (some a) (some b) R:=⟨a,b,rfl,rfl,h⟩
theorem oq {m : Option α} {m' : Option β} {f : α → Option γ} {f' : β → Option δ} {P : α → β → Prop} {R : γ → δ → Prop} (h : G2 m m' P) (k : ∀ a b,P a b → G2 (f a) (f' b) R) : G2 (m.bind f) (m'.bind f') R:=by
 obtain ⟨a,b,rfl,rfl,hp⟩:=h
 exact k a b hp
theorem p7 {b b' : Bool} {x y : Option α} {x' y' : Option β} {R : α → β → Prop} (e : b = b') (h : b = true → G2 x x' R) (k : b = false → G2 y y' R) : G2 (cond b x y) (cond b' x' y') R:=by
 subst e
 cases b
 ·exact k rfl
 ·exact h rfl
theorem wi (mk : σ → Int → τ) (mk' : σ' → Int → τ') (n : Nat) (I : Nat → σ → σ' → Prop) {step : τ → Option (τ ⊕ ρ)} {step' : τ' → Option (τ' ⊕ ρ')} {Q : ρ → ρ' → Prop} (hn : n < 1000000000)
  (h1 : ∀ k,k < n → ∀ s s',I k s s' → G2 (step (mk s (k : Int))) (step' (mk' s' (k : Int))) fun r r' => (∃ u u',r = .inl (mk u (w64 ((k : Int) + 1))) ∧ r' = .inl (mk' u' (w64 ((k : Int) + 1))) ∧ I (k + 1) u u') ∨ ∃ x x',r = .inr x ∧ r' = .inr x' ∧ Q x x')
  (h2 : ∀ s s',I n s s' → G2 (step (mk s (n : Int))) (step' (mk' s' (n : Int))) fun r r' => ∃ x x',r = .inr x ∧ r' = .inr x' ∧ Q x x') {s : σ} {s' : σ'} (h0 : I 0 s s') : G2 (loop step (mk s 0)) (loop step' (mk' s' 0)) Q:=by
 have key : ∀ (m k : Nat),m + k = n → ∀ s s',I k s s' → G2 (loop step (mk s (k : Int))) (loop step' (mk' s' (k : Int))) Q:=by
  intro m
  induction m with
  | zero =>
   intro k hk s s' hs
   have hk : k = n:=by omega
   subst hk
   obtain ⟨r,r',e,e',x,x',rfl,rfl,hx⟩:=h2 s s' hs
   rw [aS,e,aS,e']
   exact bg hx
  | succ m ih =>
   intro k hk s s' hs
   obtain ⟨r,r',e,e',hr⟩:=h1 k (by omega) s s' hs
   rw [aS step,e,aS step',e']
   rcases hr with ⟨u,u',rfl,rfl,hu⟩ | ⟨x,x',rfl,rfl,hx⟩
   ·have : w64 ((k : Int) + 1) = ((k + 1 : Nat) : Int):=uS (by omega)
    rw [this]
    exact ih (k + 1) (by omega) u u' hu
   ·exact bg hx
 exact key n 0 rfl s s' h0
theorem pu (l : List α) (hl : l.length < 1000000000) (g : α → Bool) {step : Int → Option (Int ⊕ (Int ⊕ Unit))}
  (h1 : ∀ k (hk : k < l.length),step (k : Int) = some (bif g l[k] then .inr (.inl (k : Int)) else .inl (w64 ((k : Int) + 1)))) (h2 : step (l.length : Int) = some (.inr (.inr ()))) :
  (∃ k,∃ (hk : k < l.length),l.find? g = some l[k] ∧ loop step 0 = some (.inl (k : Int))) ∨ (l.find? g = none ∧ loop step 0 = some (.inr ())) :=
 tZ (fun i => i) l g (fun i => (.inl i : Int ⊕ Unit)) (.inr ()) hl (fun k hk hf => by rw [h1 k hk,hf]; rfl) (fun k hk hf => by rw [h1 k hk,hf]; rfl) h2
theorem zx {id : α → Int} : ∀ {l : List α} (hs : l.Pairwise fun x y => id x < id y) {k : Nat} (hk : k < l.length) {a : α} (e : id l[k] = id a),l.set k a = putG id l a
 | [],_,k,hk,a,e => absurd hk (by simp)
 | b :: l,hs,0,hk,a,e => by
  have e : id b = id a:=e
  unfold putG
  rw [List.takeWhile_cons_of_neg (by simp; omega),List.dropWhile_cons_of_neg (by simp; omega)]
  simp [e]
 | b :: l,hs,k + 1,hk,a,e => by
  have hk' : k < l.length:=by simpa using hk
  have e : id l[k] = id a:=e
  have hb:=(List.pairwise_cons.1 hs).1 _ (List.getElem_mem hk')
  have ih:=zx (List.pairwise_cons.1 hs).2 hk' e
  unfold putG at ih ⊢
  rw [List.takeWhile_cons_of_pos (by simp; omega),List.dropWhile_cons_of_pos (by simp; omega),List.set_cons_succ,ih,List.cons_append]
theorem zW {id : α → Int} {l : List α} (hl : l.length ≤ 1000000) (a : α) : ins l ((l.takeWhile fun x => decide (id x < id a)).length : Int) [a] = some (insG id l a):=by
 have hle:=jP (fun x => decide (id x < id a)) l
 have ht:=kR (fun x => decide (id x < id a)) l
 unfold ins
 rw [if_pos ⟨by omega,by omega,by simp,hl⟩,Int.toNat_natCast,ht.1,ht.2]
 unfold insG
 simp
theorem A1 {id : α → Int} {l : List α} (h : l.Pairwise fun a b => id a < id b) {k : Nat} (hk : k < l.length) : (l.filter fun p => id p != id l[k]) = l.take k ++ l.drop (k + 1):=by
 have e1 : ((l.take k).filter fun p => id p != id l[k]) = l.take k:=by
  refine List.filter_eq_self.2 fun x hx => ?_
  obtain ⟨i,hi,rfl⟩:=List.getElem_of_mem hx
  rw [List.length_take] at hi
  rw [List.getElem_take]
  have:=List.pairwise_iff_getElem.1 h i k (by omega) hk (by omega)
  simp; omega
 have e2 : ((l.drop (k + 1)).filter fun p => id p != id l[k]) = l.drop (k + 1):=by
  refine List.filter_eq_self.2 fun x hx => ?_
  obtain ⟨i,hi,rfl⟩:=List.getElem_of_mem hx
  rw [List.length_drop] at hi
  rw [List.getElem_drop]
  have:=List.pairwise_iff_getElem.1 h k (k + 1 + i) hk (by omega) (by omega)
  simp; omega
 have e0 : ∀ f : α → Bool,l.filter f = (l.take k).filter f ++ (if f l[k] = true then l[k] :: (l.drop (k + 1)).filter f else (l.drop (k + 1)).filter f):=by
  intro f
  rw [← List.filter_cons,← List.filter_append,← List.drop_eq_getElem_cons hk,List.take_append_drop]
 rw [e0,e1,e2]
 simp
theorem AZ {l : List α} {k : Nat} (hk : k < l.length) (hl : l.length ≤ 1000000) : del l (k : Int) (w64 ((k : Int) + 1)) = some (l.take k ++ l.drop (k + 1)):=by
 unfold del
 rw [aj (by omega) (by omega),if_pos ⟨by omega,by omega,by omega⟩]
 congr 2
end
theorem Bg (l : List App) (hl : l.length ≤ 1000) (f : TupT fam [.st 6] → Option Bool) (g : App → Bool) (hg : ∀ k,f (k,()) = some (g k)) :
  (∃ k,∃ (hk : k < l.length),l.find? g = some l[k] ∧ k9 l f = some (k : Int)) ∨ (l.find? g = none ∧ k9 l f = some (-1)):=by
 unfold k9
 have e:=pu l (by omega) g (step:=kH l f) ?_ ?_
 ·rcases e with ⟨k,hk,e1,e2⟩ | ⟨e1,e2⟩
  ·exact .inl ⟨k,hk,e1,by rw [e2]; rfl⟩
  ·exact .inr ⟨e1,by rw [e2]; rfl⟩
 ·intro k hk
  unfold kH
  rw [ah hk,ai hk]
  simp only [cond_true,Gp,hg]
  cases g l[k] <;> rfl
 ·unfold kH
  rw [ao]
  rfl
theorem qH (l : List Slot) (hl : l.length ≤ 1000) (f : TupT fam [.st 8] → Option Bool) (g : Slot → Bool) (hg : ∀ k,f (k,()) = some (g k)) :
  (∃ k,∃ (hk : k < l.length),l.find? g = some l[k] ∧ iJ l f = some (k : Int)) ∨ (l.find? g = none ∧ iJ l f = some (-1)):=by
 unfold iJ
 have e:=pu l (by omega) g (step:=j9 l f) ?_ ?_
 ·rcases e with ⟨k,hk,e1,e2⟩ | ⟨e1,e2⟩
  ·exact .inl ⟨k,hk,e1,by rw [e2]; rfl⟩
  ·exact .inr ⟨e1,by rw [e2]; rfl⟩
 ·intro k hk
  unfold j9
  rw [ah hk,ai hk]
  simp only [cond_true,Gp,hg]
  cases g l[k] <;> rfl
 ·unfold j9
  rw [ao]
  rfl
theorem B3 (l : List Ask) (hl : l.length ≤ 1000) (f : TupT fam [.st 5] → Option Bool) (g : Ask → Bool) (hg : ∀ k,f (k,()) = some (g k)) :
  (∃ k,∃ (hk : k < l.length),l.find? g = some l[k] ∧ kO l f = some (k : Int)) ∨ (l.find? g = none ∧ kO l f = some (-1)):=by
 unfold kO
 have e:=pu l (by omega) g (step:=kJ l f) ?_ ?_
 ·rcases e with ⟨k,hk,e1,e2⟩ | ⟨e1,e2⟩
  ·exact .inl ⟨k,hk,e1,by rw [e2]; rfl⟩
  ·exact .inr ⟨e1,by rw [e2]; rfl⟩
 ·intro k hk
  unfold kJ
  rw [ah hk,ai hk]
  simp only [cond_true,Gp,hg]
  cases g l[k] <;> rfl
 ·unfold kJ
  rw [ao]
  rfl
theorem Af (l : List Node) (hl : l.length ≤ 1000) (f : TupT fam [.st 4] → Option Bool) (g : Node → Bool) (hg : ∀ k,f (k,()) = some (g k)) :
  (∃ k,∃ (hk : k < l.length),l.find? g = some l[k] ∧ j_ l f = some (k : Int)) ∨ (l.find? g = none ∧ j_ l f = some (-1)):=by
 unfold j_
 have e:=pu l (by omega) g (step:=j6 l f) ?_ ?_
 ·rcases e with ⟨k,hk,e1,e2⟩ | ⟨e1,e2⟩
  ·exact .inl ⟨k,hk,e1,by rw [e2]; rfl⟩
  ·exact .inr ⟨e1,by rw [e2]; rfl⟩
 ·intro k hk
  unfold j6
  rw [ah hk,ai hk]
  simp only [cond_true,Gp,hg]
  cases g l[k] <;> rfl
 ·unfold j6
  rw [ao]
  rfl
theorem Eb (l : List Slot) (hl : l.length ≤ 1000) (f : TupT fam [.st 8] → Option Bool) (g : Slot → Bool) (hg : ∀ k,f (k,()) = some (g k)) : lV l f = some (l.find? g).isSome:=by
 unfold lV
 rcases qH l hl f g hg with ⟨k,hk,e1,e2⟩ | ⟨e1,e2⟩
 ·rw [e1,e2]
  simp
 ·rw [e1,e2]
  simp
theorem ru {s : State} (hn : s.Nodes.length ≤ 1000) (i : Int) : mC s i = some ((cz s i).elim (noN,false) fun x => (x,true)):=by
 unfold mC tu cz
 rcases Af s.Nodes hn (fun a' => oH i a'.1) (fun x => x.Id == i) (fun k => rfl) with ⟨k,hk,e1,e2⟩ | ⟨e1,e2⟩
 ·rw [e2,e1]
  simp only [Gp,Option.elim_some]
  rw [decide_eq_false (by omega),cond_false,ai hk]
  rfl
 ·rw [e2,e1]
  rfl
theorem wD {N : Nat} {s : State} (h : Inv N s) (i : Int) : oc s i = some (et s i):=by
 have hcl:=h.cl
 unfold oc
 rw [jb (fun v i => (v,i)) s.Conts (fun c => c.Node == i) (·.Size) (step:=l7 s i) (by omega) (fun c hc _ => ((h.sb.cs c hc).mono (by omega))) ?_ ?_]
 ·rfl
 ·intro k hk v hv
  unfold l7
  dsimp only
  rw [ah hk]
  simp only [ai hk,cond_true,Gp]
  rw [qT hv (h.sb.cs _ (List.getElem_mem hk)) (by omega)]
  cases s.Conts[k].Node == i <;> rfl
 ·intro v
  unfold l7
  dsimp only
  rw [ao]
  rfl
theorem xF {N : Nat} {s : State} (h : Inv N s) (i : Int) : n8 s i = some (pFree s i):=by
 have hnl:=h.nl
 have hcl:=h.cl
 unfold n8 pFree
 rw [ru (by omega)]
 cases hn : cz s i with
 | none => rfl
 | some n =>
  have hc:=(h.nk n (jn (id:=fun x : Node => x.Id) hn).1).1
  simp only [Option.elim_some,Gp,Bool.not_true,cond_false]
  cases hu : n.Up with
  | false => rfl
  | true =>
   simp only [Bool.not_true,cond_false,if_true]
   have hb:=xA h.sb i
   rw [wD h,Gp]
   unfold VB at hc hb
   unfold vless
   rw [aj (by omega) (by omega),aj (by omega) (by omega)]
theorem vv {s : State} (hn : s.Apps.length ≤ 1000) (i : Int) : (∃ k,∃ (hk : k < s.Apps.length),appAt s i = some s.Apps[k] ∧ og s i = some (k : Int)) ∨ (appAt s i = none ∧ og s i = some (-1)):=by
 unfold og appAt
 rcases Bg s.Apps hn (fun a' => rg a'.1 i) (fun x => x.Id == i) (fun k => rfl) with ⟨k,hk,e1,e2⟩ | ⟨e1,e2⟩
 ·exact .inl ⟨k,hk,e1,by rw [e2]; rfl⟩
 ·exact .inr ⟨e1,by rw [e2]; rfl⟩
theorem sH {s : State} (h : Small s) (i : Int) : nX s i = some ((appAt s i).elim (noA,false) fun x => (x,true)):=by
 unfold nX
 rcases vv h.apps i with ⟨k,hk,e1,e2⟩ | ⟨e1,e2⟩
 ·rw [e2,e1]
  simp only [Gp,Option.elim_some]
  rw [decide_eq_false (by omega),cond_false,ai hk,Gp,p_ (h.app _ (List.getElem_mem hk))]
  rfl
 ·rw [e2,e1]
  rfl
theorem Gj {s : State} (hn : s.Apps.length ≤ 1000) (hs : s.Apps.Pairwise fun x y => x.Id < y.Id) {a : App} (hb : ∃ b ∈ s.Apps,b.Id = a.Id) : qq s a = some (pPutA s a):=by
 unfold qq
 rcases vv hn a.Id with ⟨k,hk,e1,e2⟩ | ⟨e1,e2⟩
 ·have hid:=(jn (id:=fun x : App => x.Id) e1).2
  rw [e2,Gp,show decide ((k : Int) ≥ 0) = true from decide_eq_true (by omega),cond_true,ay hk,Gp,Gq hk,Gp,zx (id:=fun x : App => x.Id) hs hk hid]
  rfl
 ·obtain ⟨b,hb,e⟩:=hb
  exact absurd e (l_ (id:=fun x : App => x.Id) e1 b hb)
theorem zi {s : State} (h : Small s) (hs : s.Apps.Pairwise fun x y => x.Id < y.Id) {a : App} (ha : SmallA a) (hb : ∃ b ∈ s.Apps,b.Id = a.Id) : l8 s a = some (pPutA s a):=by
 unfold l8
 rw [wP h,Gp,p_ ha,Gp,Gj h.apps hs hb,Gp]
theorem uf {l : List Ask} (h : l.length ≤ 1000) : oE l = some l:=by
 unfold oE
 rw [AY (by omega) (by omega),Gp,zZ (by simp)]
theorem vt {l : List Ask} (hl : l.length ≤ 1000) (p : Int) : (∃ k,∃ (hk : k < l.length),askAt l p = some l[k] ∧ ox l p = some (k : Int)) ∨ (askAt l p = none ∧ ox l p = some (-1)):=by
 unfold ox askAt
 rcases B3 l hl (fun a' => rh a'.1 p) (fun x => x.Prio == p) (fun k => rfl) with ⟨k,hk,e1,e2⟩ | ⟨e1,e2⟩
 ·exact .inl ⟨k,hk,e1,by rw [e2]; rfl⟩
 ·exact .inr ⟨e1,by rw [e2]; rfl⟩
theorem sr (p : Int) : ∀ {l : List Ask},(∀ x ∈ l,x.Prio ≠ p) → l.filterMap (takeK p) = l
 | [],_ => rfl
 | x :: l,h => by
  rw [List.filterMap_cons,show takeK p x = some x from if_neg (h x (by simp)),sr p (fun y hy => h y (by simp [hy]))]
theorem qn (p : Int) : ∀ {l : List Ask},(∀ x ∈ l,x.Prio ≠ p) → l.map (missK p) = l
 | [],_ => rfl
 | x :: l,h => by
  rw [List.map_cons,show missK p x = x from if_neg (h x (by simp)),qn p (fun y hy => h y (by simp [hy]))]
theorem vu {l : List Ask} (hs : l.Pairwise fun x y => x.Prio < y.Prio) {k : Nat} (hk : k < l.length) : (∀ x ∈ l.take k,x.Prio ≠ l[k].Prio) ∧ ∀ x ∈ l.drop (k + 1),x.Prio ≠ l[k].Prio:=by
 constructor
 ·intro x hx
  obtain ⟨i,hi,rfl⟩:=List.getElem_of_mem hx
  rw [List.length_take] at hi
  rw [List.getElem_take]
  have:=List.pairwise_iff_getElem.1 hs i k (by omega) hk (by omega)
  omega
 ·intro x hx
  obtain ⟨i,hi,rfl⟩:=List.getElem_of_mem hx
  rw [List.length_drop] at hi
  rw [List.getElem_drop]
  have:=List.pairwise_iff_getElem.1 hs k (k + 1 + i) hk (by omega) (by omega)
  omega
theorem xM {α : Type} {l : List α} {k : Nat} (hk : k < l.length) : l = l.take k ++ l[k] :: l.drop (k + 1):=by
 rw [← List.drop_eq_getElem_cons hk,List.take_append_drop]
theorem CJ {l : List Ask} (hs : l.Pairwise fun x y => x.Prio < y.Prio) {k : Nat} (hk : k < l.length) : pTake l l[k].Prio = l.take k ++ ((takeK l[k].Prio l[k]).toList ++ l.drop (k + 1)):=by
 obtain ⟨h1,h2⟩:=vu hs hk
 unfold pTake
 conv => lhs; arg 2; rw [xM hk]
 rw [List.filterMap_append,List.filterMap_cons,sr _ h1,sr _ h2]
 cases takeK l[k].Prio l[k] <;> rfl
theorem Dg {l : List Ask} (hs : l.Pairwise fun x y => x.Prio < y.Prio) {k : Nat} (hk : k < l.length) : pMiss l l[k].Prio = l.take k ++ missK l[k].Prio l[k] :: l.drop (k + 1):=by
 obtain ⟨h1,h2⟩:=vu hs hk
 unfold pMiss
 conv => lhs; arg 2; rw [xM hk]
 rw [List.map_append,List.map_cons,qn _ h1,qn _ h2]
theorem xL {α : Type} {l : List α} {k : Nat} (hk : k < l.length) (a : α) : l.set k a = l.take k ++ a :: l.drop (k + 1):=by
 rw [List.set_eq_take_append_cons_drop,if_pos hk]
theorem Ey {l : List Ask} (hl : l.length ≤ 1000) (hs : l.Pairwise fun x y => x.Prio < y.Prio) (hc : ∀ x ∈ l,0 ≤ x.Count ∧ x.Count ≤ 1000000) (p : Int) : ∃ b,pe l p = some (pTake l p,b):=by
 unfold pe
 rw [uf hl,Gp]
 rcases vt hl p with ⟨k,hk,e1,e2⟩ | ⟨e1,e2⟩
 ·have hp : l[k].Prio = p:=(nR e1).2
  have hcx:=hc _ (List.getElem_mem hk)
  subst hp
  refine ⟨true,?_⟩
  have hk' : ∀ y : Ask,k < (l.set k y).length:=fun y => by rw [List.length_set]; exact hk
  rw [e2,Gp,decide_eq_false (by omega),cond_false,ay hk,Gp,Gq hk,Gp]
  have hs1 : ∀ y : Ask,inb (k : Int) (l.set k y).length = some k:=fun y => ay (hk' y)
  have hs2 : ∀ y : Ask,(l.set k y)[k]? = some y:=fun y => List.getElem?_set_self hk
  simp only [hs1,hs2,List.set_set,Gp]
  rw [aj (x:=l[k].Count - 1) (by omega) (by omega),CJ hs hk]
  unfold takeK
  rw [if_pos rfl]
  by_cases hn : l[k].Count - 1 ≤ 0
  ·rw [decide_eq_true hn,if_pos hn,cond_true]
   unfold o9
   rw [AZ (hk' _) (by rw [List.length_set]; omega)]
   simp only [Gp,Option.toList_none,List.nil_append]
   rw [xL hk]
   congr 2
   have h1 : (l.take k).length = k:=by rw [List.length_take]; omega
   rw [List.take_append_of_le_length (by omega),List.drop_append,List.take_of_length_le (by omega),h1,List.drop_eq_nil_of_le (by omega)]
   simp
  ·rw [decide_eq_false hn,if_neg hn,cond_false]
   simp only [Gp,Option.toList_some,List.singleton_append]
   rw [xL hk]
 ·refine ⟨false,?_⟩
  have : pTake l p = l:=sr p fun x hx => by
   have:=List.find?_eq_none.1 e1 x hx
   simpa using this
  rw [e2,Gp,this]
  rfl
theorem Dx {l : List Ask} (hl : l.length ≤ 1000) (hs : l.Pairwise fun x y => x.Prio < y.Prio) (p : Int) : po l p = some (pMiss l p):=by
 unfold po
 rw [uf hl,Gp]
 rcases vt hl p with ⟨k,hk,e1,e2⟩ | ⟨e1,e2⟩
 ·have hp : l[k].Prio = p:=(nR e1).2
  subst hp
  rw [e2,Gp,show decide ((k : Int) ≥ 0) = true from decide_eq_true (by omega),cond_true]
  simp only [ay hk,Gq hk,Gp]
  rw [Dg hs hk,xL hk]
  unfold missK
  rw [if_pos rfl]
 ·have : pMiss l p = l:=qn p fun x hx => by
   have:=List.find?_eq_none.1 e1 x hx
   simpa using this
  rw [e2,Gp,this]
  rfl
theorem xy {a : App} (h : a.Asks.length ≤ 100000) (prio : Int) : nF a prio = some ((askAt a.Asks prio).elim (noK,false) fun x => (x,true)):=by
 unfold nF
 have e:=cI (fun i => (noK,i)) a.Asks (fun q => q.Prio == prio) (fun q => .inl (q,true)) (.inr noK) (step:=jL a prio) (by omega) ?_ ?_ ?_
 ·unfold noK at e
  rw [e]
  unfold askAt noK
  cases a.Asks.find? fun q => q.Prio == prio <;> rfl
 ·intro k hk hp
  unfold jL
  rw [ah hk,ai hk]
  simp only [cond_true,Gp,hp,cond_false]
 ·intro k hk hp
  unfold jL
  rw [ah hk,ai hk]
  simp only [cond_true,Gp,hp]
 ·unfold jL
  rw [ao]
  rfl
theorem vk (a : Ask) (n : Node) : ko a n = some (km a n):=by
 have h : ko a n = aU a n:=by
  unfold ko aU
  cases n.Up <;> cases (n.Label != a.Label) <;> cases (a.Rack == -1) <;> cases hn : (a.Node == n.Id) <;> cases (a.Node == -1) <;> cases (a.Rack == n.Rack) <;> rfl
 rw [h,mc]
theorem y8 (a : Ask) (n : Node) : iP a n = some (pMay a n):=by
 have h : iP a n = ba a n:=by
  unfold iP ba
  rw [vk,mc]
 rw [h,oW]
theorem ya {x : Ask} {n : Node} (h : km x n ≠ 4) : n.Label = x.Label ∧ n.Up = true:=by
 have e:=mc x n
 unfold aU at e
 cases hu : n.Up with
 | false =>
  rw [hu] at e
  exact absurd (Option.some.inj e).symm h
 | true =>
  rw [hu] at e
  cases hl : (n.Label != x.Label) with
  | true =>
   rw [hl] at e
   exact absurd (Option.some.inj e).symm h
  | false => exact ⟨by simpa using hl,rfl⟩
theorem Cu {x : Ask} {n : Node} (h : pMay x n = true) : km x n ≠ 4:=by
 intro e
 have e2:=oW x n
 unfold ba at e2
 rw [mc,e] at e2
 rw [h] at e2
 exact absurd (Option.some.inj e2) (by decide)
def pDueL (s : State) (lab : Int) (q : Str) (x : Ask) : Bool:=vfits (vplus (pUsed s q lab true 0) x.Size) (pDown s q lab true)
section
variable {N : Nat} {s : State} {n : Node} {F : Vec} {a : App} {x : Ask}
theorem due2 (h : Inv N s) (hn : n ∈ s.Nodes) (hq : a.Queue.length ≤ 1000000) (hx : VB 1073741824 x.Size) : fb ⟨s,n,F⟩ a x = some (pDueL s n.Label a.Queue x):=by
 have hk:=h.nk n hn
 have hcl:=h.cl
 unfold fb pDueL
 dsimp only
 rw [s_ h hq,Gp,qT (qh h.sb a.Queue n.Label true 0) hx (by omega),Gp]
 dsimp only
 rw [show ((0 : Int) == 0) = true from rfl,cond_true,rN h.sc hq hk.2.1 hk.2.2,Gp,nj,Gp]
theorem more2 (h : Inv N s) (hn : n ∈ s.Nodes) (hq : a.Queue.length ≤ 1000000) (hu : 0 ≤ a.User) : d_ ⟨s,n,F⟩ a = some (pMore s a.Queue n.Label a.User):=by
 have hk:=h.nk n hn
 unfold d_ pMore
 dsimp only
 rw [Dh h hq n.Label hu,Gp,DU h.sc hq hk.2.1 hk.2.2,Gp,nj,Gp]
theorem room2 (h : Inv N s) (hn : n ∈ s.Nodes) (hq : a.Queue.length ≤ 1000000) (hx : VB 1073741824 x.Size) : eo ⟨s,n,F⟩ a x = some (pRoom s a.Queue n.Label x.Size):=by
 have hk:=h.nk n hn
 unfold eo
 dsimp only
 rw [En h hq hk.2.1 hk.2.2 hx,Gp]
theorem Be : c9 ⟨s,n,F⟩ x = some ((km x n != 4) && vfits x.Size n.Cap):=by
 unfold c9
 dsimp only
 rw [vk,Gp,nj]
 cases (km x n != 4) <;> rfl
theorem fits2 : eB ⟨s,n,F⟩ x = some (vfits x.Size F):=by
 unfold eB
 dsimp only
 rw [nj,Gp]
theorem miss2 (hN : N ≤ 1000000) (h : Inv N s) (ha : a ∈ s.Apps) (p : Int) : iu ⟨s,n,F⟩ a p = some (ib a p,⟨pPutA s (ib a p),n,F⟩):=by
 have hak:=h.ak a ha
 have hsa:=(h.small hN).app a ha
 unfold iu
 dsimp only
 rw [Dx (by have:=hak.al; omega) hak.ap,Gp]
 have e:=zi (h.small hN) h.asr (a:=ib a p) ⟨by show (a.Asks.map _).length ≤ _; rw [List.length_map]; exact hsa.asks,hsa.grants,hsa.kills,hsa.told,hsa.lost⟩ ⟨a,ha,rfl⟩
 show ((l8 s (ib a p)).bind _) = _
 rw [e]
 rfl
theorem A3 (hN : N + 1 ≤ 1000000) (h : Inv N s) (ha : a ∈ s.Apps) (hl : x.Label = n.Label) : bV ⟨s,n,F⟩ a x = some (gCont s n a x,⟨ic s n a x,n,F⟩):=by
 have hak:=h.ak a ha
 have hsm:=h.small (by omega)
 have hsa:=hsm.app a ha
 have hsq:=h.sq
 have hcl:=h.cl
 unfold bV
 dsimp only
 obtain ⟨b,eb⟩:=Ey (l:=a.Asks) (by have:=hak.al; omega) hak.ap (fun y hy => by have:=(hak.ask y hy).count; omega) x.Prio
 rw [eb,Gp]
 have e1 : (bif a.State == 1 then some (⟨a.Id,2,a.Queue,a.User,a.Prio,⟨a.Master.Mem,a.Master.Cores⟩,[],s.Now,0,a.Grants,a.Kills,a.Told,a.Lost⟩ : App)
  else (app 8 a.Grants [w64 ((shlK .i64 s.Epoch 20) + (w64 (s.Seq + 1)))]).bind fun l =>
   some (⟨a.Id,a.State,a.Queue,a.User,a.Prio,⟨a.Master.Mem,a.Master.Cores⟩,(pTake a.Asks x.Prio,b).1,a.Seen,a.Beat,l,a.Kills,a.Told,a.Lost⟩ : App)) = some (gApp s a x):=by
  unfold gApp
  by_cases hs : a.State = 1
  ·rw [if_pos hs,show (a.State == 1) = true by simpa using hs]; rfl
  ·rw [if_neg hs,show (a.State == 1) = false by simpa using hs,cond_false,am (by have:=hak.gr; simp; omega) (by omega),Gp]
   rfl
 rw [e1,Gp]
 have hgid : (gApp s a x).Id = a.Id:=by unfold gApp; split <;> rfl
 have hgs : SmallA (gApp s a x):=by
  have ht:=(zO hak.ask x.Prio).1
  have h1:=hak.al
  have h2:=hak.gr
  unfold gApp
  split
  ·exact ⟨by simp,hsa.grants,hsa.kills,hsa.told,hsa.lost⟩
  ·exact ⟨by dsimp only; omega,by simp; omega,hsa.kills,hsa.told,hsa.lost⟩
 have e2 : l8 (⟨⟨s.Conf.Labels,s.Conf.Queues⟩,s.Nodes,s.Apps,s.Conts,s.Slots,s.Plans,s.Now,s.Epoch,w64 (s.Seq + 1)⟩ : State) (gApp s a x) = some (pPutA ⟨s.Conf,s.Nodes,s.Apps,s.Conts,s.Slots,s.Plans,s.Now,s.Epoch,s.Seq + 1⟩ (gApp s a x)):=by
  rw [aj (x:=s.Seq + 1) (by omega) (by omega)]
  have hs2 : Small ⟨s.Conf,s.Nodes,s.Apps,s.Conts,s.Slots,s.Plans,s.Now,s.Epoch,s.Seq + 1⟩:=⟨hsm.labels,hsm.queues,hsm.caps,hsm.nodes,hsm.apps,hsm.app,hsm.conts,hsm.slots,hsm.plans⟩
  exact zi (s:=⟨s.Conf,s.Nodes,s.Apps,s.Conts,s.Slots,s.Plans,s.Now,s.Epoch,s.Seq + 1⟩) hs2 h.asr hgs ⟨a,ha,hgid.symm⟩
 rw [e2,Gp]
 have e3:=gE s.Conts (fun y => decide (y.Id < (gCont s n a x).Id)) (step:=dN ⟨s,n,F⟩ (pPutA ⟨s.Conf,s.Nodes,s.Apps,s.Conts,s.Slots,s.Plans,s.Now,s.Epoch,s.Seq + 1⟩ (gApp s a x))) (by omega) ?_ ?_
 ·rw [e3,Gp,hl]
  have e4 : lZ s.Conts ((s.Conts.takeWhile fun y => decide (y.Id < (gCont s n a x).Id)).length : Int) [gCont s n a x] = some (insG (fun c : Cont => c.Id) s.Conts (gCont s n a x)):=zW (id:=fun c : Cont => c.Id) (by omega) (gCont s n a x)
  show ((lZ s.Conts ((s.Conts.takeWhile fun y => decide (y.Id < (gCont s n a x).Id)).length : Int) [gCont s n a x]).bind _) = _
  rw [e4]
  rfl
 ·intro k hk
  unfold dN pPutA
  dsimp only
  rw [ah hk,ay hk]
  simp only [cond_true,Gp,Gq hk]
  show ((bif decide (s.Conts[k].Id < cid s) then _ else _) : Option _) = some (if decide (s.Conts[k].Id < cid s) = true then _ else _)
  cases decide (s.Conts[k].Id < cid s) <;> rfl
 ·unfold dN pPutA
  dsimp only
  rw [ao]
  rfl
theorem hold2 (h : Inv N s) (i p : Int) : iG ⟨s,n,F⟩ i p = some (bif pKeeps s i p then (false,⟨s,n,F⟩) else (true,⟨pHold s ⟨n.Id,i,p⟩,n,F⟩)):=by
 have hsl:=h.sl
 unfold iG pKeeps
 dsimp only
 rw [Eb s.Slots (by omega) _ (fun x => x.App == i && x.Prio == p) (fun k => by unfold jJ; cases k.App == i <;> rfl),Gp]
 cases (s.Slots.find? fun x => x.App == i && x.Prio == p).isSome with
 | true => rfl
 | false =>
  have e3:=gE s.Slots (fun y => decide (y.Node < n.Id)) (step:=eM ⟨s,n,F⟩) (by omega) ?_ ?_
  ·simp only [cond_false]
   rw [e3,Gp]
   have e4 : nY s.Slots ((s.Slots.takeWhile fun y => decide (y.Node < n.Id)).length : Int) [⟨n.Id,i,p⟩] = some (insG (fun c : Slot => c.Node) s.Slots ⟨n.Id,i,p⟩):=zW (id:=fun c : Slot => c.Node) (by omega) (⟨n.Id,i,p⟩ : Slot)
   rw [e4]
   rfl
  ·intro k hk
   unfold eM
   dsimp only
   rw [ah hk,ay hk]
   simp only [cond_true,Gp,Gq hk]
   cases decide (s.Slots[k].Node < n.Id) <;> rfl
  ·unfold eM
   dsimp only
   rw [ao]
   rfl
end
structure OneF (s : State) (r : State × Int × Cont) : Prop where
 g : r.2.1 = 1 → r.1.Seq = s.Seq + 1 ∧ r.2.2.Id = cid s
 o : r.2.1 ≠ 1 → r.1.Seq = s.Seq
 e : r.1.Epoch = s.Epoch
 n : r.1.Nodes = s.Nodes
theorem A_ {N : Nat} {s : State} (h : Inv N s) {n : Node} {F : Vec} (hx : nV s n.Id = none) : bG ⟨s,n,F⟩ = some (0,noC,false,⟨s,n,F⟩):=by
 have hsl:=h.sl
 unfold bG
 dsimp only
 rcases qH s.Slots (by omega) (fun a' => fF a'.1 ⟨s,n,F⟩) (fun y => y.Node == n.Id) (fun k => rfl) with ⟨k,hk,e1,e2⟩ | ⟨e1,e2⟩
 ·exact absurd (hx.symm.trans e1) (by simp)
 ·rw [e2]
  rfl
theorem C0 {N : Nat} (hN : N + 1 ≤ 1000000) {s : State} (h : Inv N s) {n : Node} (hn : n ∈ s.Nodes) {x : Slot} (hx : nV s n.Id = some x) {F : Vec} (hF : F = pFree s n.Id) :
  ∃ r,bo s n x = some r ∧ bG ⟨s,n,F⟩ = some (r.2.1,r.2.2.1,r.2.2.2,⟨r.1,n,F⟩) ∧ (r.2.2.2 = false → r.1 = pNoSlot s n.Id) ∧ (r.2.2.2 = true → OneF s (r.1,r.2.1,r.2.2.1)):=by
 have hsl:=h.sl
 have hsm:=h.small (by omega)
 obtain ⟨hxm,hxn⟩:=jn (id:=fun y : Slot => y.Node) hx
 rcases qH s.Slots (by omega) (fun a' => fF a'.1 ⟨s,n,F⟩) (fun y => y.Node == n.Id) (fun k => rfl) with ⟨k,hk,e1,e2⟩ | ⟨e1,e2⟩
 rotate_left
 ·exact absurd (hx.symm.trans e1) (by simp)
 have hxk : s.Slots[k] = x:=Option.some.inj (e1.symm.trans hx)
 have hdel : lS s.Slots (k : Int) (w64 ((k : Int) + 1)) = some (s.Slots.filter fun x => x.Node != n.Id):=by
  unfold lS
  rw [AZ hk (by omega),← A1 (id:=fun y : Slot => y.Node) h.ss hk,hxk,hxn]
 have gone : ∀ c : Cont,∃ r,some (pNoSlot s n.Id,(0 : Int),c,false) = some r ∧ some ((0 : Int),c,false,(⟨pNoSlot s n.Id,n,F⟩ : Attempt)) = some (r.2.1,r.2.2.1,r.2.2.2,(⟨r.1,n,F⟩ : Attempt)) ∧ (r.2.2.2 = false → r.1 = pNoSlot s n.Id) ∧ (r.2.2.2 = true → OneF s (r.1,r.2.1,r.2.2.1)) :=
  fun c => ⟨_,rfl,rfl,fun _ => rfl,fun e => by cases e⟩
 unfold bG bo
 dsimp only
 rw [e2,Gp,decide_eq_false (by omega),cond_false,ay hk,Gp,Gq hk,Gp,hxk,sH hsm,Gp,aT h.z,Gp,jS h.z,hdel]
 cases ha0 : appAt s x.App with
 | none =>
  simp only [Option.elim_none]
  rw [xy (by simp [noA]),qg (by simp [noA])]
  exact gone _
 | some a =>
  obtain ⟨ha,_⟩:=nJ ha0
  have hak:=h.ak a ha
  simp only [Option.elim_some]
  rw [xy (by have:=hak.al; omega),qg (by have:=hak.al; omega)]
  simp only [zR,hU,Gp,cond_true,Bool.not_true,cond_false]
  cases pLive a with
  | false => exact gone _
  | true =>
   cases hq : askAt a.Asks x.Prio with
   | none => exact gone _
   | some q =>
    have hqk:=hak.ask q (nR hq).1
    simp only [Option.elim_some,cond_true,Bool.not_true,cond_false,Gp,y8,oW]
    cases hm : pMay q n with
    | false => exact gone _
    | true =>
     have hlv:=Cu hm
     have hlab:=(ya hlv).1
     simp only [cond_true,Bool.not_true,cond_false,Be,ce,Gp]
     rw [show (km q n != 4) = true by simpa using hlv,Bool.true_and]
     cases vfits q.Size n.Cap with
     | false => exact gone _
     | true =>
      have d1:=due2 (F:=F) h hn (h.leafLen ha) hqk.size.vb
      rw [show pDueL s n.Label a.Queue q = pDue s a.Queue q by unfold pDueL pDue; rw [hlab]] at d1
      simp only [cond_true,Bool.not_true,cond_false,d1,ri h.sc (h.leafLen ha) hqk.size.vb,Gp]
      cases pDue s a.Queue q with
      | false => exact gone _
      | true =>
       simp only [cond_true,Bool.not_true,cond_false,more2 (F:=F) h hn (h.leafLen ha) hak.user.1,m8 h.sc (h.leafLen ha),Gp]
       cases pMore s a.Queue n.Label a.User with
       | false => exact gone _
       | true =>
        have wait : ∃ r,some (s,(3 : Int),noC,true) = some r ∧ some ((3 : Int),noC,true,(⟨s,n,F⟩ : Attempt)) = some (r.2.1,r.2.2.1,r.2.2.2,(⟨r.1,n,F⟩ : Attempt)) ∧ (r.2.2.2 = false → r.1 = pNoSlot s n.Id) ∧ (r.2.2.2 = true → OneF s (r.1,r.2.1,r.2.2.1)) :=
         ⟨_,rfl,rfl,fun e => (by cases e),fun _ => ⟨fun e => (by cases e),fun _ => rfl,rfl,rfl⟩⟩
        simp only [cond_true,Bool.not_true,cond_false,fits2,oy h.sb,ce,Gp,← hF]
        cases vfits q.Size F with
        | false => exact wait
        | true =>
         simp only [cond_true,Bool.not_true,cond_false,room2 (F:=F) h hn (h.leafLen ha) hqk.size.vb,ol h.sc (h.leafLen ha) n.Label hqk.size.vb,Gp]
         cases pRoom s a.Queue n.Label q.Size with
         | false => exact wait
         | true =>
          have hno:=h.noSlot n.Id
          have eg:=A3 (F:=F) hN hno (n:=n) (a:=a) ha hlab.symm
          have er:=oG hno.z hno.sq n (a:=a) (by have:=hak.al; omega) (fun y hy => by have:=(hak.ask y hy).count; omega) (by have:=hak.gr; omega) q
          simp only [cond_true,Bool.not_true,cond_false,Gp,er]
          refine ⟨_,rfl,?_,fun e => (by cases e),fun _ => ⟨fun _ => ⟨rfl,rfl⟩,fun e => absurd rfl e,rfl,rfl⟩⟩
          show ((bV ⟨pNoSlot s n.Id,n,F⟩ a q).bind _) = _
          rw [eg]
          rfl
abbrev mayF : TupT fam [.st 5,.st 4] → Option Bool:=fun a' => iP a'.1 a'.2.1
def pSkip (s : State) (n : Node) (a : App) (x : Ask) (first : Bool) : Bool:=(km x n == 4) || (!(vfits x.Size n.Cap) || (first && !(pDue s a.Queue x)))
def pAsk (s : State) (n : Node) (a : App) (x : Ask) (first : Bool) : State × Int × Cont :=
 bif pSkip s n a x first then (s,0,noC) else
 bif !(pMay x n) then (bif first == pDue s a.Queue x then (pPutA s (ib a x.Prio),0,noC) else (s,0,noC)) else
 bif !(pRoom s a.Queue n.Label x.Size) then (s,0,noC) else
 bif vfits x.Size (pFree s n.Id) then (ic s n a x,1,gCont s n a x) else
 bif first && !(pKeeps s a.Id x.Prio) then (pHold s ⟨n.Id,a.Id,x.Prio⟩,2,noC) else (s,0,noC)
def pAskA (s : State) (n : Node) (a : App) (x : Ask) (first : Bool) : App :=
 bif pSkip s n a x first then a else bif !(pMay x n) then (bif first == pDue s a.Queue x then ib a x.Prio else a) else a
theorem wv {N : Nat} {s : State} (h : Inv N s) (hN : N ≤ 1000000) (n : Node) {a : App} (ha : a ∈ s.Apps) {x : Ask} (hx : AskOk s.Conf x) (first : Bool) : bE s n a x first = some (pAsk s n a x first):=by
 have hsc:=h.sc
 have hak:=h.ak a ha
 have e1:=ri hsc (h.leafLen ha) hx.size.vb
 have e2:=ol hsc (h.leafLen ha) n.Label hx.size.vb
 have e3:=zJ (l:=a.Asks) (by have:=hak.al; omega) x.Prio
 have e4:=oG h.z h.sq n (a:=a) (by have:=hak.al; omega) (fun y hy => by have:=(hak.ask y hy).count; omega) (by have:=hak.gr; omega) x
 unfold bE pAsk pSkip
 simp only [e1,e2,e3,e4,mc,oW,ce,oy h.sb,xb h.z,z3 h.z,my h.z,Gp]
 cases (km x n == 4)
 rotate_left
 ·rfl
 cases vfits x.Size n.Cap
 ·rfl
 generalize pDue s a.Queue x = d
 cases pMay x n
 ·cases first <;> cases d <;> rfl
 ·generalize pRoom s a.Queue n.Label x.Size = r
  generalize vfits x.Size (pFree s n.Id) = f
  generalize pKeeps s a.Id x.Prio = k
  cases first <;> cases d <;> cases r <;> cases f <;> cases k <;> rfl
theorem Do {N : Nat} (hN : N + 1 ≤ 1000000) {s : State} (h : Inv N s) {n : Node} (hn : n ∈ s.Nodes) {a : App} (ha : a ∈ s.Apps) {l : List Ask} {k : Nat} (hk : k < l.length) (hx : AskOk s.Conf l[k]) (first : Bool) (c0 : Cont) {F : Vec} (hF : F = pFree s n.Id) :
  bv first mayF a.Id l (⟨s,n,F⟩,c0,a,(k : Int)) = some (bif (pAsk s n a l[k] first).2.1 == 0 then .inl (⟨(pAsk s n a l[k] first).1,n,F⟩,c0,pAskA s n a l[k] first,w64 ((k : Int) + 1))
   else .inr (.inl (⟨(pAsk s n a l[k] first).1,n,F⟩,(pAsk s n a l[k] first).2.1,(pAsk s n a l[k] first).2.2))):=by
 subst hF
 unfold bv
 dsimp only
 rw [ah hk,cond_true,ay hk,Gp,Gq hk,Gp]
 generalize l[k] = x at hx ⊢
 rw [due2 h hn (h.leafLen ha) hx.size.vb,Gp,Be,Gp]
 unfold pAsk pAskA pSkip
 by_cases hlv : km x n = 4
 ·rw [hlv]
  rfl
 have hlab:=(ya hlv).1
 rw [show (km x n == 4) = false by simpa using hlv,show (km x n != 4) = true by simpa using hlv,show pDueL s n.Label a.Queue x = pDue s a.Queue x by unfold pDueL pDue; rw [hlab]]
 cases vfits x.Size n.Cap
 ·rfl
 have em : iP x n = some (pMay x n):=y8 x n
 have e2:=room2 (F:=pFree s n.Id) h hn (h.leafLen ha) hx.size.vb
 have e3:=miss2 (n:=n) (F:=pFree s n.Id) (by omega : N ≤ 1000000) h ha x.Prio
 have e4:=A3 (F:=pFree s n.Id) hN h ha hlab.symm
 have e5:=hold2 (n:=n) (F:=pFree s n.Id) h a.Id x.Prio
 simp only [em,e2,e3,e4,e5,fits2,Gp]
 generalize pDue s a.Queue x = d
 cases pMay x n
 ·cases first <;> cases d <;> rfl
 ·generalize pRoom s a.Queue n.Label x.Size = r
  generalize vfits x.Size (pFree s n.Id) = f
  generalize pKeeps s a.Id x.Prio = k
  cases first <;> cases d <;> cases r <;> cases f <;> cases k <;> rfl
section
variable {N : Nat} {s t : State}
theorem Keep.free (k : Keep s t) (i : Int) : pFree t i = pFree s i:=by
 unfold pFree cz et
 rw [k.nd,k.cs]
theorem Keep.cidE (k : Keep s t) : cid t = cid s:=by
 unfold cid
 rw [k.ep,k.sq]
theorem OneF.keep (k : Keep s t) {r : State × Int × Cont} (h : OneF t r) : OneF s r :=
 ⟨fun e => ⟨(h.g e).1.trans (by rw [k.sq]),(h.g e).2.trans k.cidE⟩,fun e => (h.o e).trans k.sq,h.e.trans k.ep,h.n.trans k.nd⟩
theorem ud (s : State) (n : Node) (a : App) (x : Ask) (first : Bool) : (pAsk s n a x first = (s,0,noC) ∧ pAskA s n a x first = a) ∨ (pAsk s n a x first = (pPutA s (ib a x.Prio),0,noC) ∧ pAskA s n a x first = ib a x.Prio) ∨
  pAsk s n a x first = (ic s n a x,1,gCont s n a x) ∨ pAsk s n a x first = (pHold s ⟨n.Id,a.Id,x.Prio⟩,2,noC):=by
 unfold pAsk pAskA
 cases pSkip s n a x first
 rotate_left
 ·exact .inl ⟨rfl,rfl⟩
 cases pMay x n
 ·cases first == pDue s a.Queue x
  ·exact .inl ⟨rfl,rfl⟩
  ·exact .inr (.inl ⟨rfl,rfl⟩)
 cases pRoom s a.Queue n.Label x.Size
 ·exact .inl ⟨rfl,rfl⟩
 cases vfits x.Size (pFree s n.Id)
 rotate_left
 ·exact .inr (.inr (.inl rfl))
 cases first && !(pKeeps s a.Id x.Prio)
 ·exact .inl ⟨rfl,rfl⟩
 ·exact .inr (.inr (.inr rfl))
theorem F4 (s : State) (n : Node) (a : App) (x : Ask) (first : Bool) : OneF s (pAsk s n a x first):=by
 rcases ud s n a x first with ⟨e,_⟩ | ⟨e,_⟩ | e | e <;> rw [e]
 ·exact ⟨fun e => (by cases e),fun _ => rfl,rfl,rfl⟩
 ·exact ⟨fun e => (by cases e),fun _ => rfl,rfl,rfl⟩
 ·exact ⟨fun _ => ⟨rfl,rfl⟩,fun e => absurd rfl e,rfl,rfl⟩
 ·exact ⟨fun e => (by cases e),fun _ => rfl,rfl,rfl⟩
theorem DH (h : Inv N s) {n : Node} {a : App} (ha : a ∈ s.Apps) {x : Ask} {first : Bool} (hz : (pAsk s n a x first).2.1 = 0) : pAskA s n a x first ∈ (pAsk s n a x first).1.Apps ∧ (pAskA s n a x first).Id = a.Id:=by
 rcases ud s n a x first with ⟨e,e'⟩ | ⟨e,e'⟩ | e | e
 ·rw [e,e']; exact ⟨ha,rfl⟩
 ·rw [e,e']; exact ⟨(aQ h.asr).2 (.inl rfl),rfl⟩
 ·rw [e] at hz; cases hz
 ·rw [e] at hz; cases hz
def Q2 (N : Nat) (s : State) (n : Node) (F : Vec) {ρ : Type} (stop : Attempt × Int × Cont → ρ) (on : Attempt × Cont → ρ) (r : ρ) (r' : (State × Int × Cont) ⊕ (State × State × Cont)) : Prop :=
 (∃ s1 kd c,r = stop (⟨s1,n,F⟩,kd,c) ∧ r' = .inl (s1,kd,c) ∧ kd ≠ 0 ∧ OneF s (s1,kd,c)) ∨ (∃ s1 c y c',r = on (⟨s1,n,F⟩,c) ∧ r' = .inr (s1,y,c') ∧ RI N n s s1)
theorem CF (hN : N + 1 ≤ 1000000) {n : Node} (hn : n ∈ s.Nodes) (hup : n.Up = true) (hfree : ∀ y ∈ s.Slots,y.Node ≠ n.Id) (hc : s.Conts.length < 200) (hq : s.Seq < 1048575) (first : Bool) {ids : List Int} {k : Nat} (hk : k < ids.length) {F : Vec} (hF : F = pFree s n.Id)
  {a0 : App} (ha0 : a0 ∈ s.Apps) (hid : a0.Id = ids[k]) (hl : pLive a0 = true) {u : State} (hu : RI N n s u) {a : App} (ha : a ∈ u.Apps) (hai : a.Id = a0.Id) (y : State) (c c' : Cont) :
  G2 (loop (bv first mayF ids[k] a.Asks) (⟨u,n,F⟩,c,a,0)) (loop (aA n first ids (u,y,c',(k : Int)) (a,true)) (u,y,c',0)) (Q2 N s n F .inl .inr):=by
 have hak:=hu.i.ak a ha
 refine wi (fun (p : Attempt × Cont × App) i => (p.1,p.2.1,p.2.2,i)) (fun (p : State × State × Cont) i => (p.1,p.2.1,p.2.2,i)) a.Asks.length
  (fun _ p p' => p.1 = ⟨p'.1,n,F⟩ ∧ RI N n s p'.1 ∧ p.2.2 ∈ p'.1.Apps ∧ p.2.2.Id = a0.Id) (step:=bv first mayF ids[k] a.Asks) (step':=aA n first ids (u,y,c',(k : Int)) (a,true)) (by have:=hak.al; omega) ?_ ?_ (s:=(⟨u,n,F⟩,c,a)) (s':=(u,y,c')) ⟨rfl,hu,ha,hai⟩
 ·rintro j hj ⟨p,d,b⟩ ⟨p',y',d'⟩ ⟨rfl,hp,hb,hbi⟩
  dsimp only at hp hb hbi ⊢
  obtain ⟨b0,hb0,f1,f2,f3,f4⟩:=hp.k.ap a0 ha0
  have hbb:=hp.i.uniqA hb hb0 (hbi.trans f1.symm)
  subst hbb
  have hlb : pLive b = true:=by unfold pLive at hl ⊢; rw [f2]; exact hl
  have hask : AskOk p'.Conf a.Asks[j]:=by rw [hp.k.cf,← hu.k.cf]; exact hak.ask _ (List.getElem_mem hj)
  have hn' : n ∈ p'.Nodes:=by rw [hp.k.nd]; exact hn
  have e1:=Do hN hp.i hn' hb (l:=a.Asks) hj hask first d (F:=F) (by rw [hF,hp.k.free])
  rw [hbi,hid] at e1
  have e2:=wv hp.i (by omega) n hb hask first
  obtain ⟨r0,er0,hr0⟩:=wB hp.i (by omega) hn' hup (by rw [hp.k.sl]; exact hfree) hb hlb hask (by rw [hp.k.cs]; exact hc) (by rw [hp.k.sq]; exact hq) first
  rw [e2] at er0
  cases er0
  rw [e1]
  unfold aA
  dsimp only
  rw [ah hj,cond_true,ay hk,Gp,Gq hk,Gp,aT hp.i.z,← hid,← hbi,hp.i.appAt hb,Gp,ai hj,Gp]
  simp only [Option.elim_some]
  rw [e2,Gp]
  by_cases hz : (pAsk p' n b a.Asks[j] first).2.1 = 0
  ·rw [show ((pAsk p' n b a.Asks[j] first).2.1 == 0) = true by simpa using hz,show ((pAsk p' n b a.Asks[j] first).2.1 != 0) = false by simpa using hz,cond_true,cond_false]
   obtain ⟨q1,q2⟩:=hr0.1 hz
   obtain ⟨g1,g2⟩:=DH hp.i (n:=n) hb hz
   exact bg (.inl ⟨(⟨_,n,F⟩,d,_),(_,y',d'),rfl,rfl,rfl,⟨q1,hp.k.trans q2⟩,g1,g2⟩)
  ·rw [show ((pAsk p' n b a.Asks[j] first).2.1 == 0) = false by simpa using hz,show ((pAsk p' n b a.Asks[j] first).2.1 != 0) = true by simpa using hz,cond_true,cond_false]
   exact bg (.inr ⟨_,_,rfl,rfl,.inl ⟨_,_,_,rfl,rfl,hz,(F4 p' n b a.Asks[j] first).keep hp.k⟩⟩)
 ·rintro ⟨p,d,b⟩ ⟨p',y',d'⟩ ⟨rfl,hp,hb,hbi⟩
  unfold bv aA
  dsimp only
  rw [ao,cond_false]
  exact bg ⟨_,_,rfl,rfl,.inr ⟨p',d,y',d',rfl,rfl,hp⟩⟩
theorem yp {l : List Ask} (h : l.length ≤ 1000000) : na l = some l:=by
 unfold na
 exact ku h (by omega)
theorem BR (hN : N + 1 ≤ 1000000) {n : Node} (hn : n ∈ s.Nodes) (hup : n.Up = true) (hfree : ∀ y ∈ s.Slots,y.Node ≠ n.Id) (hc : s.Conts.length < 200) (hq : s.Seq < 1048575) (first : Bool) {leaves : List Str} {k : Nat} (hk : k < leaves.length) {F : Vec} (hF : F = pFree s n.Id)
  {ids : List Int} (hil : ids.length ≤ 100000) (hids : ∀ i ∈ ids,∃ a ∈ s.Apps,a.Id = i ∧ pLive a = true ∧ a.Queue = leaves[k]) (y : State) (c c' : Cont) (h : Inv N s) :
  G2 (loop (bZ first mayF ids) (⟨s,n,F⟩,c,0)) (loop (aB n first leaves (s,y,c',(k : Int)) ids) (s,y,c',0)) (Q2 N s n F .inl fun q => .inr (.inr q)):=by
 refine wi (fun (p : Attempt × Cont) i => (p.1,p.2,i)) (fun (p : State × State × Cont) i => (p.1,p.2.1,p.2.2,i)) ids.length
  (fun _ p p' => p.1 = ⟨p'.1,n,F⟩ ∧ RI N n s p'.1) (step:=bZ first mayF ids) (step':=aB n first leaves (s,y,c',(k : Int)) ids) (by omega) ?_ ?_ (s:=(⟨s,n,F⟩,c)) (s':=(s,y,c')) ⟨rfl,h,.refl s⟩
 ·rintro j hj ⟨p,d⟩ ⟨p',y',d'⟩ ⟨rfl,hp⟩
  dsimp only at hp ⊢
  obtain ⟨a0,ha0,hid,hl,hqu⟩:=hids _ (List.getElem_mem hj)
  obtain ⟨b,hb,f1,f2,f3,f4⟩:=hp.k.ap a0 ha0
  have hbk:=hp.i.ak b hb
  have hn' : n ∈ p'.Nodes:=by rw [hp.k.nd]; exact hn
  have hbq : b.Queue = leaves[k]:=f3.trans hqu
  unfold bZ aB
  dsimp only
  rw [ah hj,cond_true,cond_true]
  refine oq (P:=fun r r' => (∃ q q' : _,r = .inl q ∧ r' = .inl q' ∧ q.1 = ⟨q'.1,n,F⟩ ∧ RI N n s q'.1) ∨ (∃ s1 kd e,r = .inr (.inl (⟨s1,n,F⟩,kd,e)) ∧ r' = .inr (s1,kd,e) ∧ kd ≠ 0 ∧ OneF s (s1,kd,e))) ?_ ?_
  ·rw [ay hj,Gp,Gp,Gq hj,Gp,Gp,sH (hp.i.small (by omega)),aT hp.i.z,← hid,← f1,hp.i.appAt hb,Gp,Gp,ay hk,Gp,Gq hk,Gp]
   simp only [Option.elim_some,Bool.not_true,cond_false]
   rw [more2 hp.i hn' (hp.i.leafLen hb) hbk.user.1,← hbq,m8 hp.i.sc (hp.i.leafLen hb),Gp,Gp]
   refine p7 rfl (fun _ => bg (.inl ⟨_,_,rfl,rfl,rfl,hp⟩)) fun _ => ?_
   rw [yp (by have:=hbk.al; omega),Gp,f1,hid]
   refine oq (CF hN hn hup hfree hc hq first hj hF ha0 hid hl hp hb f1 y' d d') ?_
   rintro r r' (⟨s1,kd,e,rfl,rfl,hz,ho⟩ | ⟨s1,e,y2,e',rfl,rfl,hri⟩)
   ·exact bg (.inr ⟨s1,kd,e,rfl,rfl,hz,ho⟩)
   ·exact bg (.inl ⟨(⟨s1,n,F⟩,e),(s1,y2,e'),rfl,rfl,rfl,hri⟩)
  ·rintro r r' (⟨q,q',rfl,rfl,hq1,hq2⟩ | ⟨s1,kd,e,rfl,rfl,hz,ho⟩)
   ·exact bg (.inl ⟨q,q',rfl,rfl,hq1,hq2⟩)
   ·exact bg (.inr ⟨_,_,rfl,rfl,.inl ⟨s1,kd,e,rfl,rfl,hz,ho⟩⟩)
 ·rintro ⟨p,d⟩ ⟨p',y',d'⟩ ⟨rfl,hp⟩
  unfold bZ aB
  dsimp only
  rw [ao,cond_false,cond_false]
  exact bg ⟨_,_,rfl,rfl,.inr ⟨p',d,y',d',rfl,rfl,hp⟩⟩
theorem RI.trans {n : Node} {u : State} (h : Keep s t) (k : RI N n t u) : RI N n s u:=⟨k.i,h.trans k.k⟩
theorem ve (hN : N + 1 ≤ 1000000) (h : Inv N s) {n : Node} (hn : n ∈ s.Nodes) (hup : n.Up = true) (hfree : ∀ y ∈ s.Slots,y.Node ≠ n.Id) (hc : s.Conts.length < 200) (hq : s.Seq < 1048575) (first : Bool) {F : Vec} (hF : F = pFree s n.Id) :
  G2 (da ⟨s,n,F⟩ (bB s n.Label) first mayF) (aH s n first) fun r r' => r = (r'.2.1,r'.2.2,⟨r'.1,n,F⟩) ∧ (r'.2.1 = 0 → RI N n s r'.1) ∧ (r'.2.1 ≠ 0 → OneF s r'):=by
 unfold da aH
 rw [pA h.sc,Gp]
 have hll:=qD h.sc n.Label
 refine oq (P:=Q2 N s n F .inl .inr) ?_ ?_
 ·refine wi (fun (p : Attempt × Cont) i => (p.1,p.2,i)) (fun (p : State × State × Cont) i => (p.1,p.2.1,p.2.2,i)) (bB s n.Label).length
   (fun _ p p' => p.1 = ⟨p'.1,n,F⟩ ∧ RI N n s p'.1) (step:=dY (bB s n.Label) first mayF) (step':=aI n first (bB s n.Label)) (by omega) ?_ ?_
   (s:=(⟨s,n,F⟩,noC)) (s':=(s,(⟨⟨[],[]⟩,[],[],[],[],[],0,0,0⟩ : State),noC)) ⟨rfl,h,.refl s⟩
  ·rintro j hj ⟨p,d⟩ ⟨p',y',d'⟩ ⟨rfl,hp⟩
   dsimp only at hp ⊢
   unfold dY aI
   dsimp only
   rw [ah hj,cond_true,cond_true,ay hj,Gp,Gq hj,Gp,sf hp.i.z,ai hj,Gp,Gp,CZ hp.i,Gp]
   have hn' : n ∈ p'.Nodes:=by rw [hp.k.nd]; exact hn
   have hs:=BR (s:=p') hN hn' hup (by rw [hp.k.sl]; exact hfree) (by rw [hp.k.cs]; exact hc) (by rw [hp.k.sq]; exact hq) first hj (F:=F) (by rw [hF,hp.k.free]) (ids:=pApps p' (bB s n.Label)[j]) (by have:=sX (s:=p') (bB s n.Label)[j]; have:=hp.i.al; omega) (fun i hi => sZ hi) y' d d' hp.i
   obtain ⟨r,r',e,e',hr⟩:=hs
   rw [e,e',Gp,Gp]
   rcases hr with ⟨s1,kd,c,rfl,rfl,hz,ho⟩ | ⟨s1,c,y2,c2,rfl,rfl,hri⟩
   ·exact bg (.inr ⟨_,_,rfl,rfl,.inl ⟨s1,kd,c,rfl,rfl,hz,ho.keep hp.k⟩⟩)
   ·exact bg (.inl ⟨(⟨s1,n,F⟩,c),(s1,y2,c2),rfl,rfl,rfl,RI.trans hp.k hri⟩)
  ·rintro ⟨p,d⟩ ⟨p',y',d'⟩ ⟨rfl,hp⟩
   unfold dY aI
   dsimp only
   rw [ao,cond_false,cond_false]
   exact bg ⟨_,_,rfl,rfl,.inr ⟨p',d,y',d',rfl,rfl,hp⟩⟩
 ·rintro r r' (⟨s1,kd,c,rfl,rfl,hz,ho⟩ | ⟨s1,c,y2,c2,rfl,rfl,hri⟩)
  ·exact bg ⟨rfl,fun e => absurd e hz,fun _ => ho⟩
  ·exact bg ⟨rfl,fun _ => hri,fun e => absurd rfl e⟩
end
theorem EJ {α β : Type} {m : Option α} {m' : Option β} {R : α → β → Prop} {P : β → Prop} (h : G2 m m' R) (k : Gv m' P) : G2 m m' fun a b => R a b ∧ P b:=by
 obtain ⟨a,b,e,e',hr⟩:=h
 obtain ⟨b',e2,hp⟩:=k
 rw [e'] at e2
 cases e2
 exact ⟨a,b,e,e',hr,hp⟩
section
variable {N M : Nat} {s t : State}
theorem Keep.used (hs : Inv N s) (ht : Inv M t) (k : Keep s t) (path : Str) (label : Int) (all : Bool) (user : Int) : pUsed t path label all user = pUsed s path label all user:=by
 unfold pUsed
 rw [k.cs]
 have e : s.Conts.filter (pHas t path label all user) = s.Conts.filter (pHas s path label all user):=by
  refine List.filter_congr fun c hc => ?_
  obtain ⟨a,ha,e,_⟩:=(hs.ck c hc).app
  obtain ⟨b,hb,e1,e2,e3,e4⟩:=k.ap a ha
  have h1 : appAt s c.App = some a:=by rw [← e]; exact hs.appAt ha
  have h2 : appAt t c.App = some b:=by rw [← e,← e1]; exact ht.appAt hb
  unfold pHas
  rw [h1,h2]
  simp only [Option.elim_some,e3,e4]
 rw [e]
theorem Keep.down (k : Keep s t) (path : Str) (label : Int) (least : Bool) : pDown t path label least = pDown s path label least:=by
 unfold pDown uo pTotal
 rw [k.cf,k.nd]
theorem Keep.okids (hs : Inv N s) (ht : Inv M t) (k : Keep s t) (path : Str) (label : Int) : pOKids t path label = pOKids s path label:=by
 have e : (fun a b => e_ t a b label) = fun a b => e_ s a b label:=by
  funext a b
  unfold e_
  rw [k.used hs ht,k.used hs ht,k.down,k.down]
 unfold pOKids
 rw [e,k.cf]
theorem Keep.leavesN (hs : Inv N s) (ht : Inv M t) (k : Keep s t) (label : Int) : ∀ (d : Nat) (path : Str),pLeavesN d t path label = pLeavesN d s path label
 | 0,path => rfl
 | d + 1,path => by
  unfold pLeavesN
  rw [k.okids hs ht,k.cf]
  have e : (fun x => pLeavesN d t x label) = fun x => pLeavesN d s x label:=by funext x; exact Keep.leavesN hs ht k label d x
  rw [e]
theorem Keep.leaves (hs : Inv N s) (ht : Inv M t) (k : Keep s t) (label : Int) : bB t label = bB s label:=k.leavesN hs ht label 3 root
theorem AJ (hN : N + 1 ≤ 1000000) (h : Inv N s) {n : Node} (hn : n ∈ s.Nodes) (hup : n.Up = true) (hfree : ∀ y ∈ s.Slots,y.Node ≠ n.Id) (hc : s.Conts.length < 200) (hq : s.Seq < 1048575) {F : Vec} (hF : F = pFree s n.Id) :
  G2 (cB ⟨s,n,F⟩) ((aH s n true).bind fun x3 => bif x3.2.1 != 0 then some (x3.1,x3.2.1,x3.2.2) else (aH x3.1 n false).bind fun x4 => some (x4.1,x4.2.1,x4.2.2))
   fun r r' => r = (r'.2.1,r'.2.2,⟨r'.1,n,F⟩) ∧ OneF s r' ∧ Inv (N + 1) r'.1:=by
 have hk:=h.nk n hn
 have inv1 : ∀ {u : State} {r : State × Int × Cont},AskR N u r → Inv (N + 1) r.1:=by
  intro u r hr
  by_cases hz : r.2.1 = 0
  ·exact (hr.1 hz).1.mono (by omega)
  ·exact (hr.2 hz).1
 unfold cB
 dsimp only
 rw [AN h hk.2.1 hk.2.2,Gp]
 refine oq (EJ (ve hN h hn hup hfree hc hq true hF) (qy (by omega) h hn hup hfree hc hq true)) ?_
 rintro r r' ⟨⟨rfl,h0,h1⟩,hr⟩
 dsimp only
 refine p7 rfl (fun hz => bg ⟨rfl,h1 (by simpa using hz),inv1 hr⟩) fun hz => ?_
 have hri:=h0 (by simpa using hz)
 have hn' : n ∈ r'.1.Nodes:=by rw [hri.k.nd]; exact hn
 have hf' : ∀ y ∈ r'.1.Slots,y.Node ≠ n.Id:=by rw [hri.k.sl]; exact hfree
 have hc' : r'.1.Conts.length < 200:=by rw [hri.k.cs]; exact hc
 have hq' : r'.1.Seq < 1048575:=by rw [hri.k.sq]; exact hq
 have h2:=ve hN hri.i hn' hup hf' hc' hq' false (F:=F) (by rw [hF,hri.k.free])
 rw [hri.k.leaves h hri.i] at h2
 refine oq (EJ h2 (qy (by omega) hri.i hn' hup hf' hc' hq' false)) ?_
 rintro u u' ⟨⟨rfl,k0,k1⟩,hu⟩
 refine bg ⟨rfl,?_,inv1 hu⟩
 by_cases hk : u'.2.1 = 0
 ·have:=(k0 hk).k
  exact ⟨fun e => (by rw [hk] at e; cases e),fun _ => this.sq.trans hri.k.sq,this.ep.trans hri.k.ep,this.nd.trans hri.k.nd⟩
 ·exact (k1 hk).keep hri.k
theorem zg (hN : N + 2 ≤ 1000000) (h : Inv N s) (i : Int) : G2 (mK s i) (a_ s i) fun r r' => r = r' ∧ OneF s r' ∧ Inv (N + 1) r'.1:=by
 have hsm:=h.small (by omega)
 have o0 : ∀ c : Cont,OneF s (s,0,c):=fun c => ⟨fun e => (by cases e),fun _ => rfl,rfl,rfl⟩
 unfold mK a_
 rw [zV hsm,Gp,ru hsm.nodes,bR h.z,Gp,Gp]
 cases hn0 : cz s i with
 | none =>
  simp only [Option.elim_none,Bool.not_false,cond_true,Gp]
  exact bg ⟨rfl,o0 _,h.mono (by omega)⟩
 | some n =>
  obtain ⟨hn,rfl⟩:=lB hn0
  simp only [Option.elim_some,Bool.not_true,cond_false]
  refine oq (P:=fun a b => a = b ∧ (a = false → n.Up = true ∧ s.Conts.length < 200 ∧ s.Seq < 1048575)) ?_ ?_
  ·refine p7 rfl (fun _ => bg ⟨rfl,by simp⟩) fun h0 => p7 rfl (fun _ => bg ⟨rfl,by simp⟩) fun h1 => bg ⟨rfl,fun h2 => ?_⟩
   simp only [decide_eq_false_iff_not] at h1 h2
   exact ⟨by simpa using h0,by omega,by omega⟩
  ·rintro q _ ⟨rfl,hq⟩
   refine p7 rfl (fun _ => bg ⟨rfl,o0 _,h.mono (by omega)⟩) fun hqf => ?_
   obtain ⟨hup,hc,hsq⟩:=hq hqf
   rw [xF h,Gp,r7 h.z,Gp]
   have fin : ∀ (t : State) (k : Int) (c : Cont),Inv (N + 1) t → OneF s (t,k,c) → G2 ((kU t []).bind fun x5 => some (x5,k,c)) (some (t,k,c)) fun r r' => r = r' ∧ OneF s r' ∧ Inv (N + 1) r'.1:=by
    intro t k c ht ho
    rw [zV (ht.small (by omega))]
    exact bg ⟨rfl,ho,ht⟩
   have rnd : ∀ u : State,Inv N u → u.Nodes = s.Nodes → u.Conts = s.Conts → u.Seq = s.Seq → u.Epoch = s.Epoch → (∀ y ∈ u.Slots,y.Node ≠ n.Id) →
     G2 (((cB ⟨u,n,pFree s n.Id⟩).bind fun x4 => some (x4.1,x4.2.1,x4.2.2)).bind fun q1 => (kU q1.2.2.s []).bind fun x5 => some (x5,q1.1,q1.2.1))
      ((aH u n true).bind fun x3 => bif x3.2.1 != 0 then some (x3.1,x3.2.1,x3.2.2) else (aH x3.1 n false).bind fun x4 => some (x4.1,x4.2.1,x4.2.2)) fun r r' => r = r' ∧ OneF s r' ∧ Inv (N + 1) r'.1:=by
    intro u hu e1 e2 e3 e4 hf
    have hfr : pFree s n.Id = pFree u n.Id:=by unfold pFree cz et; rw [e1,e2]
    obtain ⟨r,r',er,er',rfl,ho,hi⟩:=AJ (by omega) hu (n:=n) (by rw [e1]; exact hn) hup hf (by rw [e2]; exact hc) (by rw [e3]; exact hsq) hfr
    rw [er,er',Gp,Gp]
    refine fin _ _ _ hi ⟨fun e => ⟨(ho.g e).1.trans (by rw [e3]),(ho.g e).2.trans ?_⟩,fun e => (ho.o e).trans e3,ho.e.trans e4,ho.n.trans e1⟩
    unfold cid
    rw [e3,e4]
   show G2 ((bG ⟨s,n,pFree s n.Id⟩).bind _) _ _
   cases hs : nV s n.Id with
   | none =>
    rw [A_ h hs]
    refine rnd s h rfl rfl rfl rfl fun y hy e => ?_
    have:=l_ (id:=fun x : Slot => x.Node) hs y hy
    omega
   | some x =>
    obtain ⟨r,er,ep,k0,k1⟩:=C0 (by omega) h hn hs (F:=pFree s n.Id) rfl
    obtain ⟨r2,er2,hr⟩:=vQ (by omega) h hn hup hc hsq x
    rw [er] at er2
    cases er2
    rw [ep]
    simp only [Option.elim_some,cond_true,Gp]
    rw [er]
    obtain ⟨t,k,c,b⟩:=r
    dsimp only at k0 k1 hr ⊢
    cases b with
    | true =>
     rw [if_pos rfl] at hr
     exact fin t k c hr (k1 rfl)
    | false =>
     rw [if_neg (by simp)] at hr
     have hk:=k0 rfl
     subst hk
     exact rnd _ hr.1 rfl rfl rfl rfl hr.2.1
end
def kN : Node:=⟨1,0,0,⟨4,4⟩,0,0,true⟩
def kS1 : State:=⟨newS.Conf,[kN],[],[],[],[],0,0,0⟩
def kK : Ask:=⟨0,0,⟨2,1⟩,1,-1,-1,0⟩
def kA : App:=⟨7,1,root,0,0,⟨2,1⟩,[kK],0,0,[],[],[],[]⟩
def kS2 : State:=⟨newS.Conf,[kN],[kA],[],[],[],0,0,0⟩
theorem kReg : bm newS (⟨1,0,0,⟨4,4⟩,0,0,false⟩ : Node) = some (kS1,0):=by
 unfold bm
 simp only [bR oD.z,pQ oD.z]
 kernel_rfl
theorem kInv1 : Inv 0 kS1:=by
 obtain ⟨r,e,h⟩:=sC oD (⟨1,0,0,⟨4,4⟩,0,0,false⟩ : Node)
 rw [kReg] at e
 cases e
 exact h
theorem kSub : bw kS1 (⟨7,0,([114,111,111,116] : List UInt8),0,0,⟨2,1⟩,[],0,0,[],[],[],[]⟩ : App) = some (kS2,0):=by
 unfold bw
 simp only [aT kInv1.z,sE kInv1.z,pP kInv1.cf.small,va kInv1.z]
 refine Eq.trans (b:=(aO kS1 kA).bind fun x8 => some (x8,0)) (by kernel_rfl) ?_
 rw [my kInv1.z]
 kernel_rfl
theorem kInv2 : Inv 0 kS2:=by
 obtain ⟨r,e,h⟩:=vL kInv1 (⟨7,0,([114,111,111,116] : List UInt8),0,0,⟨2,1⟩,[],0,0,[],[],[],[]⟩ : App) (by decide)
 rw [kSub] at e
 cases e
 exact h
theorem kAsk : pAsk kS2 kN kA kK true = (ic kS2 kN kA kK,1,gCont kS2 kN kA kK):=by kernel_rfl
theorem F0 : aH kS2 kN true = some (ic kS2 kN kA kK,1,gCont kS2 kN kA kK):=by
 have hin : kA ∈ kS2.Apps:=by simp [kS2]
 have hk : AskOk kS2.Conf kK:=(kInv2.ak kA hin).ask kK (by simp [kA])
 unfold aH
 rw [pA kInv2.sc,Gp,show bB kS2 kN.Label = [root] by kernel_rfl]
 have s3 : aA kN true [7] (kS2,(⟨⟨[],[]⟩,[],[],[],[],[],0,0,0⟩ : State),noC,0) (kA,true) (kS2,(⟨⟨[],[]⟩,[],[],[],[],[],0,0,0⟩ : State),noC,0) = some (.inr (.inl (ic kS2 kN kA kK,1,gCont kS2 kN kA kK))):=by
  unfold aA
  show ((aC kS2 7).bind _) = _
  rw [aT kInv2.z,Gp,show appAt kS2 7 = some kA by kernel_rfl]
  show ((bE kS2 kN kA kK true).bind _) = _
  rw [wv kInv2 (by omega) kN hin hk true,Gp,kAsk]
  rfl
 have s2 : aB kN true [root] (kS2,(⟨⟨[],[]⟩,[],[],[],[],[],0,0,0⟩ : State),noC,0) [7] (kS2,(⟨⟨[],[]⟩,[],[],[],[],[],0,0,0⟩ : State),noC,0) = some (.inr (.inl (ic kS2 kN kA kK,1,gCont kS2 kN kA kK))):=by
  unfold aB
  show (((aC kS2 7).bind _).bind _) = _
  rw [aT kInv2.z,Gp,show appAt kS2 7 = some kA by kernel_rfl]
  show (((cC kS2 root kN.Label kA.User).bind _).bind _) = _
  rw [m8 kInv2.sc (by decide),Gp,show pMore kS2 root kN.Label kA.User = true by kernel_rfl]
  show (((loop (aA kN true [7] (kS2,(⟨⟨[],[]⟩,[],[],[],[],[],0,0,0⟩ : State),noC,0) (kA,true)) (kS2,(⟨⟨[],[]⟩,[],[],[],[],[],0,0,0⟩ : State),noC,0)).bind _).bind _) = _
  rw [eF s3]
  rfl
 have s1 : aI kN true [root] (kS2,(⟨⟨[],[]⟩,[],[],[],[],[],0,0,0⟩ : State),noC,0) = some (.inr (.inl (ic kS2 kN kA kK,1,gCont kS2 kN kA kK))):=by
  unfold aI
  show ((eZ kS2 root).bind _) = _
  rw [sf kInv2.z,Gp,show pApps kS2 root = [7] by kernel_rfl]
  show ((loop (aB kN true [root] (kS2,(⟨⟨[],[]⟩,[],[],[],[],[],0,0,0⟩ : State),noC,0) [7]) (kS2,(⟨⟨[],[]⟩,[],[],[],[],[],0,0,0⟩ : State),noC,0)).bind _) = _
  rw [eF s2]
  rfl
 show ((loop (aI kN true [root]) (kS2,(⟨⟨[],[]⟩,[],[],[],[],[],0,0,0⟩ : State),noC,0)).bind _) = _
 rw [eF s1]
 rfl
theorem kOne : a_ kS2 1 = some (ic kS2 kN kA kK,1,gCont kS2 kN kA kK):=by
 unfold a_
 rw [bR kInv2.z,Gp,show cz kS2 1 = some kN by kernel_rfl,r7 kInv2.z,show nV kS2 1 = none by kernel_rfl]
 show ((aH kS2 kN true).bind _) = _
 rw [F0]
 rfl
theorem AP : ij = some true:=by
 obtain ⟨r,r',e1,e2,rfl,_,hi⟩:=zg (by omega) kInv2 1
 rw [kOne] at e2
 cases e2
 unfold ij
 rw [Bh,Gp,kReg,Gp,kSub,Gp,e1,Gp,aT hi.z]
 kernel_rfl
theorem F5 (x : Script) : bY x = some (decide (x.Ns.length ≤ 30) && decide (x.Acts.length ≤ 80)):=by
 unfold bY
 have e1 : decide ((x.Ns.length : Int) ≤ 30) = decide (x.Ns.length ≤ 30):=by rw [decide_eq_decide]; omega
 have e2 : decide ((x.Acts.length : Int) ≤ 80) = decide (x.Acts.length ≤ 80):=by rw [decide_eq_decide]; omega
 rw [e1,e2]
 cases decide (x.Ns.length ≤ 30) <;> rfl
theorem Ab {x : Script} {m : State → Option Bool} (h : ∀ s,Inv 400000 s → m s = some true) : ((bY x).bind fun x2 => bif ! x2 then some true else (bI x).bind m) = some true:=by
 rw [F5]
 by_cases h1 : x.Ns.length ≤ 30
 ·by_cases h2 : x.Acts.length ≤ 80
  ·rw [decide_eq_true h1,decide_eq_true h2]
   obtain ⟨s,e,hs⟩:=EB x h1 h2
   simp only [Bool.and_self,Bool.not_true,cond_false,Gp]
   rw [e,Gp]
   exact h s hs
  ·rw [decide_eq_false h2,Bool.and_false]
   rfl
 ·rw [decide_eq_false h1]
  rfl
theorem hS (n : Nat) (hn : n ≤ 100000) {step : Bool × Int → Option ((Bool × Int) ⊕ Bool)} : ∀ (d m : Nat),n ≤ m + d → (∀ k : Nat,m ≤ k → k < n → step (true,(k : Int)) = some (.inl (true,w64 ((k : Int) + 1)))) → (∀ k : Nat,n ≤ k → step (true,(k : Int)) = some (.inr true)) → loop step (true,(m : Int)) = some true
 | 0,m,hd,h1,h2 => eF (h2 m (by omega))
 | d + 1,m,hd,h1,h2 => by
  by_cases hm : m < n
  ·rw [mu (h1 m (Nat.le_refl _) hm),aj (x:=(m : Int) + 1) (by omega) (by omega),show (m : Int) + 1 = ((m + 1 : Nat) : Int) by omega]
   exact hS n hn d (m + 1) (by omega) (fun k h3 h4 => h1 k (by omega) h4) h2
  ·exact eF (h2 m (by omega))
theorem oP {v : Vec} (h : VB 1073741824 v) : bD v = some true:=by
 unfold VB at h
 unfold bD
 rw [decide_eq_true (show v.Mem ≥ 0 by omega),decide_eq_true (show v.Mem ≤ 1125899906842624 by omega),decide_eq_true (show v.Cores ≥ 0 by omega),decide_eq_true (show v.Cores ≤ 1125899906842624 by omega)]
 rfl
theorem lI {k n : Nat} (h : n ≤ k) : decide ((k : Int) < (n : Int)) = false:=decide_eq_false (by omega)
section
variable {N : Nat} {s : State}
theorem Fd (h : Inv N s) : iX s = some true:=by
 have h1:=h.nl
 have h2:=h.al
 have h3:=h.cl
 have h5:=h.pl
 have e1 : loop (fX s) (true,0) = some true:=hS s.Nodes.length (by omega) s.Nodes.length 0 (by omega) (fun k _ hk => by
  unfold fX
  dsimp only
  rw [ah hk,cond_true,cond_true,ai hk,Gp,oP (h.nk _ (List.getElem_mem hk)).1]; rfl) (fun k hk => by
  unfold fX
  dsimp only
  rw [lI hk,cond_false])
 have e2 : loop (f_ s) (true,0) = some true:=hS s.Conts.length (by omega) s.Conts.length 0 (by omega) (fun k _ hk => by
  unfold f_
  dsimp only
  rw [ah hk,cond_true,cond_true,ai hk,Gp,oP (h.ck _ (List.getElem_mem hk)).size.vb]; rfl) (fun k hk => by
  unfold f_
  dsimp only
  rw [lI hk,cond_false])
 have e3 : loop (fE s) (true,0) = some true:=hS s.Plans.length (by omega) s.Plans.length 0 (by omega) (fun k _ hk => by
  unfold fE
  dsimp only
  rw [ah hk,cond_true,cond_true,ai hk,Gp,oP (h.pk _ (List.getElem_mem hk)).1]; rfl) (fun k hk => by
  unfold fE
  dsimp only
  rw [lI hk,cond_false])
 have e4 : loop (fO s) (true,0) = some true:=hS s.Apps.length (by omega) s.Apps.length 0 (by omega) (fun k _ hk => by
  have hak:=h.ak _ (List.getElem_mem hk)
  have hal:=hak.al
  unfold fO
  dsimp only
  rw [ah hk,cond_true,cond_true,ai hk,Gp,oP hak.mas.vb,Gp,Gp]
  have e5 : loop (fK s (true,(k : Int))) (true,0) = some true:=hS s.Apps[k].Asks.length (by omega) s.Apps[k].Asks.length 0 (by omega) (fun j _ hj => by
   unfold fK
   dsimp only
   rw [ai hk,Gp,ah hj,cond_true,cond_true,Gp,ai hj,Gp,oP (hak.ask _ (List.getElem_mem hj)).size.vb]; rfl) (fun j hj => by
   unfold fK
   dsimp only
   rw [ai hk,Gp,lI hj,cond_false])
  rw [e5]; rfl) (fun k hk => by
  unfold fO
  dsimp only
  rw [lI hk,cond_false])
 unfold iX
 rw [e1,Gp,e2,Gp,e3,Gp,e4]
 rfl
theorem pd {α : Type} {id : α → Int} {l : List α} (hl : l.length ≤ 100000) (hs : l.Pairwise fun x y => id x < id y) {k : Nat} (h1 : 1 ≤ k) (hk : k < l.length) :
  ((idx l (w64 ((k : Int) - 1))).bind fun x => (idx l (k : Int)).bind fun x1 => some (decide (id x < id x1))) = some true:=by
 rw [aj (x:=(k : Int) - 1) (by omega) (by omega),show (k : Int) - 1 = ((k - 1 : Nat) : Int) by omega,ai (show k - 1 < l.length by omega),Gp,ai hk,Gp,decide_eq_true]
 exact List.pairwise_iff_getElem.1 hs (k - 1) k (by omega) hk (by omega)
theorem BH (h : Inv N s) : gW s = some true:=by
 have h1:=h.nl
 have h2:=h.al
 have h3:=h.cl
 have h4:=h.sl
 have h5:=h.pl
 have e1 : loop (dK s) (true,1) = some true:=hS s.Nodes.length (by omega) s.Nodes.length 1 (by omega) (fun k hm hk => by
  have:=pd (id:=fun x : Node => x.Id) (by omega) h.ns hm hk
  unfold dK
  dsimp only at this ⊢
  rw [ah hk,cond_true,cond_true,this]; rfl) (fun k hk => by
  unfold dK
  dsimp only
  rw [lI hk,cond_false])
 have e2 : loop (dH s) (true,1) = some true:=hS s.Apps.length (by omega) s.Apps.length 1 (by omega) (fun k hm hk => by
  have:=pd (id:=fun x : App => x.Id) (by omega) h.asr hm hk
  unfold dH
  dsimp only at this ⊢
  rw [ah hk,cond_true,cond_true,this]; rfl) (fun k hk => by
  unfold dH
  dsimp only
  rw [lI hk,cond_false])
 have e3 : loop (dJ s) (true,1) = some true:=hS s.Conts.length (by omega) s.Conts.length 1 (by omega) (fun k hm hk => by
  have:=pd (id:=fun x : Cont => x.Id) (by omega) h.cs hm hk
  unfold dJ
  dsimp only at this ⊢
  rw [ah hk,cond_true,cond_true,this]; rfl) (fun k hk => by
  unfold dJ
  dsimp only
  rw [lI hk,cond_false])
 have e4 : loop (dI s) (true,1) = some true:=hS s.Slots.length (by omega) s.Slots.length 1 (by omega) (fun k hm hk => by
  have:=pd (id:=fun x : Slot => x.Node) (by omega) h.ss hm hk
  unfold dI
  dsimp only at this ⊢
  rw [ah hk,cond_true,cond_true,this]; rfl) (fun k hk => by
  unfold dI
  dsimp only
  rw [lI hk,cond_false])
 have e5 : loop (dV s) (true,1) = some true:=hS s.Plans.length (by omega) s.Plans.length 1 (by omega) (fun k hm hk => by
  have:=pd (id:=fun x : Plan => x.Id) (by omega) h.ps hm hk
  unfold dV
  dsimp only at this ⊢
  rw [ah hk,cond_true,cond_true,this]; rfl) (fun k hk => by
  unfold dV
  dsimp only
  rw [lI hk,cond_false])
 unfold gW
 rw [decide_eq_false (by omega),cond_false,decide_eq_false (by omega),cond_false,decide_eq_false (by omega),cond_false,decide_eq_false (by omega),Gp,cond_false,e1,Gp,e2,Gp,e3,Gp,e4,Gp,e5]
 rfl
theorem lG {k : Nat} (h : k ≤ 100000) : w64 ((k : Int) + 1) = ((k + 1 : Nat) : Int):=by rw [aj (by omega) (by omega)]; omega
theorem Ea (h : Inv N s) : jD s = some true:=by
 have h1:=h.nl
 have e : loop (gS s) 0 = some (.inr ()):=oJ _ s.Nodes.length _ (fun k hk => by
  obtain ⟨f1,f2⟩:=h.sd.fit _ (List.getElem_mem hk)
  unfold gS
  rw [ah hk,cond_true,ai hk,Gp,wO h.sb,Gp,Gp,decide_eq_false (by omega),cond_false,Gp,decide_eq_false (by omega),Gp,cond_false,lG (by omega)]) (by
  unfold gS
  rw [ao,cond_false])
 unfold jD
 rw [e]
 rfl
theorem Ae (h : Inv N s) (i : Int) : fY s i = some (((pMas s.Conts i).length : Int),((s.Conts.filter fun c => c.App == i).length : Int)):=by
 have h3:=h.cl
 unfold fY
 have gen : ∀ (d k : Nat),k + d = s.Conts.length → loop (bQ s i) (((pMas (s.Conts.take k) i).length : Int),(((s.Conts.take k).filter fun c => c.App == i).length : Int),(k : Int)) = some (((pMas s.Conts i).length : Int),((s.Conts.filter fun c => c.App == i).length : Int)):=by
  intro d
  induction d with
  | zero =>
   intro k hk
   have hk : k = s.Conts.length:=by omega
   subst hk
   rw [List.take_length]
   refine eF ?_
   unfold bQ
   dsimp only
   rw [ao,cond_false]
  | succ d ih =>
   intro k hk
   have hk2 : k < s.Conts.length:=by omega
   have hl1 : (pMas (s.Conts.take k) i).length ≤ k:=Nat.le_trans (List.length_filter_le _ _) (List.length_take_le _ _)
   have hl2 : ((s.Conts.take k).filter fun c => c.App == i).length ≤ k:=Nat.le_trans (List.length_filter_le _ _) (List.length_take_le _ _)
   have e1 : pMas (s.Conts.take (k + 1)) i = pMas (s.Conts.take k) i ++ pMas [s.Conts[k]] i:=by
    unfold pMas; rw [List.take_succ_eq_append_getElem hk2,List.filter_append]
   have e2 : ((s.Conts.take (k + 1)).filter fun c => c.App == i) = ((s.Conts.take k).filter fun c => c.App == i) ++ ([s.Conts[k]].filter fun c => c.App == i):=by
    rw [List.take_succ_eq_append_getElem hk2,List.filter_append]
   rw [← ih (k + 1) (by omega),e1,e2,Gs,Gs]
   refine mu ?_
   unfold bQ
   dsimp only
   rw [ah hk2,cond_true,ai hk2,Gp,Gp]
   unfold pMas at hl1 ⊢
   cases ha : s.Conts[k].App == i <;> cases hm : s.Conts[k].Master <;> simp only [cond_true,cond_false,Gp,List.filter_cons,List.filter_nil,ha,hm,Bool.and_true,Bool.and_false,Bool.false_and,Bool.true_and,if_true,if_false,List.length_nil,List.length_singleton,Nat.add_zero,lG (show k ≤ 100000 by omega),lG (show _ ≤ 100000 from Nat.le_trans hl1 (by omega)),lG (show _ ≤ 100000 from Nat.le_trans hl2 (by omega))] <;> rfl
 have:=gen s.Conts.length 0 (by omega)
 rw [show loop (bQ s i) (0,0,0) = _ from this]
 rfl
theorem yg (h : Inv N s) : iE s = some true:=by
 have h2:=h.al
 have h3:=h.cl
 have h4:=h.sl
 have l1 : loop (eI s) 0 = some (.inr ()):=oJ _ s.Conts.length _ (fun k hk => by
  have hck:=h.ck _ (List.getElem_mem hk)
  obtain ⟨a,ha,e1,e2⟩:=hck.app
  obtain ⟨n,hn,f1,f2,f3⟩:=h.sd.nod _ (List.getElem_mem hk)
  obtain ⟨n1,n2⟩:=h.sd.ntc _ (List.getElem_mem hk)
  have hna : cz s n.Id = some n:=oo h.ns hn
  have hlv : pLive a = true:=by unfold pLive; simp [e2]
  have hup : n.Up = true:=f3.elim id fun e => e.elim
  unfold eI
  rw [ah hk,cond_true,ai hk,Gp,aT h.z,← e1,h.appAt ha,Gp,bR h.z,← f1,hna,Gp]
  simp only [Option.elim_some,Bool.not_true,cond_false,hU,Gp,hlv,hup]
  rw [show (n.Label != s.Conts[k].Label) = false from bne_eq_false_iff_eq.2 f2,cond_false,decide_eq_false (by omega),cond_false,decide_eq_false (by omega),Gp,cond_false,lG (by omega)]) (by
  unfold eI
  rw [ao,cond_false])
 have l2 : loop (eR s) 0 = some (.inr ()):=oJ _ s.Apps.length _ (fun k hk => by
  have hm:=List.getElem_mem hk
  have hak:=h.ak _ hm
  have hlf:=pP h.cf.small s.Apps[k].Queue
  have hone:=h.sd.one _ hm
  have hno:=h.noc hm
  have hleaf:=hak.leaf
  have hst:=hak.st
  unfold eR
  rw [ah hk,cond_true,ai hk,Gp,Ae h,Gp]
  generalize s.Apps[k] = a at hlf hone hno hleaf hst ⊢
  have live : ((aF a).bind fun x16 => bif x16 then (aW s.Conf a.Queue).bind fun x17 => some (! x17) else some false) = some false:=by
   rw [hU,Gp]
   cases hl : pLive a with
   | false => rfl
   | true =>
    rw [cond_true,hlf,hleaf (tE hl)]
    rfl
  by_cases s2 : a.State = 2
  ·rw [show (a.State == 2) = true from beq_iff_eq.2 s2,cond_true]
   have h1 : (pMas s.Conts a.Id).length = 1:=(hone s2).elim (fun e => e.elim) id
   dsimp only
   rw [h1,show (((1 : Nat) : Int) != 1) = false from rfl,cond_false,show (a.State == 1) = false from beq_eq_false_iff_ne.2 (by omega),cond_false,live,Gp,cond_false,lG (by omega)]
  ·rw [show (a.State == 2) = false from beq_eq_false_iff_ne.2 s2,cond_false]
   by_cases s1 : a.State = 1
   ·have h0 : (s.Conts.filter fun c => c.App == a.Id) = []:=List.filter_eq_nil_iff.2 fun c hc => by
     rcases hno with e | e
     ·omega
     ·simpa using e c hc
    dsimp only
    rw [show (a.State == 1) = true from beq_iff_eq.2 s1,cond_true,h0,show (((([] : List Cont).length : Nat) : Int) != 0) = false from rfl,cond_false,live,Gp,cond_false,lG (by omega)]
   ·rw [show (a.State == 1) = false from beq_eq_false_iff_ne.2 s1,cond_false,live,Gp,cond_false,lG (by omega)]) (by
  unfold eR
  rw [ao,cond_false])
 have l3 : loop (eN s) 0 = some (.inr ()):=oJ _ s.Slots.length _ (fun k hk => by
  obtain ⟨n,hn,f1,f3⟩:=h.sd.slt _ (List.getElem_mem hk)
  have hna : cz s n.Id = some n:=oo h.ns hn
  have hup : n.Up = true:=f3.elim id fun e => e.elim
  unfold eN
  rw [ah hk,cond_true,ai hk,Gp,bR h.z,← f1,hna,Gp]
  simp only [Option.elim_some,Bool.not_true,cond_false,Gp,hup]
  rw [lG (by omega)]) (by
  unfold eN
  rw [ao,cond_false])
 unfold iE
 rw [h.sd.chk,Gp,show ((0 : Int) != 0) = false from rfl,cond_false,Fd h,Gp,Bool.not_true,cond_false,BH h,Gp,Bool.not_true,cond_false,Ea h,Gp,Bool.not_true,Gp,cond_false,l1,Gp]
 dsimp only
 rw [l2,Gp]
 dsimp only
 rw [l3]
 rfl
end
structure Kp (s t : State) : Prop where
 cf : t.Conf = s.Conf
 nd : t.Nodes = s.Nodes
 ap : ∀ a ∈ s.Apps,∃ b ∈ t.Apps,b.Id = a.Id ∧ b.Queue = a.Queue ∧ b.User = a.User
theorem Kp.refl (s : State) : Kp s s:=⟨rfl,rfl,fun a ha => ⟨a,ha,rfl,rfl,rfl⟩⟩
theorem Keep.kp {s t : State} (k : Keep s t) : Kp s t:=⟨k.cf,k.nd,fun a ha => by
 obtain ⟨b,hb,e1,e2,e3,e4⟩:=k.ap a ha
 exact ⟨b,hb,e1,e3,e4⟩⟩
theorem Kp.trans {s t u : State} (h : Kp s t) (k : Kp t u) : Kp s u:=⟨k.cf.trans h.cf,k.nd.trans h.nd,fun a ha => by
 obtain ⟨b,hb,e1,e2,e3⟩:=h.ap a ha
 obtain ⟨c,hc,f1,f2,f3⟩:=k.ap b hb
 exact ⟨c,hc,f1.trans e1,f2.trans e2,f3.trans e3⟩⟩
structure GF (s : State) (i : Int) (r : State × Int × Cont) : Prop where
 k : r.2.1 = 0 ∨ r.2.1 = 1 ∨ r.2.1 = 2 ∨ r.2.1 = 3
 o : r.2.1 ≠ 1 → r.1.Conts = s.Conts
 g : r.2.1 = 1 → ∃ a ∈ s.Apps,a.Id = r.2.2.App ∧ vfits r.2.2.Size (pFree s i) = true ∧ pRoom s a.Queue r.2.2.Label r.2.2.Size = true ∧ pMore s a.Queue r.2.2.Label a.User = true ∧ r.2.2.Notice = 0 ∧ r.2.2.Node = i ∧ r.1.Conts = s.Conts ++ [r.2.2]
 p : Kp s r.1
section
variable {N M : Nat} {s t : State} {n : Node}
theorem Keep.room (hs : Inv N s) (ht : Inv M t) (k : Keep s t) (path : Str) (label : Int) (size : Vec) : pRoom t path label size = pRoom s path label size:=by
 have e : jN t label size = jN s label size:=by
  funext p
  unfold jN
  rw [k.used hs ht,k.down]
  unfold pTotal pKept
  rw [k.nd,k.pl,k.now]
 unfold pRoom
 rw [e]
theorem Keep.more (hs : Inv N s) (ht : Inv M t) (k : Keep s t) (path : Str) (label user : Int) : pMore t path label user = pMore s path label user:=by
 unfold pMore pUser
 rw [k.used hs ht,k.down,k.cf]
theorem GF.keep (hs : Inv N s) (ht : Inv M t) (k : Keep s t) {i : Int} {r : State × Int × Cont} (h : GF t i r) : GF s i r:=by
 refine ⟨h.k,fun e => (h.o e).trans k.cs,fun e => ?_,k.kp.trans h.p⟩
 obtain ⟨b,hb,g1,g2,g3,g4,g5,g6,g7⟩:=h.g e
 obtain ⟨a,ha,e1,_,e2,e3⟩:=k.pa b hb
 rw [k.free] at g2
 rw [k.room hs ht,e2] at g3
 rw [k.more hs ht,e2,e3] at g4
 rw [k.cs] at g7
 exact ⟨a,ha,e1.symm.trans g1,g2,g3,g4,g5,g6,g7⟩
theorem Ch (h : Inv N s) (a : App) (x : Ask) : insG (·.Id) s.Conts (gCont s n a x) = s.Conts ++ [gCont s n a x]:=by
 have hid:=Ck h.ep h.sq
 exact u7 (id:=fun c : Cont => c.Id) fun c hc => by
  have:=(h.ck c hc).id
  show c.Id < cid s
  omega
theorem y7 (h : Inv N s) {a b : App} (ha : a ∈ s.Apps) (e1 : b.Id = a.Id) (e2 : b.Queue = a.Queue) (e3 : b.User = a.User) {cs : List Cont} {sl : List Slot} {sq : Int} : Kp s (pPutA ⟨s.Conf,s.Nodes,s.Apps,cs,sl,s.Plans,s.Now,s.Epoch,sq⟩ b):=by
 refine ⟨rfl,rfl,fun d hd => ?_⟩
 by_cases he : d.Id = b.Id
 ·have:=h.uniqA hd ha (he.trans e1)
  subst this
  exact ⟨b,(aQ h.asr).2 (.inl rfl),e1,e2,e3⟩
 ·exact ⟨d,(aQ h.asr).2 (.inr ⟨hd,he⟩),rfl,rfl,rfl⟩
theorem xJ (h : Inv N s) {a : App} (ha : a ∈ s.Apps) {x : Ask} (h1 : vfits x.Size (pFree s n.Id) = true) (h2 : pRoom s a.Queue n.Label x.Size = true) (h3 : pMore s a.Queue n.Label a.User = true) : GF s n.Id (ic s n a x,1,gCont s n a x):=by
 refine ⟨.inr (.inl rfl),fun e => absurd rfl e,fun _ => ⟨a,ha,rfl,h1,h2,h3,rfl,rfl,Ch h a x⟩,?_⟩
 exact y7 h ha (by unfold gApp; split <;> rfl) (by unfold gApp; split <;> rfl) (by unfold gApp; split <;> rfl)
theorem Gh (h : Inv N s) {a : App} (ha : a ∈ s.Apps) (x : Ask) (first : Bool) (hm : pMore s a.Queue n.Label a.User = true) : GF s n.Id (pAsk s n a x first):=by
 have z : ∀ c,GF s n.Id (s,0,c):=fun c => ⟨.inl rfl,fun _ => rfl,fun e => (by cases e),.refl s⟩
 unfold pAsk
 cases pSkip s n a x first
 rotate_left
 ·exact z _
 cases pMay x n
 ·cases first == pDue s a.Queue x
  ·exact z _
  ·exact ⟨.inl rfl,fun _ => rfl,fun e => (by cases e),(y7 (b:=ib a x.Prio) (cs:=s.Conts) (sl:=s.Slots) (sq:=s.Seq) h ha rfl rfl rfl : Kp s (pPutA s (ib a x.Prio)))⟩
 cases hr : pRoom s a.Queue n.Label x.Size
 ·exact z _
 cases hf : vfits x.Size (pFree s n.Id)
 rotate_left
 ·exact xJ h ha hf hr hm
 cases first && !(pKeeps s a.Id x.Prio)
 ·exact z _
 ·exact ⟨.inr (.inr (.inl rfl)),fun _ => rfl,fun e => (by cases e),rfl,rfl,fun b hb => ⟨b,hb,rfl,rfl,rfl⟩⟩
def RG (N : Nat) (n : Node) (s : State) (r : (State × Int × Cont) ⊕ (State × State × Cont)) : Prop :=
 match r with
 | .inl q => q.2.1 ≠ 0 ∧ GF s n.Id q
 | .inr p => RI N n s p.1
theorem An (hN : N ≤ 1000000) (h0 : Inv N s) (hn : n ∈ s.Nodes) (hup : n.Up = true) (hfree : ∀ y ∈ s.Slots,y.Node ≠ n.Id) (hc : s.Conts.length < 200) (hq : s.Seq < 1048575) (first : Bool) {ids : List Int} {k : Nat} (hk : k < ids.length)
  {a0 : App} (ha0 : a0 ∈ s.Apps) (hid : a0.Id = ids[k]) (hl : pLive a0 = true) (hm : pMore s a0.Queue n.Label a0.User = true) {x2 : App × Bool} (hx2 : x2.1.Asks.length ≤ 1000 ∧ ∀ x ∈ x2.1.Asks,AskOk s.Conf x) {t1 : State × State × Cont} (ht : RI N n s t1.1) :
  Gv (loop (aA n first ids (t1.1,t1.2.1,t1.2.2,(k : Int)) x2) (t1.1,t1.2.1,t1.2.2,0)) (RG N n s):=by
 refine av (fun (p : State × State × Cont) i => (p.1,p.2.1,p.2.2,i)) x2.1.Asks.length (fun _ p => RI N n s p.1) (step:=aA n first ids (t1.1,t1.2.1,t1.2.2,(k : Int)) x2) (by omega) ?_ ?_ (s:=t1) ht
 ·intro j hj p hp
  obtain ⟨b,hb,e1,e2,e3,e4⟩:=hp.k.ap a0 ha0
  unfold aA
  dsimp only
  rw [ah hj,cond_true,ay hk,Gp,Gq hk,Gp,aT hp.i.z,← hid,← e1,hp.i.appAt hb,Gp,ai hj,Gp]
  have hlb : pLive b = true:=by unfold pLive at hl ⊢; rw [e2]; exact hl
  have hask : AskOk p.1.Conf x2.1.Asks[j]:=by rw [hp.k.cf]; exact hx2.2 _ (List.getElem_mem hj)
  obtain ⟨r,er,hr⟩:=wB hp.i hN (by rw [hp.k.nd]; exact hn) hup (by rw [hp.k.sl]; exact hfree) hb hlb hask (by rw [hp.k.cs]; exact hc) (by rw [hp.k.sq]; exact hq) first
  have er':=er
  rw [wv hp.i hN n hb hask first,Option.some.injEq] at er'
  have hg : GF s n.Id r:=by
   rw [← er']
   exact (Gh hp.i hb _ first (by rw [hp.k.more h0 hp.i,e3,e4]; exact hm)).keep h0 hp.i hp.k
  show Gv ((bE p.1 n b x2.1.Asks[j] first).bind _) _
  rw [er,Gp]
  obtain ⟨u,kd,c⟩:=r
  obtain ⟨r0,r1⟩:=hr
  dsimp only at r0 r1 ⊢
  refine ae (fun hz => ?_) fun hz => ?_
  ·have hz : kd ≠ 0:=by simpa using hz
   exact aa (.inr ⟨_,rfl,hz,hg⟩)
  ·have hz : kd = 0:=by simpa using hz
   obtain ⟨q1,q2⟩:=r0 hz
   exact aa (.inl ⟨(u,p.2.1,p.2.2),rfl,⟨q1,hp.k.trans q2⟩⟩)
 ·intro p hp
  unfold aA
  dsimp only
  rw [ao,cond_false]
  exact aa ⟨_,rfl,hp⟩
theorem AL (hN : N ≤ 1000000) (h0 : Inv N s) (hn : n ∈ s.Nodes) (hup : n.Up = true) (hfree : ∀ y ∈ s.Slots,y.Node ≠ n.Id) (hc : s.Conts.length < 200) (hq : s.Seq < 1048575) (first : Bool) {leaves : List Str} {k : Nat} (hk : k < leaves.length) (hll : leaves[k].length ≤ 1000000)
  {ids : List Int} (hil : ids.length ≤ 100000) (hids : ∀ i ∈ ids,∃ a ∈ s.Apps,a.Id = i ∧ pLive a = true ∧ a.Queue = leaves[k]) {t : State × State × Cont} (ht : RI N n s t.1) :
  Gv (loop (aB n first leaves (t.1,t.2.1,t.2.2,(k : Int)) ids) (t.1,t.2.1,t.2.2,0)) (RG N n s):=by
 refine av (fun (p : State × State × Cont) i => (p.1,p.2.1,p.2.2,i)) ids.length (fun _ p => RI N n s p.1) (step:=aB n first leaves (t.1,t.2.1,t.2.2,(k : Int)) ids) (by omega) ?_ ?_ (s:=t) ht
 ·intro j hj p hp
  obtain ⟨a0,ha0,hid,hl,hqu⟩:=hids _ (List.getElem_mem hj)
  obtain ⟨b,hb,e1,e2,e3,e4⟩:=hp.k.ap a0 ha0
  have hbk:=hp.i.ak b hb
  unfold aB
  dsimp only
  rw [ah hj,cond_true]
  refine ad (P:=fun r => match r with | .inl p => RI N n s p.1 | .inr q => q.2.1 ≠ 0 ∧ GF s n.Id q) ?_ ?_
  ·rw [ay hj,Gp,Gq hj,Gp,aT hp.i.z,← hid,← e1,hp.i.appAt hb,Gp,ay hk,Gp,Gq hk,Gp,
    m8 hp.i.sc hll,Gp]
   refine ae (fun _ => aa hp) fun hm => ?_
   have hm : pMore s a0.Queue n.Label a0.User = true:=by
    have hm : pMore p.1 leaves[k] n.Label b.User = true:=by simpa using hm
    rw [hp.k.more h0 hp.i,e4,← hqu] at hm
    exact hm
   refine ad (An hN h0 hn hup hfree hc hq first hj ha0 hid hl hm ⟨by have:=hbk.al; show b.Asks.length ≤ 1000; omega,fun x hx => by rw [← hp.k.cf]; exact hbk.ask x hx⟩ hp) ?_
   rintro (q | q) hr
   ·exact aa hr
   ·exact aa hr
  ·rintro (q | q) hr
   ·exact aa (.inl ⟨q,rfl,hr⟩)
   ·exact aa (.inr ⟨_,rfl,hr⟩)
 ·intro p hp
  unfold aB
  dsimp only
  rw [ao,cond_false]
  exact aa ⟨_,rfl,hp⟩
theorem vK (hN : N ≤ 1000000) (h : Inv N s) (hn : n ∈ s.Nodes) (hup : n.Up = true) (hfree : ∀ y ∈ s.Slots,y.Node ≠ n.Id) (hc : s.Conts.length < 200) (hq : s.Seq < 1048575) (first : Bool) :
  Gv (aH s n first) fun r => GF s n.Id r ∧ (r.2.1 = 0 → RI N n s r.1):=by
 unfold aH
 rw [pA h.sc,Gp]
 have hll:=qD h.sc n.Label
 refine ad (P:=RG N n s) ?_ ?_
 ·refine av (fun (p : State × State × Cont) i => (p.1,p.2.1,p.2.2,i)) (bB s n.Label).length (fun _ p => RI N n s p.1) (step:=aI n first (bB s n.Label)) (by omega) ?_ ?_
   (s:=(s,(⟨⟨[],[]⟩,[],[],[],[],[],0,0,0⟩ : State),(⟨0,0,0,⟨0,0⟩,0,0,false,0⟩ : Cont))) ⟨h,.refl s⟩
  ·intro j hj p hp
   unfold aI
   dsimp only
   rw [ah hj,cond_true,ay hj,Gp,Gq hj,Gp,sf hp.i.z,Gp]
   have hlen : ((bB s n.Label)[j]).length ≤ 1000000:=by
    have:=(pg h.cf (sO h.sc n.Label (List.getElem_mem hj))).len
    omega
   have hn' : n ∈ p.1.Nodes:=by rw [hp.k.nd]; exact hn
   refine ad (AL hN hp.i hn' hup (by rw [hp.k.sl]; exact hfree) (by rw [hp.k.cs]; exact hc) (by rw [hp.k.sq]; exact hq) first hj hlen (by have:=sX (s:=p.1) (bB s n.Label)[j]; have:=hp.i.al; omega) (fun i hi => sZ hi) (t:=p) ⟨hp.i,.refl _⟩) ?_
   rintro (q | q) hr
   ·exact aa (.inr ⟨_,rfl,hr.1,hr.2.keep h hp.i hp.k⟩)
   ·exact aa (.inl ⟨q,rfl,⟨hr.i,hp.k.trans hr.k⟩⟩)
  ·intro p hp
   unfold aI
   dsimp only
   rw [ao,cond_false]
   exact aa ⟨_,rfl,hp⟩
 ·rintro (q | q) hr
  ·exact aa ⟨hr.2,fun e => absurd e hr.1⟩
  ·exact aa ⟨⟨.inl rfl,fun _ => hr.k.cs,fun e => (by cases e),hr.k.kp⟩,fun _ => hr⟩
end
section
variable {N M : Nat} {s t : State} {n : Node}
theorem GF.noSlot {i j : Int} {r : State × Int × Cont} (h : GF (pNoSlot s j) i r) : GF s i r:=⟨h.k,h.o,h.g,h.p.cf,h.p.nd,h.p.ap⟩
theorem Dy (hN : N ≤ 1000000) (h : Inv N s) (hn : n ∈ s.Nodes) (hup : n.Up = true) (hc : s.Conts.length < 200) (hq : s.Seq < 1048575) (x : Slot) :
  Gv (bo s n x) fun r => if r.2.2.2 = true then GF s n.Id (r.1,r.2.1,r.2.2.1) else Inv N r.1 ∧ (∀ y ∈ r.1.Slots,y.Node ≠ n.Id) ∧ r.1 = pNoSlot s n.Id:=by
 have hrel : ∀ c : Cont,(fun r : State × Int × Cont × Bool => if r.2.2.2 = true then GF s n.Id (r.1,r.2.1,r.2.2.1) else Inv N r.1 ∧ (∀ y ∈ r.1.Slots,y.Node ≠ n.Id) ∧ r.1 = pNoSlot s n.Id) (pNoSlot s n.Id,0,c,false):=by
  intro c
  dsimp only
  rw [if_neg (by simp)]
  exact ⟨h.noSlot _,fun y hy => by have:=(List.mem_filter.1 hy).2; simpa using this,rfl⟩
 unfold bo
 rw [aT h.z,Gp]
 cases ha0 : appAt s x.App with
 | none =>
  simp only [Option.elim]
  rw [qg (by simp [noA]),Gp]
  simp only [Bool.not_false,cond_true,Gp]
  rw [jS h.z,Gp]
  exact aa (hrel _)
 | some a =>
  obtain ⟨ha,_⟩:=nJ ha0
  have hak:=h.ak a ha
  simp only [Option.elim]
  rw [qg (by have:=hak.al; omega),Gp]
  refine ad (P:=fun b => b = false → pLive a = true ∧ pMore s a.Queue n.Label a.User = true ∧ ∃ k ∈ a.Asks,askAt a.Asks x.Prio = some k) ?_ ?_
  ·refine ae (fun _ => aa (by simp)) fun _ => ?_
   rw [hU,Gp]
   refine ae (fun _ => aa (by simp)) fun hl => ?_
   have hl : pLive a = true:=by simpa using hl
   cases hk : askAt a.Asks x.Prio with
   | none => exact aa (by simp)
   | some k =>
    have hkm:=(nR hk).1
    have hkk:=hak.ask k hkm
    simp only [Option.elim,Bool.not_true,cond_false]
    rw [oW,Gp]
    refine ae (fun _ => aa (by simp)) fun _ => ?_
    rw [ce,Gp]
    refine ae (fun _ => aa (by simp)) fun _ => ?_
    rw [ri h.sc (h.leafLen ha) hkk.size.vb,Gp]
    refine ae (fun _ => aa (by simp)) fun _ => ?_
    rw [m8 h.sc (h.leafLen ha),Gp]
    exact aa fun e => ⟨hl,by simpa using e,k,hkm,rfl⟩
  ·intro b hb
   refine ae (fun _ => ?_) fun hbf => ?_
   ·rw [jS h.z,Gp]
    exact aa (hrel _)
   ·obtain ⟨hl,hm,k,hkm,hk⟩:=hb hbf
    have hkk:=hak.ask k hkm
    rw [hk]
    simp only [Option.elim]
    refine ad (P:=fun q => q = false → vfits k.Size (pFree s n.Id) = true ∧ pRoom s a.Queue n.Label k.Size = true) ?_ fun q hq2 => ?_
    ·rw [oy h.sb,Gp,ce,Gp,ol h.sc (h.leafLen ha) n.Label hkk.size.vb]
     exact ae (fun _ => aa (by simp)) fun hf => aa fun e => ⟨by simpa using hf,by simpa using e⟩
    ·refine ae (fun _ => aa ?_) fun hqf => ?_
     ·dsimp only
      rw [if_pos rfl]
      exact ⟨.inr (.inr (.inr rfl)),fun _ => rfl,fun e => (by cases e),.refl s⟩
     ·rw [jS h.z,Gp]
      have hN':=h.noSlot n.Id
      rw [oG hN'.z hN'.sq n (by have:=hak.al; omega) (fun y hy => by have:=(hak.ask y hy).count; omega) (by have:=hak.gr; omega) k,Gp]
      refine aa ?_
      dsimp only
      rw [if_pos rfl]
      have hg : GF (pNoSlot s n.Id) n.Id (ic (pNoSlot s n.Id) n a k,1,gCont (pNoSlot s n.Id) n a k):=xJ hN' ha (hq2 hqf).1 (hq2 hqf).2 hm
      exact hg.noSlot
theorem EL (hN : N ≤ 1000000) (h : Inv N s) (i : Int) : Gv (a_ s i) (GF s i):=by
 have o0 : ∀ c : Cont,GF s i (s,0,c):=fun c => ⟨.inl rfl,fun _ => rfl,fun e => (by cases e),.refl s⟩
 unfold a_
 rw [bR h.z,Gp]
 cases hn0 : cz s i with
 | none => exact aa (o0 _)
 | some n =>
  obtain ⟨hn,rfl⟩:=lB hn0
  simp only [Option.elim,Bool.not_true,cond_false]
  refine ad (P:=fun b => b = false → n.Up = true ∧ s.Conts.length < 200 ∧ s.Seq < 1048575) ?_ ?_
  ·refine ae (fun _ => aa (by simp)) fun h0 => ae (fun _ => aa (by simp)) fun h1 => aa fun h2 => ?_
   simp only [decide_eq_false_iff_not] at h1 h2
   exact ⟨by simpa using h0,by omega,by omega⟩
  ·intro b hb
   refine ae (fun _ => aa (o0 _)) fun hbf => ?_
   obtain ⟨hup,hc,hq⟩:=hb hbf
   rw [r7 h.z,Gp]
   refine ad (P:=fun r => match r with
    | .inl p => Inv N p.1 ∧ (∀ y ∈ p.1.Slots,y.Node ≠ n.Id) ∧ (p.1 = s ∨ p.1 = pNoSlot s n.Id)
    | .inr q => GF s n.Id q) ?_ ?_
   ·cases hs : nV s n.Id with
    | none =>
     simp only [Option.elim,cond_false]
     refine aa ⟨h,fun y hy e => ?_,.inl rfl⟩
     have:=l_ (id:=fun x : Slot => x.Node) hs y hy
     omega
    | some x =>
     simp only [Option.elim,cond_true]
     refine ad (Dy hN h hn hup hc hq x) ?_
     rintro r hr
     refine ae (fun hb => aa ?_) fun hb => aa ?_
     ·rw [if_pos hb] at hr
      exact hr
     ·rw [if_neg (by simp [hb])] at hr
      exact ⟨hr.1,hr.2.1,.inr hr.2.2⟩
   ·rintro (p | q) hr
    ·obtain ⟨r1,r2,r3⟩:=hr
     have fin : ∀ r,GF p.1 n.Id r → GF s n.Id r:=by
      rcases r3 with e | e
      ·rw [e]; exact fun r hr => hr
      ·rw [e]; exact fun r hr => hr.noSlot
     have r4 : p.1.Nodes = s.Nodes ∧ p.1.Conts = s.Conts ∧ p.1.Seq = s.Seq:=by
      rcases r3 with e | e <;> rw [e] <;> exact ⟨rfl,rfl,rfl⟩
     obtain ⟨q1,q2,q3⟩:=r4
     refine ad (vK hN r1 (by rw [q1]; exact hn) hup r2 (by rw [q2]; exact hc) (by rw [q3]; exact hq) true) ?_
     rintro ⟨t,k,c⟩ ⟨g0,g1⟩
     dsimp only at g0 g1 ⊢
     refine ae (fun hz => aa (fin _ g0)) fun hz => ?_
     have u:=g1 (by simpa using hz)
     refine ad (vK hN u.i (by rw [u.k.nd,q1]; exact hn) hup (by rw [u.k.sl]; exact r2) (by rw [u.k.cs,q2]; exact hc) (by rw [u.k.sq,q3]; exact hq) false) ?_
     rintro ⟨t',k',c'⟩ ⟨w0,w1⟩
     exact aa (fin _ (w0.keep r1 u.i u.k))
    ·exact aa hr
end
section
variable {N M : Nat} {s t : State}
theorem Kp.down (k : Kp s t) (path : Str) (label : Int) (least : Bool) : pDown t path label least = pDown s path label least:=by
 unfold pDown uo pTotal
 rw [k.cf,k.nd]
theorem Bv (hs : Inv N s) (ht : Inv M t) (k : Kp s t) {c : Cont} (hc : t.Conts = s.Conts ++ [c]) (path : Str) (label : Int) :
  (pUsed t path label true 0).Mem ≤ (vplus (pUsed s path label true 0) c.Size).Mem ∧ (pUsed t path label true 0).Cores ≤ (vplus (pUsed s path label true 0) c.Size).Cores:=by
 have e : s.Conts.filter (pHas t path label true 0) = s.Conts.filter (pHas s path label true 0):=by
  refine List.filter_congr fun d hd => ?_
  obtain ⟨a,ha,e,_⟩:=(hs.ck d hd).app
  obtain ⟨b,hb,e1,e2,e3⟩:=k.ap a ha
  have h1 : appAt s d.App = some a:=by rw [← e]; exact hs.appAt ha
  have h2 : appAt t d.App = some b:=by rw [← e,← e1]; exact ht.appAt hb
  unfold pHas
  rw [h1,h2]
  simp only [Option.elim_some,e2,e3]
 have hz:=(ht.ck c (by rw [hc]; simp)).size
 unfold SzOk at hz
 unfold pUsed
 rw [hc,List.filter_append,e,List.map_append,wY]
 cases hp : pHas t path label true 0 c
 ·rw [List.filter_cons_of_neg (by simp [hp]),List.filter_nil]
  show (vplus _ (vsum [])).Mem ≤ _ ∧ (vplus _ (vsum [])).Cores ≤ _
  rw [tx]
  unfold vplus
  dsimp only
  omega
 ·rw [List.filter_cons_of_pos hp,List.filter_nil]
  show (vplus _ (vsum [c.Size])).Mem ≤ _ ∧ (vplus _ (vsum [c.Size])).Cores ≤ _
  rw [xN]
  exact ⟨Int.le_refl _,Int.le_refl _⟩
theorem C4 {u v d : Vec} (h : u.Mem ≤ v.Mem ∧ u.Cores ≤ v.Cores) (hv : vfits v d = true) : vfits u d = true:=by
 unfold vfits at hv ⊢
 simp only [Bool.and_eq_true,decide_eq_true_eq] at hv ⊢
 omega
theorem Cr (hN : N + 2 ≤ 1000000) (h : Inv N s) {k : Nat} (hk : k < s.Nodes.length) : ∃ t,a9 (s,(k : Int)) = some (.inl (t,w64 ((k : Int) + 1))) ∧ Inv (N + 1) t ∧ t.Nodes = s.Nodes:=by
 obtain ⟨r,r',er,er',rfl,_,hi⟩:=zg hN h s.Nodes[k].Id
 obtain ⟨r2,e2,hg⟩:=EL (by omega) h s.Nodes[k].Id
 rw [er'] at e2
 cases e2
 refine ⟨r.1,?_,hi,hg.p.nd⟩
 unfold a9
 dsimp only
 rw [ah hk,cond_true,ai hk,Gp,er,Gp]
 have hcl:=h.cl
 have len : (r.1.Conts.length : Int) = (w64 ((w64 ((s.Conts.length : Int) + (Int.tmod r.2.1 2))) - (w64 (Int.tdiv r.2.1 3)))):=by
  rcases hg.k with e | e | e | e
  ·rw [hg.o (by omega),e,show Int.tmod 0 2 = 0 from rfl,show Int.tdiv 0 3 = 0 from rfl,aj (x:=(s.Conts.length : Int) + 0) (by omega) (by omega),aj (x:=(0 : Int)) (by omega) (by omega),aj (by omega) (by omega)]
   omega
  ·obtain ⟨a,ha,g1,g2,g3,g4,g5,g6,g7⟩:=hg.g e
   rw [g7,e,show Int.tmod 1 2 = 1 from rfl,show Int.tdiv 1 3 = 0 from rfl,aj (x:=(s.Conts.length : Int) + 1) (by omega) (by omega),aj (x:=(0 : Int)) (by omega) (by omega),aj (by omega) (by omega),Gs,List.length_singleton]
   omega
  ·rw [hg.o (by omega),e,show Int.tmod 2 2 = 0 from rfl,show Int.tdiv 2 3 = 0 from rfl,aj (x:=(s.Conts.length : Int) + 0) (by omega) (by omega),aj (x:=(0 : Int)) (by omega) (by omega),aj (by omega) (by omega)]
   omega
  ·rw [hg.o (by omega),e,show Int.tmod 3 2 = 1 from rfl,show Int.tdiv 3 3 = 1 from rfl,aj (x:=(s.Conts.length : Int) + 1) (by omega) (by omega),aj (x:=(1 : Int)) (by omega) (by omega),aj (by omega) (by omega)]
   omega
 by_cases hk1 : r.2.1 = 1
 ·obtain ⟨a,ha,g1,g2,g3,g4,g5,g6,g7⟩:=hg.g hk1
  have hsz:=(hi.ck r.2.2 (by rw [g7]; simp)).size.vb
  have hql:=h.leafLen ha
  have hat : appAt s r.2.2.App = some a:=by rw [← g1]; exact h.appAt ha
  have hul:=oh a.Queue
  have hpl:=(h.ak a ha).path.len
  have up : loop (ca r (pUp a.Queue)) 0 = some (.inr ()):=oJ _ (pUp a.Queue).length _ (fun j hj => by
   have hm:=List.getElem_mem hj
   have hx:=sW hm
   have h1:=List.all_eq_true.1 g3 _ hm
   unfold jN at h1
   have h2:=(Bool.and_eq_true _ _ ▸ h1).1
   have h3:=C4 (Bv h hi hg.p g7 (pUp a.Queue)[j] r.2.2.Label) h2
   unfold ca
   rw [ah hj,cond_true,ay hj,Gp,Gq hj,Gp,kw hi.sb,Gp,Gp,Gq hj,Gp,u0 hi.sc (by omega),Gp,ce,Gp,hg.p.down,h3,Bool.not_true,cond_false,lG (by omega)]) (by
   unfold ca
   rw [ao,cond_false])
  have hus : vfits (pUsed s a.Queue r.2.2.Label false a.User) (pUser s a.Queue r.2.2.Label) = true:=g4
  rw [show (r.2.1 == 1) = true from beq_iff_eq.2 hk1,cond_true,aT h.z,hat,Gp]
  simp only [Option.elim_some,Bool.not_true,cond_false]
  rw [oy h.sb,Gp,ce,Gp,g6,g2,Bool.not_true,cond_false,ol h.sc hql _ hsz,Gp,g3,Bool.not_true,cond_false,sD h.sb,Gp,zu h.sc hql,Gp,ce,Gp,hus,Bool.not_true,cond_false,g5]
  simp only [bne_self_eq_false,cond_false,Gp]
  rw [wc hql,Gp,up,Gp]
  dsimp only
  rw [Gp]
  dsimp only
  rw [yg hi,Gp,Bool.not_true,cond_false,← len]
  simp only [bne_self_eq_false,Gp,cond_false]
 ·rw [show (r.2.1 == 1) = false from beq_eq_false_iff_ne.2 hk1,cond_false,Gp]
  dsimp only
  rw [yg hi,Gp,Bool.not_true,cond_false,← len]
  simp only [bne_self_eq_false,Gp,cond_false]
theorem tX (hN : N + 20 ≤ 1000000) (h : Inv N s) : ∃ t,loop a9 (s,0) = some (.inr t) ∧ Inv (N + 12) t:=by
 have hnl:=h.nl
 obtain ⟨x,e,t,rfl,ht⟩:=av (fun (p : State) i => (p,i)) s.Nodes.length (fun k p => Inv (N + k) p ∧ p.Nodes = s.Nodes) (step:=a9) (Q:=fun x => ∃ t : State,x = .inr t ∧ Inv (N + 12) t) (by omega) (by
  rintro k hk p ⟨hp,hn⟩
  obtain ⟨t,e,ht,hn'⟩:=Cr (by omega) hp (k:=k) (by rw [hn]; exact hk)
  exact ⟨_,e,.inl ⟨t,rfl,ht,hn'.trans hn⟩⟩) (by
  rintro p ⟨hp,hn⟩
  unfold a9
  dsimp only
  rw [hn,ao,cond_false]
  exact aa ⟨_,rfl,p,rfl,hp.mono (by omega)⟩) (s:=s) ⟨h,rfl⟩
 exact ⟨t,e,ht⟩
theorem uj (a0 : Script) : dh a0 = some true:=by
 unfold dh
 rw [AP]
 simp only [Gp,Bool.not_true,cond_false]
 refine Ab fun s hs => ?_
 obtain ⟨t1,e1,h1⟩:=tX (by omega) hs
 obtain ⟨t2,e2,h2⟩:=tX (by omega) h1
 have l0 : a7 (s,0) = some (.inl (t1,1)):=by
  unfold a7
  dsimp only
  rw [e1]
  rfl
 have l1 : a7 (t1,1) = some (.inl (t2,2)):=by
  unfold a7
  dsimp only
  rw [e2]
  rfl
 have l2 : a7 (t2,2) = some (.inr (.inr ())):=rfl
 rw [mu l0,mu l1,eF l2]
 rfl
end
end Go.Fx.D
