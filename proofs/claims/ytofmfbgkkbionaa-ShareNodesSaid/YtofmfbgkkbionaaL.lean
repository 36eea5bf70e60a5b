/-
  The law over plain data: true at all inputs. Conditions: none.
-/
import Derived.Test.YtofmfbgkkbionaaG
import Derived.Test.YtofmfbgkkbionaaV
import Derived.Test.YtofmfbgkkbionaaFxC
namespace Go.Fx.D
open Go Go.Fx
set_option linter.unusedVariables false
set_option linter.unusedSimpArgs false
set_option maxRecDepth 1000000
theorem eL {x : Int} (h1 : -9223372036854775808 ≤ x) (h2 : x < 9223372036854775808) : w64 x = x:=ri h1 h2
theorem gR {a n : Int} (h0 : 0 < n) (h1 : n ≤ 4611686018427387904) : aQ a n = some (a % n):=by
 unfold aQ
 have hn : nz n = some ():=by unfold nz; rw [if_pos (by omega)]
 rw [hn]
 have hm : Int.tmod a n = if 0 ≤ a ∨ n ∣ a then a % n else a % n - n:=by
  rw [Int.tmod_eq_emod]
  split <;> simp [Int.natAbs_of_nonneg (Int.le_of_lt h0)]
 have e0:=Int.emod_nonneg a (show n ≠ 0 by omega)
 have e1:=Int.emod_lt_of_pos a h0
 simp only [rF,Bool.cond_eq_ite,decide_eq_true_eq]
 rw [hm]
 by_cases hc : 0 ≤ a ∨ n ∣ a
 ·rw [if_pos hc,if_neg (by omega)]; rfl
 ·rw [if_neg hc,if_pos (by omega),eL (by omega) (by omega)]
  simp only [rF,Option.some.injEq]
  omega
def VB (n : Int) (v : Vec) : Prop:=(0 ≤ v.Mem ∧ v.Mem ≤ n) ∧ 0 ≤ v.Cores ∧ v.Cores ≤ n
instance (n : Int) (a : Vec) : Decidable (VB n a):=by unfold VB; infer_instance
def vsum (l : List Vec) : Vec:=⟨(l.map (·.Mem)).sum,(l.map (·.Cores)).sum⟩
def vplus (a b : Vec) : Vec:=⟨a.Mem + b.Mem,a.Cores + b.Cores⟩
theorem lI : vsum [] = ⟨0,0⟩:=rfl
theorem pG (l m : List Vec) : vsum (l ++ m) = vplus (vsum l) (vsum m):=by simp [vsum,vplus]
theorem pR (v : Vec) : vsum [v] = v:=by simp [vsum]
theorem kS (v : Vec) (l : List Vec) : vsum (v :: l) = vplus v (vsum l):=by simp [vsum,vplus]
theorem qT {n : Int} (hn : 0 ≤ n) {l : List Vec} (h : ∀ v ∈ l,VB n v) : VB (l.length * n) (vsum l):=by
 induction l with
 | nil => simp [vsum,VB]
 | cons v l ih =>
  have h1:=ih (fun v hv => h v (by simp [hv]))
  have h2:=h v (by simp)
  rw [kS]
  unfold VB vplus at *
  simp only [List.length_cons,Int.natCast_add,Int.add_mul]
  omega
theorem nC {a b : Vec} {n : Int} (ha : VB n a) (hb : VB n b) (hn : n ≤ 4000000000000000000) : bN a b = some (vplus a b):=by
 unfold VB at *
 unfold bN vplus
 rw [eL (by omega) (by omega),eL (by omega) (by omega)]
theorem VB.mono {n m : Int} {v : Vec} (h : VB n v) (hm : n ≤ m) : VB m v:=by unfold VB at *; omega
theorem lP {n m : Int} {a b : Vec} (ha : VB n a) (hb : VB m b) : VB (n + m) (vplus a b):=by unfold VB vplus at *; dsimp only; omega
theorem iH (a : Vec) : a8 a = some (decide (VB 1125899906842624 a)):=by
 unfold a8
 have e : decide (VB 1125899906842624 a) = ((decide (a.Mem ≥ 0) && decide (a.Mem ≤ 1125899906842624)) && (decide (a.Cores ≥ 0) && decide (a.Cores ≤ 1125899906842624))):=by
  rw [Bool.eq_iff_iff,decide_eq_true_iff]
  simp only [Bool.and_eq_true,decide_eq_true_eq,VB,ge_iff_le]
 rw [e]
 cases decide (a.Mem ≥ 0) <;> cases decide (a.Mem ≤ 1125899906842624) <;> cases decide (a.Cores ≥ 0) <;> cases decide (a.Cores ≤ 1125899906842624) <;> rfl
theorem pw {a : Vec} (h : VB 1125899906842624 a) : cK a = some (a,0):=by
 unfold cK
 rw [iH,decide_eq_true h]
 rfl
theorem rh {a b : Vec} {n m : Int} (ha : VB n a) (hb : VB m b) (h : n + m ≤ 1125899906842624) : dH a b = some (vplus a b,0):=by
 have hn : 0 ≤ n ∧ 0 ≤ m:=by unfold VB at ha hb; omega
 have hs:=lP ha hb
 unfold dH
 rw [iH,iH,decide_eq_true (ha.mono (by omega)),decide_eq_true (hb.mono (by omega))]
 simp only [rF,Bool.not_true,cond_false]
 have e : (⟨w64 (a.Mem + b.Mem),w64 (a.Cores + b.Cores)⟩ : Vec) = vplus a b:=by
  unfold VB vplus at hs
  dsimp only at hs
  rw [eL (by omega) (by omega),eL (by omega) (by omega)]
  rfl
 rw [e,pw (hs.mono h)]
 rfl
theorem jo (a b : Vec) : vplus a b = vplus b a:=by unfold vplus; congr 1 <;> omega
theorem mZ (a b c : Vec) : vplus (vplus a b) c = vplus a (vplus b c):=by unfold vplus; dsimp only; congr 1 <;> omega
theorem gb (a : Vec) : vplus ⟨0,0⟩ a = a:=by cases a; simp [vplus]
theorem mI (l : List Vec) (z : Vec) : l.foldl vplus z = vplus z (vsum l):=by
 induction l generalizing z with
 | nil => rw [lI,jo,gb]; rfl
 | cons x l ih => rw [List.foldl_cons,ih,kS,mZ]
theorem rB {l : List Vec} (hl : l.length ≤ 1000) (h : ∀ v ∈ l,VB 1099511627776 v) : de l = some (vsum l):=by
 unfold de
 rw [(kL (fun v i => (v,i)) l vplus (fun k v => VB (1099511627776 * k) v) (fun v => v) (step:=cq l) (by omega) ?_ ?_ (s:=(⟨0,0⟩ : Vec)) (by simp [VB])).1]
 ·rw [mI,gb]; rfl
 ·intro k hk s hs
  have hb:=h _ (List.getElem_mem hk)
  refine ⟨?_,(lP hs hb).mono (by omega)⟩
  unfold cq
  rw [ja hk,gI hk]
  simp only [cond_true,rF]
  rw [rh hs hb (by omega)]
  rfl
 ·intro s _
  unfold cq
  rw [n9]
  rfl
def tot (ns : List Node) (lab : Int) : Vec:=vsum ((ns.filter fun n => n.Up && n.Label == lab).map (·.Cap))
def NOk (n : Node) : Prop:=(n.Label = 0 ∨ n.Label = 1) ∧ VB 1073741824 n.Cap
def stN (ns : List Node) : State:=⟨⟨[([] : List UInt8),[103,112,117]],[⟨[114,111,111,116],[⟨10000,10000⟩,⟨10000,10000⟩],10000⟩]⟩,ns,[],[],[],[],0,0,0⟩
theorem pg {ns : List Node} (hl : ns.length ≤ 12) (h : ∀ n ∈ ns,NOk n) (lab : Int) : VB 12884901888 (tot ns lab):=by
 unfold tot
 have h1 : ((ns.filter fun n => n.Up && n.Label == lab).map (·.Cap)).length ≤ 12:=by
  rw [List.length_map]
  have:=List.length_filter_le (fun n : Node => n.Up && n.Label == lab) ns
  omega
 refine (qT (n:=1073741824) (by omega) fun v hv => ?_).mono (by omega)
 obtain ⟨n,hn,rfl⟩:=List.mem_map.1 hv
 exact (h n (List.mem_filter.1 hn).1).2
theorem nf (ns : List Node) (n : Node) (lab : Int) : tot (ns ++ [n]) lab = if (n.Up && n.Label == lab) = true then vplus (tot ns lab) n.Cap else tot ns lab:=by
 unfold tot
 rw [List.filter_append,List.map_append,pG]
 by_cases h : (n.Up && n.Label == lab) = true
 ·rw [if_pos h,List.filter_cons,if_pos h]
  simp [pR]
 ·rw [if_neg h,List.filter_cons,if_neg h]
  simp only [List.filter_nil,List.map_nil,lI]
  rw [jo,gb]
theorem lE {ns : List Node} (hl : ns.length ≤ 12) (h : ∀ n ∈ ns,NOk n) (lab : Int) : bj (stN ns) lab = some (tot ns lab):=by
 unfold bj
 rw [m8 (fun (l : List Vec) i => (l,i)) ns (fun n => n.Up && n.Label == lab) (·.Cap) (step:=bY (stN ns) lab) (by omega) ?_ ?_]
 ·rw [rF,rB]
  ·rfl
  ·rw [List.length_map]
   have:=List.length_filter_le (fun n : Node => n.Up && n.Label == lab) ns
   omega
  ·intro v hv
   obtain ⟨n,hn,rfl⟩:=List.mem_map.1 hv
   exact (h n (List.mem_filter.1 hn).1).2.mono (by omega)
 ·intro k hk l hl
  unfold bY
  show (bif decide ((k : Int) < (ns.length : Int)) then ((idx ns (k : Int)).bind _).bind _ else _) = _
  rw [ja hk,gI hk]
  simp only [cond_true,rF]
  rw [iX (by simp; omega) (by omega)]
  cases ns[k].Up <;> cases ns[k].Label == lab <;> rfl
 ·intro l
  unfold bY
  show (bif decide ((ns.length : Int) < (ns.length : Int)) then _ else _) = _
  rw [n9]
  rfl
theorem qG : eA [114,111,111,116] = some [[114,111,111,116]]:=(gq _).ok _ (by kernel_rfl)
theorem oD : eA [110,111,98,111,100,121] = some [[110,111,98,111,100,121]]:=(gq _).ok _ (by kernel_rfl)
theorem ph (ns : List Node) : cH (stN ns).Conf [114,111,111,116] = some (⟨[114,111,111,116],[⟨10000,10000⟩,⟨10000,10000⟩],10000⟩,true):=(dn _ _).ok _ (by kernel_rfl)
theorem mY (ns : List Node) : cH (stN ns).Conf [110,111,98,111,100,121] = some (⟨[],[],0⟩,false):=(dn _ _).ok _ (by kernel_rfl)
theorem kf {ns : List Node} {lab : Int} {v : Vec} (h : bj (stN ns) lab = some v) (part : TupT fam [.st 1] → Option Int) : bR (stN ns) [114,111,111,116] lab part = some v:=by
 unfold bR
 rw [qG,ph,h]
 have e : w64 ((([[114,111,111,116]] : List (List UInt8)).length : Int) - 2) = -1:=by
  rw [eL] <;> simp
 simp only [rF,Bool.not_true,cond_false,e]
 rw [fy]
 unfold cX
 rfl
theorem mH {ns : List Node} {lab : Int} (part : TupT fam [.st 1] → Option Int) : bR (stN ns) [110,111,98,111,100,121] lab part = some ⟨0,0⟩:=by
 unfold bR
 rw [oD,mY]
 rfl
theorem oJ {caps : List Vec} {ups : List Bool} {labels : List Int} {k : Nat} (hk : k < caps.length) (h12 : caps.length ≤ 12) {ns : List Node} (hl : ns.length = k) (h : ∀ n ∈ ns,NOk n) :
  ∃ n,NOk n ∧ aM caps ups labels (stN ns,[tot ns 0,tot ns 1],(k : Int)) = some (.inl (stN (ns ++ [n]),[tot (ns ++ [n]) 0,tot (ns ++ [n]) 1],((k + 1 : Nat) : Int))):=by
 have hlast : ∀ n : Node,NOk n → ((
   bif n.Up then
    (inb n.Label 2).bind fun i2 =>
    ([tot ns 0,tot ns 1][i2]?).bind fun x12 =>
    (bN x12 n.Cap).bind fun x13 =>
    (inb n.Label 2).bind fun i3 =>
    ([tot ns 0,tot ns 1][i3]?).bind fun x14 =>
    some (List.set [tot ns 0,tot ns 1] i3 x13)
   else
    some [tot ns 0,tot ns 1]).bind fun want =>
   (app 64 ns [n]).bind fun l1 =>
   some (.inl ((⟨⟨(stN ns).Conf.Labels,(stN ns).Conf.Queues⟩,l1,(stN ns).Apps,(stN ns).Conts,(stN ns).Slots,(stN ns).Plans,(stN ns).Now,(stN ns).Epoch,(stN ns).Seq⟩ : State),want,w64 ((k : Int) + 1))) : Option ((State × List Vec × Int) ⊕ (State × List Vec))) =
   some (.inl (stN (ns ++ [n]),[tot (ns ++ [n]) 0,tot (ns ++ [n]) 1],((k + 1 : Nat) : Int))):=by
  intro n hn
  have ew : w64 ((k : Int) + 1) = ((k + 1 : Nat) : Int):=by rw [eL] <;> omega
  rw [iX (by simp; omega) (by omega),ew]
  have b0:=pg (by omega) h 0
  have b1:=pg (by omega) h 1
  have bn : VB 12884901888 n.Cap:=hn.2.mono (by omega)
  rw [nf,nf]
  cases hu : n.Up with
  | false => rfl
  | true =>
   rcases hn.1 with e | e
   ·rw [e]
    have : inb (0 : Int) 2 = some 0:=rfl
    simp only [cond_true,this,rF,List.getElem?_cons_zero,nC b0 bn (by omega)]
    rfl
   ·rw [e]
    have : inb (1 : Int) 2 = some 1:=rfl
    simp only [cond_true,this,rF,List.getElem?_cons_succ,List.getElem?_cons_zero,nC b1 bn (by omega)]
    rfl
 unfold aM
 dsimp only
 rw [ja hk,gI hk]
 simp only [cond_true,rF]
 rw [gR (by omega) (by omega),gR (by omega) (by omega)]
 simp only [rF]
 have hup : ∃ up : Bool,((bif decide ((k : Int) < (ups.length : Int)) then (idx ups (k : Int)).bind fun x9 => some (⟨(k : Int),0,0,⟨caps[k].Mem % 1073741824,caps[k].Cores % 1073741824⟩,0,0,x9⟩ : Node)
   else some (⟨(k : Int),0,0,⟨caps[k].Mem % 1073741824,caps[k].Cores % 1073741824⟩,0,0,false⟩ : Node)) : Option Node) = some ⟨(k : Int),0,0,⟨caps[k].Mem % 1073741824,caps[k].Cores % 1073741824⟩,0,0,up⟩:=by
  by_cases hku : k < ups.length
  ·rw [ja hku,gI hku]; exact ⟨_,rfl⟩
  ·rw [decide_eq_false (by omega)]; exact ⟨_,rfl⟩
 obtain ⟨up,hup⟩:=hup
 rw [hup]
 simp only [rF]
 have hv : VB 1073741824 (⟨caps[k].Mem % 1073741824,caps[k].Cores % 1073741824⟩ : Vec):=by unfold VB; dsimp only; omega
 have hlab : ∃ lab : Int,(lab = 0 ∨ lab = 1) ∧ ((bif decide ((k : Int) < (labels.length : Int)) then (idx labels (k : Int)).bind fun x10 => (aQ x10 2).bind fun x11 => some (⟨(k : Int),x11,0,⟨caps[k].Mem % 1073741824,caps[k].Cores % 1073741824⟩,0,0,up⟩ : Node)
   else some (⟨(k : Int),0,0,⟨caps[k].Mem % 1073741824,caps[k].Cores % 1073741824⟩,0,0,up⟩ : Node)) : Option Node) = some ⟨(k : Int),lab,0,⟨caps[k].Mem % 1073741824,caps[k].Cores % 1073741824⟩,0,0,up⟩:=by
  by_cases hkl : k < labels.length
  ·rw [ja hkl,gI hkl]
   simp only [cond_true,rF]
   rw [gR (by omega) (by omega)]
   exact ⟨_,by omega,rfl⟩
  ·rw [decide_eq_false (by omega)]; exact ⟨0,.inl rfl,rfl⟩
 obtain ⟨lab,hl2,hlab⟩:=hlab
 rw [hlab]
 simp only [rF]
 exact ⟨⟨(k : Int),lab,0,⟨caps[k].Mem % 1073741824,caps[k].Cores % 1073741824⟩,0,0,up⟩,⟨hl2,hv⟩,hlast ⟨(k : Int),lab,0,⟨caps[k].Mem % 1073741824,caps[k].Cores % 1073741824⟩,0,0,up⟩ ⟨hl2,hv⟩⟩
theorem jz {caps : List Vec} {ups : List Bool} {labels : List Int} (h12 : caps.length ≤ 12) : ∀ (m k : Nat) (ns : List Node),k + m = caps.length → ns.length = k → (∀ n ∈ ns,NOk n) →
  ∃ ns',loop (aM caps ups labels) (stN ns,[tot ns 0,tot ns 1],(k : Int)) = some (stN ns',[tot ns' 0,tot ns' 1]) ∧ ns'.length ≤ 12 ∧ ∀ n ∈ ns',NOk n
 | 0,k,ns,hm,hl,h => by
  refine ⟨ns,?_,by omega,h⟩
  rw [fy]
  unfold aM
  dsimp only
  rw [show k = caps.length by omega,n9]
  rfl
 | m + 1,k,ns,hm,hl,h => by
  obtain ⟨n,hn,hs⟩:=oJ (ups:=ups) (labels:=labels) (by omega : k < caps.length) h12 hl h
  obtain ⟨ns',h1,h2,h3⟩:=jz (ups:=ups) (labels:=labels) h12 m (k + 1) (ns ++ [n]) (by omega) (by simp [hl]) (fun x hx => by
   rcases List.mem_append.1 hx with hx | hx
   ·exact h x hx
   ·rw [rJ] at hx; subst hx; exact hn)
  refine ⟨ns',?_,h2,h3⟩
  rw [fy,hs]
  exact h1
theorem pE : bI = some true:=(fC).ok _ (by kernel_rfl)
theorem je (caps : List Vec) (ups : List Bool) (labels : List Int) : bA caps ups labels = some true:=by
 unfold bA
 rw [pE]
 simp only [rF,Bool.not_true,cond_false]
 by_cases h12 : caps.length ≤ 12
 ·rw [decide_eq_false (by omega)]
  unfold bu
  obtain ⟨ns,h1,h2,h3⟩:=jz (ups:=ups) (labels:=labels) h12 caps.length 0 [] (by omega) rfl (by simp)
  have e1 : (stN [],[tot [] 0,tot [] 1],((0 : Nat) : Int)) = ((⟨⟨[([] : List UInt8),([103,112,117] : List UInt8)],[(⟨[114,111,111,116],[⟨10000,10000⟩,⟨10000,10000⟩],10000⟩ : Queue)]⟩,[],[],[],[],[],0,0,0⟩ : State),[(⟨0,0⟩ : Vec),⟨0,0⟩],(0 : Int)):=rfl
  rw [e1] at h1
  have ei : inb (0 : Int) 1 = some 0:=rfl
  have ea : app 16 [(⟨10000,10000⟩ : Cap)] [(⟨10000,10000⟩ : Cap)] = some [⟨10000,10000⟩,⟨10000,10000⟩]:=iX (by simp) (by omega)
  simp only [cond_false,rF,List.length_singleton,ei,List.getElem?_cons_zero,ea,Nat.beq_refl,cond_true,List.set_cons_zero]
  rw [h1]
  have t0:=lE h2 h3 0
  have t1:=lE h2 h3 1
  simp only [rF,t0,t1,List.getElem?_cons_zero,List.getElem?_cons_succ,beq_self_eq_true,Bool.and_self,cond_true]
  unfold ci cP
  rw [kf t1]
  simp only [rF,beq_self_eq_true,Bool.and_self,cond_true]
  rw [kf t0,mH]
  simp
 ·rw [decide_eq_true (by omega)]
  rfl
end Go.Fx.D
