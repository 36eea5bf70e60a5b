/-
  The law over plain data: true at all inputs. Conditions: none.
-/
import Derived.Test.YtmpaebhomokjmaaGreatH0
namespace Go.Fx.D
open Go Go.Fx
set_option linter.unusedVariables false
set_option linter.unusedSimpArgs false
set_option maxRecDepth 1000000
theorem sB {s : State} {p : Str} {l m z : Int} {v x : Vec} {e r : Int} {part : TupT fam [.st 0] → Option Int} (hu : lV p = some [p,rt]) (hf : fS s.Conf p = some (⟨p,[⟨l,m⟩],z⟩,true)) (ht : ej s 0 = some v)
  (hp : part (⟨l,m⟩,()) = some r) (hs : dN v r = some (x,e)) : hZ s p 0 part = some x:=by
 have e1 : fH s 0 part [p,rt] (⟨0,0⟩,v,0) = some (.inl (⟨0,0⟩,x,-1)):=by
  have h0 : fH s 0 part [p,rt] (⟨0,0⟩,v,0) = (fS s.Conf p).bind fun x3 =>
   ((bif ! x3.2 then some true else some (decide ((0 : Int) ≥ (x3.1.Caps.length : Int)))).bind fun q =>
   bif q then some (.inr (.inl (⟨0,0⟩ : Vec))) else
   (inb 0 x3.1.Caps.length).bind fun i2 => (x3.1.Caps[i2]?).bind fun x4 => (part (x4,())).bind fun r => (dN v r).bind fun x5 => some (.inl ((⟨0,0⟩ : Vec),x5.1,-1))):=rfl
  rw [h0,hf,Dm]
  show (part (⟨l,m⟩,())).bind (fun r => (dN v r).bind fun x5 => (some (Sum.inl ((⟨0,0⟩ : Vec),x5.1,(-1 : Int))) : Option ((Vec × Vec × Int) ⊕ (Vec ⊕ (Vec × Vec))))) = _
  rw [hp,Dm,hs,Dm]
 have e2 : fH s 0 part [p,rt] (⟨0,0⟩,x,-1) = some (.inr (.inr (⟨0,0⟩,x))):=rfl
 unfold hZ
 rw [hu,Dm,hf,Dm]
 simp only [Bool.not_true,cond_false]
 rw [ht,Dm]
 have ew : w64 (([p,rt].length : Int) - 2) = 0:=rfl
 rw [ew,bf,e1]
 dsimp only
 rw [bf,e2]
 rfl
structure Fc (s : State) (u gA gB w : Int) : Prop where
 kr : eU s.Conf rt = some [qA,qB]
 ka : eU s.Conf qA = some []
 kb : eU s.Conf qB = some []
 tot : ej s 0 = some ⟨u,u⟩
 lA : cO s qA 0 = some ⟨gA,gA⟩
 lB : cO s qB 0 = some ⟨gB,gB⟩
 mA : eh s qA 0 = some ⟨u,u⟩
 mB : eh s qB 0 = some ⟨u,u⟩
 uA : aU s qA 0 = some ⟨u - 1,u - 1⟩
 uB : aU s qB 0 = some ⟨1,1⟩
 uR : aU s rt 0 = some ⟨u,u⟩
 pA : aw s qA 0 = some ⟨0,0⟩
 pB : aw s qB 0 = some ⟨w,w⟩
section
variable {s : State} {u gA gB w x0 x1 : Int}
theorem vX (F : Fc s u gA gB w) (hs : em u [gA,gB] [w64 (u - 1 + 0),w64 (1 + w)] [u,u] = some [x0,x1]) : dO s 0 = some [⟨qA,x0⟩,⟨qB,x1⟩]:=by
 have leafA : ∀ (n : Nat) (m : Int),aG (n + 1) s qA 0 m 2 = some [⟨qA,m⟩]:=by
  intro n m
  show cY (aG n) s qA 0 m 2 = _
  unfold cY
  rw [F.ka,Dm]
  rfl
 have leafB : ∀ (n : Nat) (m : Int),aG (n + 1) s qB 0 m 2 = some [⟨qB,m⟩]:=by
  intro n m
  show cY (aG n) s qB 0 m 2 = _
  unfold cY
  rw [F.kb,Dm]
  rfl
 have a1 : bz s 0 [qA,qB] (⟨[0,0],[0,0],[0,0]⟩,0) = some (.inl (⟨[gA,0],[w64 (u - 1 + 0),0],[u,0]⟩,1)):=by
  have h0 : bz s 0 [qA,qB] (⟨[0,0],[0,0],[0,0]⟩,0) = (cO s qA 0).bind fun x1 => (aU s qA 0).bind fun x2 => (aw s qA 0).bind fun x3 => (eh s qA 0).bind fun x4 =>
   some (.inl (⟨[x1.Mem,0],[w64 (x2.Mem + x3.Mem),0],[x4.Mem,0]⟩,1)):=rfl
  rw [h0,F.lA,Dm,F.uA,Dm,F.pA,Dm,F.mA,Dm]
 have a2 : bz s 0 [qA,qB] (⟨[gA,0],[w64 (u - 1 + 0),0],[u,0]⟩,1) = some (.inl (⟨[gA,gB],[w64 (u - 1 + 0),w64 (1 + w)],[u,u]⟩,2)):=by
  have h0 : bz s 0 [qA,qB] (⟨[gA,0],[w64 (u - 1 + 0),0],[u,0]⟩,1) = (cO s qB 0).bind fun x1 => (aU s qB 0).bind fun x2 => (aw s qB 0).bind fun x3 => (eh s qB 0).bind fun x4 =>
   some (.inl (⟨[gA,x1.Mem],[w64 (u - 1 + 0),w64 (x2.Mem + x3.Mem)],[u,x4.Mem]⟩,2)):=rfl
  rw [h0,F.lB,Dm,F.uB,Dm,F.pB,Dm,F.mB,Dm]
 have a3 : bz s 0 [qA,qB] (⟨[gA,gB],[w64 (u - 1 + 0),w64 (1 + w)],[u,u]⟩,2) = some (.inr ⟨[gA,gB],[w64 (u - 1 + 0),w64 (1 + w)],[u,u]⟩):=rfl
 have b1 : bv s 0 1 (aG 63) [qA,qB] [x0,x1] ([],0) = some (.inl ([⟨qA,x0⟩],1)):=by
  have h0 : bv s 0 1 (aG 63) [qA,qB] [x0,x1] ([],0) = (aG 63 s qA 0 x0 2).bind fun x8 => (app 24 [] x8).bind fun l3 => some (.inl (l3,1)):=rfl
  rw [h0,leafA 62,Dm]
  rfl
 have b2 : bv s 0 1 (aG 63) [qA,qB] [x0,x1] ([⟨qA,x0⟩],1) = some (.inl ([⟨qA,x0⟩,⟨qB,x1⟩],2)):=by
  have h0 : bv s 0 1 (aG 63) [qA,qB] [x0,x1] ([⟨qA,x0⟩],1) = (aG 63 s qB 0 x1 2).bind fun x8 => (app 24 [⟨qA,x0⟩] x8).bind fun l3 => some (.inl (l3,2)):=rfl
  rw [h0,leafB 62,Dm]
  rfl
 have b3 : bv s 0 1 (aG 63) [qA,qB] [x0,x1] ([⟨qA,x0⟩,⟨qB,x1⟩],2) = some (.inr [⟨qA,x0⟩,⟨qB,x1⟩]):=rfl
 unfold dO jU
 rw [F.tot,Dm]
 have e : aG 64 s ([114,111,111,116] : List UInt8) 0 u 1 = some [⟨qA,x0⟩,⟨qB,x1⟩]:=by
  show cY (aG 63) s rt 0 u 1 = _
  unfold cY
  rw [F.kr,Dm]
  show ((mkl 8 2 2 0).bind fun l => (mkl 8 2 2 0).bind fun l1 => (mkl 8 2 2 0).bind fun l2 => (loop (bz s 0 [qA,qB]) ((⟨l,l1,l2⟩ : Rows3_ListInt),0)).bind fun rows =>
   (em u rows.r0 rows.r1 rows.r2).bind fun x5 => (loop (bv s 0 1 (aG 63) [qA,qB] x5) ([],0)).bind fun out => some out) = _
  rw [show mkl 8 2 2 (0 : Int) = some [0,0] from rfl]
  simp only [Dm]
  rw [bf,a1]
  dsimp only
  rw [bf,a2]
  dsimp only
  rw [bf,a3]
  dsimp only
  rw [Dm]
  dsimp only
  rw [hs,Dm,bf,b1]
  dsimp only
  rw [bf,b2]
  dsimp only
  rw [bf,b3]
  rfl
 rw [e]
 rfl
theorem yu (F : Fc s u gA gB w) (hl : dO s 0 = some [⟨qA,x0⟩,⟨qB,x1⟩]) {lm : List Ent2_IntListUInt8}
  (h2 : loop (eB s 0) (kT s (w64 (u - 1 - x0)) (w64 (1 - x1)) [],0) = some (kT s (w64 (u - 1 - x0)) (w64 (1 - x1)) lm)) : eo s 0 = some (kT s (w64 (u - 1 - x0)) (w64 (1 - x1)) lm):=by
 have a1 : bQ s 0 [⟨qA,x0⟩,⟨qB,x1⟩] ((⟨s,0,[],[],[],0⟩ : Looker),0) = some (.inl ((⟨s,0,[⟨qA,w64 (u - 1 - x0)⟩],[],[],0⟩ : Looker),1)):=by
  have h0 : bQ s 0 [⟨qA,x0⟩,⟨qB,x1⟩] ((⟨s,0,[],[],[],0⟩ : Looker),0) = (aU s qA 0).bind fun x2 => some (.inl ((⟨s,0,[⟨qA,w64 (x2.Mem - x0)⟩],[],[],0⟩ : Looker),1)):=rfl
  rw [h0,F.uA,Dm]
 have a2 : bQ s 0 [⟨qA,x0⟩,⟨qB,x1⟩] ((⟨s,0,[⟨qA,w64 (u - 1 - x0)⟩],[],[],0⟩ : Looker),1) = some (.inl (kT s (w64 (u - 1 - x0)) (w64 (1 - x1)) [],2)):=by
  have h0 : bQ s 0 [⟨qA,x0⟩,⟨qB,x1⟩] ((⟨s,0,[⟨qA,w64 (u - 1 - x0)⟩],[],[],0⟩ : Looker),1) = (aU s qB 0).bind fun x2 => some (.inl ((⟨s,0,[⟨qA,w64 (u - 1 - x0)⟩,⟨qB,w64 (x2.Mem - x1)⟩],[],[],0⟩ : Looker),2)):=rfl
  rw [h0,F.uB,Dm]
  rfl
 have a3 : bQ s 0 [⟨qA,x0⟩,⟨qB,x1⟩] (kT s (w64 (u - 1 - x0)) (w64 (1 - x1)) [],2) = some (.inr (kT s (w64 (u - 1 - x0)) (w64 (1 - x1)) [])):=rfl
 unfold eo
 rw [hl,Dm]
 show (loop (bQ s 0 [⟨qA,x0⟩,⟨qB,x1⟩]) ((⟨s,0,[],[],[],0⟩ : Looker),0)).bind _ = _
 rw [bf,a1]
 dsimp only
 rw [bf,a2]
 dsimp only
 rw [bf,a3]
 dsimp only
 rw [Dm,h2,Dm]
theorem uX {v : Int} (F : Fc s u gA gB w) (hu : 0 ≤ u ∧ u ≤ 100) (hv : 0 ≤ v ∧ v ≤ 100) (hl : dO s 0 = some [⟨qA,x0⟩,⟨qB,x1⟩]) {x y : Int} {lm : List Ent2_IntListUInt8}
  (hA : loop (aC (kT s x y lm) qA ⟨u - 1,u - 1⟩ ⟨gA,gA⟩) 0 = some (.inr ())) {q : Int ⊕ Unit} (hB : loop (aC (kT s x y lm) qB ⟨1,1⟩ ⟨gB,gB⟩) 0 = some q) (hq : q = .inl v ∨ (q = .inr () ∧ v = 0)) :
  a_ (kT s x y lm) = some (v,kT s x y lm):=by
 have nA : aN (kT s x y lm) qA = some (0,kT s x y lm):=by
  unfold aN
  rw [show (kT s x y lm).s = s from rfl,show (kT s x y lm).label = 0 from rfl,F.uA,Dm,F.lA,Dm,hA]
  rfl
 have nB : aN (kT s x y lm) qB = some (v,kT s x y lm):=by
  unfold aN
  rw [show (kT s x y lm).s = s from rfl,show (kT s x y lm).label = 0 from rfl,F.uB,Dm,F.lB,Dm,hB]
  rcases hq with rfl | ⟨rfl,rfl⟩ <;> rfl
 have a1 : aS [⟨qA,x0⟩,⟨qB,x1⟩] (kT s x y lm,0,0) = some (.inl (kT s x y lm,0,1)):=by
  have h0 : aS [⟨qA,x0⟩,⟨qB,x1⟩] (kT s x y lm,0,0) = (aN (kT s x y lm) qA).bind fun x2 => some (.inl (x2.2,w64 (0 + x2.1),1)):=rfl
  rw [h0,nA]
  rfl
 have a2 : aS [⟨qA,x0⟩,⟨qB,x1⟩] (kT s x y lm,0,1) = some (.inl (kT s x y lm,v,2)):=by
  have h0 : aS [⟨qA,x0⟩,⟨qB,x1⟩] (kT s x y lm,0,1) = (aN (kT s x y lm) qB).bind fun x2 => some (.inl (x2.2,w64 (0 + x2.1),2)):=rfl
  rw [h0,nB,Dm,Int.zero_add,dZ (by omega) (by omega)]
 have a3 : aS [⟨qA,x0⟩,⟨qB,x1⟩] (kT s x y lm,v,2) = some (.inr (kT s x y lm,v)):=rfl
 unfold a_
 rw [show (kT s x y lm).s = s from rfl,show (kT s x y lm).label = 0 from rfl,hl,Dm,bf,a1]
 dsimp only
 rw [bf,a2]
 dsimp only
 rw [bf,a3]
 dsimp only
 rw [Dm,show (kT s x y lm).s = s from rfl,show (kT s x y lm).label = 0 from rfl,F.tot,Dm]
 show (aU s rt 0).bind _ = _
 rw [F.uR,Dm]
 dsimp only
 have e1 : u - u = 0:=by omega
 rw [e1,show w64 0 = 0 from rfl,show imax 0 0 = 0 from rfl,dZ (by omega) (by omega),Int.sub_zero]
theorem vH {k : Looker} (hl : eo s 0 = some k) (hn : a_ k = some (0,k)) (hg : k.gone = 0) : bB s 0 = some []:=by
 unfold bB
 rw [hl,Dm,hn,Dm]
 dsimp only
 rw [bf]
 have : dP (0,k) (k,[]) = some (.inr []):=by
  unfold dP
  dsimp only
  rw [hg]
  rfl
 rw [this]
 rfl
theorem zO {k : Looker} {v : Int} {l : List Int} (hl : eo s 0 = some k) (hn : a_ k = some (v,k)) (hp : loop (dP (v,k)) (k,[]) = some l) : bB s 0 = some l:=by
 unfold bB
 rw [hl,Dm,hn,Dm]
 dsimp only
 rw [hp]
 rfl
end
theorem Cd {u la lb : Int} {cs : List Cont} {x y gB : Int} {w : Nat} {lm : List Ent2_IntListUInt8} (hw : 1 ≤ w) (hw2 : w ≤ 24) (hg : 0 ≤ gB ∧ gB ≤ 100) :
  loop (aC (kT (stT u (askW w) la lb cs) x y lm) qB ⟨1,1⟩ ⟨gB,gB⟩) 0 = some (if 2 ≤ gB then .inl (imin w (gB - 1)) else .inr ()):=by
 have a1 : aC (kT (stT u (askW w) la lb cs) x y lm) qB ⟨1,1⟩ ⟨gB,gB⟩ 0 = some (.inl 1):=rfl
 have a3 : aC (kT (stT u (askW w) la lb cs) x y lm) qB ⟨1,1⟩ ⟨gB,gB⟩ 2 = some (.inr (.inr ())):=rfl
 have b1 : aV (kT (stT u (askW w) la lb cs) x y lm) qB ⟨1,1⟩ ⟨gB,gB⟩ ⟨2,2,qB,0,0,⟨1,1⟩,askW w,10,0,[],[],[],[]⟩ 0 = if 2 ≤ gB then some (.inr (.inl (imin w (gB - 1)))) else some (.inl 1):=by
  have h0 : aV (kT (stT u (askW w) la lb cs) x y lm) qB ⟨1,1⟩ ⟨gB,gB⟩ ⟨2,2,qB,0,0,⟨1,1⟩,askW w,10,0,[],[],[],[]⟩ 0 =
   bif decide ((2 : Int) ≤ gB) then (aw (stT u (askW w) la lb cs) qB 0).bind fun x5 => some (.inr (.inl (imin x5.Mem (w64 (gB - 1))))) else some (.inl 1):=rfl
  rw [h0,pendB u la lb cs w hw hw2,Dm]
  dsimp only
  rw [dZ (by omega) (by omega)]
  by_cases h : 2 ≤ gB
  ·rw [decide_eq_true h,if_pos h]; rfl
  ·rw [decide_eq_false h,if_neg h]; rfl
 have b2 : aV (kT (stT u (askW w) la lb cs) x y lm) qB ⟨1,1⟩ ⟨gB,gB⟩ ⟨2,2,qB,0,0,⟨1,1⟩,askW w,10,0,[],[],[],[]⟩ 1 = some (.inr (.inr ())):=rfl
 have a2 : aC (kT (stT u (askW w) la lb cs) x y lm) qB ⟨1,1⟩ ⟨gB,gB⟩ 1 = if 2 ≤ gB then some (.inr (.inl (imin w (gB - 1)))) else some (.inl 2):=by
  have h0 : aC (kT (stT u (askW w) la lb cs) x y lm) qB ⟨1,1⟩ ⟨gB,gB⟩ 1 = ((loop (aV (kT (stT u (askW w) la lb cs) x y lm) qB ⟨1,1⟩ ⟨gB,gB⟩ ⟨2,2,qB,0,0,⟨1,1⟩,askW w,10,0,[],[],[],[]⟩) 0).bind fun q0 => (match q0 with
    | .inl q2 => some (.inr q2)
    | .inr _ => some (.inl ()) : Option (Unit ⊕ Int))).bind fun q0 => match q0 with
    | .inl _ => some (.inl 2)
    | .inr q3 => some (.inr (.inl q3)):=rfl
  rw [h0,bf,b1]
  by_cases h : 2 ≤ gB
  ·rw [if_pos h,if_pos h]; rfl
  ·rw [if_neg h,if_neg h]
   dsimp only
   rw [bf,b2]
   rfl
 rw [bf,a1]
 dsimp only
 rw [bf,a2]
 by_cases h : 2 ≤ gB
 ·rw [if_pos h,if_pos h]
 ·rw [if_neg h,if_neg h]
  dsimp only
  rw [bf,a3]
end Go.Fx.D
