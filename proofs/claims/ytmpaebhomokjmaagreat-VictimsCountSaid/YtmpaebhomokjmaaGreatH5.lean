/-
  The law over plain data: true at all inputs. Conditions: none.
-/
import Derived.Test.YtmpaebhomokjmaaGreatH4
namespace Go.Fx.D
open Go Go.Fx
set_option linter.unusedVariables false
set_option linter.unusedSimpArgs false
set_option maxRecDepth 1000000
theorem rI {a n : Int} (h0 : 0 < n) (h1 : n ≤ 4611686018427387904) : cm a n = some (a % n):=by
 unfold cm
 have hn : nz n = some ():=by unfold nz; rw [if_pos (by omega)]
 rw [hn]
 have hm : Int.tmod a n = if 0 ≤ a ∨ n ∣ a then a % n else a % n - n:=by
  rw [Int.tmod_eq_emod]
  split <;> simp [Int.natAbs_of_nonneg (Int.le_of_lt h0)]
 have e0:=Int.emod_nonneg a (show n ≠ 0 by omega)
 have e1:=Int.emod_lt_of_pos a h0
 simp only [Dm,Bool.cond_eq_ite,decide_eq_true_eq]
 rw [hm]
 by_cases hc : 0 ≤ a ∨ n ∣ a
 ·rw [if_pos hc,if_neg (by omega)]; rfl
 ·rw [if_neg hc,if_pos (by omega),dZ (by omega) (by omega)]
  simp only [Dm,Option.some.injEq]
  omega
theorem Bu {u : Nat} (hu1 : 4 ≤ u) (hu2 : u ≤ 19) (F : FU u) {asks : List Ask} {least w : Int} (h0 : 0 ≤ least) (h1 : least ≤ 10000) (hp : aw (stT u asks (w64 (10000 - least)) least (csT u)) qB 0 = some ⟨w,w⟩) :
  Fc (stT u asks (w64 (10000 - least)) least (csT u)) u ((u : Int) * (10000 - least) / 10000) ((u : Int) * least / 10000) w:=by
 have ew : w64 (10000 - least) = 10000 - least:=dZ (by omega) (by omega)
 have vb : VB 1099511627776 (⟨u,u⟩ : Vec):=by unfold VB; dsimp only; omega
 have sc : ∀ bp : Int,0 ≤ bp → bp ≤ 10000 → dN ⟨u,u⟩ bp = some (⟨(u : Int) * bp / 10000,(u : Int) * bp / 10000⟩,0):=fun bp b0 b1 => zB vb b0 (by omega)
 have s1 : dN ⟨u,u⟩ 10000 = some (⟨u,u⟩,0):=by
  rw [sc 10000 (by omega) (by omega)]
  have : (u : Int) * 10000 / 10000 = u:=by omega
  rw [this]
 rw [ew] at hp ⊢
 refine ⟨kidsR _ _ _ _ _,kidsA _ _ _ _ _,kidsB _ _ _ _ _,F.tot _ _ _ _,?_,?_,?_,?_,F.uA _ _ _,F.uB _ _ _,F.uR _ _ _,pendA _ _ _ _ _,hp⟩
 ·unfold cO
  rw [sB upA (findA _ _ _ _ _) (F.tot _ _ _ _) (part:=fun a' => cp a'.1) (r:=10000 - least) rfl (sc _ (by omega) (by omega))]
  rfl
 ·unfold cO
  rw [sB upB (findB _ _ _ _ _) (F.tot _ _ _ _) (part:=fun a' => cp a'.1) (r:=least) rfl (sc _ (by omega) (by omega))]
  rfl
 ·unfold eh
  rw [sB upA (findA _ _ _ _ _) (F.tot _ _ _ _) (part:=fun a' => cI a'.1) (r:=10000) rfl s1]
  rfl
 ·unfold eh
  rw [sB upB (findB _ _ _ _ _) (F.tot _ _ _ _) (part:=fun a' => cI a'.1) (r:=10000) rfl s1]
  rfl
theorem z9 (a : Vec) : fc a = some (decide (VB 1125899906842624 a)):=by
 unfold fc gj
 have e : decide (VB 1125899906842624 a) = ((decide (a.Mem ≥ 0) && decide (a.Mem ≤ 1125899906842624)) && (decide (a.Cores ≥ 0) && decide (a.Cores ≤ 1125899906842624))):=by
  rw [Bool.eq_iff_iff,decide_eq_true_iff]
  simp only [Bool.and_eq_true,decide_eq_true_eq,VB,ge_iff_le]
 rw [e]
 cases decide (a.Mem ≥ 0) <;> cases decide (a.Mem ≤ 1125899906842624) <;> cases decide (a.Cores ≥ 0) <;> cases decide (a.Cores ≤ 1125899906842624) <;> rfl
theorem vt {n bp : Int} (h0 : 0 ≤ n) (h1 : n ≤ 1099511627776) (b0 : 0 ≤ bp) (b1 : bp ≤ 1000000) : et n bp = some (n * bp / 10000) ∧ 0 ≤ n * bp / 10000 ∧ n * bp / 10000 ≤ 109951162777600:=by
 unfold et
 have e1 : Int.tdiv n 10000 = n / 10000:=Int.tdiv_eq_ediv_of_nonneg h0
 have e2 : Int.tmod n 10000 = n % 10000:=Int.tmod_eq_emod_of_nonneg h0
 rw [e1,e2]
 have q1 : 0 ≤ n / 10000 ∧ n / 10000 ≤ 109951162:=by omega
 have q2 : 0 ≤ n % 10000 ∧ n % 10000 ≤ 9999:=by omega
 have m1:=uJ q1.1 q1.2 b0 b1
 have m2:=uJ q2.1 q2.2 b0 b1
 have m3:=uJ h0 h1 b0 b1
 have key : n * bp / 10000 = n / 10000 * bp + n % 10000 * bp / 10000:=by
  have : n * bp = n % 10000 * bp + 10000 * (n / 10000 * bp):=by
   conv => lhs; rw [← Int.emod_add_mul_ediv n 10000]
   rw [Int.add_mul,Int.mul_assoc]
  rw [this,Int.add_mul_ediv_left _ _ (by decide),Int.add_comm]
 rw [dZ (x:=n / 10000) (by omega) (by omega)]
 generalize n / 10000 * bp = A at m1 key ⊢
 generalize n % 10000 * bp = B at m2 key ⊢
 rw [dZ (x:=A) (by omega) (by omega),dZ (x:=B) (by omega) (by omega),Int.tdiv_eq_ediv_of_nonneg m2.1,dZ (x:=B / 10000) (by omega) (by omega),dZ (by omega) (by omega),key]
 exact ⟨rfl,by omega,by omega⟩
theorem Ad {a : Vec} {bp : Int} (ha : VB 1099511627776 a) (b0 : 0 ≤ bp) (b1 : bp ≤ 1000000) : dg a bp = some (n8 a bp,0) ∧ VB 109951162777600 (n8 a bp):=by
 have ha':=ha
 unfold VB at ha'
 obtain ⟨e1,p1,p2⟩:=vt ha'.1.1 ha'.1.2 b0 b1
 obtain ⟨e2,p3,p4⟩:=vt ha'.2.1 ha'.2.2 b0 b1
 have hv : VB 109951162777600 (n8 a bp):=⟨⟨p1,p2⟩,p3,p4⟩
 refine ⟨?_,hv⟩
 unfold dg
 rw [z9,decide_eq_true (ha.mono (by omega))]
 simp only [Dm,Bool.not_true,cond_false]
 rw [decide_eq_false (by omega),decide_eq_false (by omega)]
 simp only [Dm,cond_false]
 rw [e1,e2]
 simp only [Dm]
 have : (⟨a.Mem * bp / 10000,a.Cores * bp / 10000⟩ : Vec) = n8 a bp:=rfl
 rw [this,z9,decide_eq_true (hv.mono (by omega))]
 rfl
section
variable (u : Int) (asks : List Ask) (la lb : Int) (cs : List Cont)
theorem zM : cz (stT u asks la lb cs).Conf qB = some (⟨qB,[⟨lb,10000⟩],1000000⟩,true):=(qS _ _).ok _ (by kernel_rfl)
theorem rupB : ez qB = some [qB,rt]:=(rT _).ok _ (by kernel_rfl)
theorem C4 : b9 (stT u asks la lb cs) 0 = some ⟨w64 (0 + u),w64 (0 + u)⟩:=(p_ _ _).ok _ (by kernel_rfl)
end
theorem Aa {u : Nat} (hu2 : u ≤ 19) (asks : List Ask) (la : Int) {lb : Int} (cs : List Cont) (h0 : 0 ≤ lb) (h1 : lb ≤ 10000) : b_ (stT u asks la lb cs) qB 0 = some ⟨(u : Int) * lb / 10000,(u : Int) * lb / 10000⟩:=by
 have vb : VB 1099511627776 (⟨u,u⟩ : Vec):=by unfold VB; dsimp only; omega
 have sc:=(Ad vb h0 (show lb ≤ 1000000 by omega)).1
 have ht : b9 (stT u asks la lb cs) 0 = some ⟨u,u⟩:=by
  rw [C4,Int.zero_add,dZ (by omega) (by omega)]
 have e1 : dB (stT u asks la lb cs) 0 true [qB,rt] (⟨u,u⟩,0) = some (.inl (⟨(u : Int) * lb / 10000,(u : Int) * lb / 10000⟩,-1)):=by
  have h0 : dB (stT u asks la lb cs) 0 true [qB,rt] (⟨u,u⟩,0) = (cz (stT u asks la lb cs).Conf qB).bind fun x3 => (inb 0 x3.1.Caps.length).bind fun i2 => (x3.1.Caps[i2]?).bind fun x4 =>
   ((inb 0 x3.1.Caps.length).bind fun i3 => (x3.1.Caps[i3]?).bind fun x5 => some x5.Least).bind fun bp => (dg ⟨u,u⟩ bp).bind fun x6 => some (.inl (x6.1,-1)):=rfl
  rw [h0,zM,Dm]
  show (dg ⟨u,u⟩ lb).bind (fun x6 => (some (Sum.inl (x6.1,(-1 : Int))) : Option ((Vec × Int) ⊕ Vec))) = _
  rw [sc]
  rfl
 have e2 : dB (stT u asks la lb cs) 0 true [qB,rt] (⟨(u : Int) * lb / 10000,(u : Int) * lb / 10000⟩,-1) = some (.inr ⟨(u : Int) * lb / 10000,(u : Int) * lb / 10000⟩):=rfl
 unfold b_ jE
 rw [zM,Dm]
 show ((b9 (stT u asks la lb cs) 0).bind fun x1 => (ez qB).bind fun up => (loop (dB (stT u asks la lb cs) 0 true up) (x1,w64 ((up.length : Int) - 2))).bind fun v => some v).bind (fun x => some x) = _
 rw [ht,Dm,rupB,Dm,show w64 (([qB,rt].length : Int) - 2) = 0 from rfl,bf,e1]
 dsimp only
 rw [bf,e2]
 rfl
theorem A_ : dY = some true:=(pI).ok true (by kernel_rfl)
theorem sR (units : Int) (wants : Int) (least : Int) : cW units wants least = some true:=by
 unfold cW
 rw [A_]
 simp only [Dm,Bool.not_true,cond_false]
 rw [rI (a:=units) (n:=16) (by omega) (by omega),Dm,rI (a:=wants) (n:=25) (by omega) (by omega),Dm,rI (a:=least) (n:=10001) (by omega) (by omega),Dm]
 have hu:=Int.emod_nonneg units (show (16 : Int) ≠ 0 by omega)
 have hu':=Int.emod_lt_of_pos units (show (0 : Int) < 16 by omega)
 have hw:=Int.emod_nonneg wants (show (25 : Int) ≠ 0 by omega)
 have hw':=Int.emod_lt_of_pos wants (show (0 : Int) < 25 by omega)
 have hl:=Int.emod_nonneg least (show (10001 : Int) ≠ 0 by omega)
 have hl':=Int.emod_lt_of_pos least (show (0 : Int) < 10001 by omega)
 generalize units % 16 = x1 at *
 generalize hwn : wants % 25 = wi at *
 generalize least % 10001 = ls at *
 obtain ⟨u',rfl⟩:=Int.eq_ofNat_of_zero_le hu
 obtain ⟨w,rfl⟩:=Int.eq_ofNat_of_zero_le hw
 have eu : w64 (4 + (u' : Int)) = ((u' + 4 : Nat) : Int):=by rw [dZ (by omega) (by omega)]; omega
 rw [eu]
 generalize huu : u' + 4 = u
 have hu1 : 4 ≤ u:=by omega
 have hu2 : u ≤ 19:=by omega
 have F:=fuAll u hu1 hu2
 have ex1 : (u' : Int) = (u : Int) - 4:=by omega
 have hP : 0 ≤ (u : Int) * ls ∧ (u : Int) * ls ≤ u * 10000:=⟨Int.mul_nonneg (by omega) hl,Int.mul_le_mul_of_nonneg_left (by omega) (by omega)⟩
 have hQ : (u : Int) * (10000 - ls) = u * 10000 - u * ls:=Int.mul_sub _ _ _
 obtain ⟨g,hg⟩:=Int.eq_ofNat_of_zero_le (show 0 ≤ (u : Int) * ls / 10000 by omega)
 obtain ⟨d,hd⟩:=Int.eq_ofNat_of_zero_le (show 0 ≤ (u : Int) - (u : Int) * ls / 10000 - (u : Int) * (10000 - ls) / 10000 by rw [hQ]; omega)
 have hgd : g + d ≤ u ∧ d < 2:=by rw [hQ] at hd; omega
 have hgA : (u : Int) * (10000 - ls) / 10000 = (u : Int) - g - d:=by omega
 obtain ⟨x0,x1',hs,hj,hx0,hx1⟩:=Ar (w:=w) hu1 hu2 hgd.1 hgd.2 (by omega)
 have e1 : w64 ((u : Int) - 1 + 0) = (u : Int) - 1:=by rw [dZ (by omega) (by omega)]; omega
 have e2 : w64 (1 + (w : Int)) = 1 + (w : Int):=dZ (by omega) (by omega)
 have key : ∃ s,cw u w ls = some s ∧ b_ s qB 0 = some ⟨g,g⟩ ∧ ((jOf w g = 0 ∧ bB s 0 = some []) ∨ (1 ≤ jOf w g ∧ jOf w g < u ∧ bB s 0 = some (lst u (jOf w g)) ∧ loop (a9 ((u : Int) - 4) (lst u (jOf w g))) 0 = some (.inr ()))):=by
  by_cases hw0 : w = 0
  ·subst hw0
   have hwz : decide (((0 : Nat) : Int) > 0) = false:=rfl
   have Fc0:=Bu hu1 hu2 F hl (by omega) (C7 (u : Int) (w64 (10000 - ls)) ls (csT u))
   rw [hg,hgA] at Fc0
   have hs' : em u [(u : Int) - g - d,g] [w64 ((u : Int) - 1 + 0),w64 (1 + (0 : Int))] [u,u] = some [x0,x1']:=by rw [e1]; exact hs
   have hlv:=vX Fc0 hs'
   have hlk:=yu Fc0 hlv (F.lk0 _ _ _ _)
   refine ⟨_,F.two0 _ _ hwz,by rw [Aa hu2 _ _ _ hl (by omega),hg],.inl ⟨by simp [jOf],vH hlk (uX (v:=0) Fc0 (by omega) (by omega) hlv (wU _ _ _ _ _ _ _ _ _) (BQ _ _ _ _ _ _ _ _) (.inr ⟨rfl,rfl⟩)) rfl⟩⟩
  ·have hwz : decide ((w : Int) > 0) = true:=decide_eq_true (by omega)
   have Fc0:=Bu hu1 hu2 F hl (by omega) (pendB (u : Int) (w64 (10000 - ls)) ls (csT u) w (by omega) (by omega))
   rw [hg,hgA] at Fc0
   have hs' : em u [(u : Int) - g - d,g] [w64 ((u : Int) - 1 + 0),w64 (1 + (w : Int))] [u,u] = some [x0,x1']:=by rw [e1,e2]; exact hs
   have hlv:=vX Fc0 hs'
   have hlk:=yu Fc0 hlv (F.lk1 _ _ _ _ _)
   refine ⟨_,F.two1 _ _ hwz,by rw [Aa hu2 _ _ _ hl (by omega),hg],?_⟩
   have hnB:=Cd (u:=(u : Int)) (la:=w64 (10000 - ls)) (lb:=ls) (cs:=csT u) (x:=w64 ((u : Int) - 1 - x0)) (y:=w64 (1 - x1')) (gB:=(g : Int)) (w:=w) (lm:=lmT u) (by omega) (by omega) (by omega)
   by_cases hg2 : 2 ≤ g
   ·right
    have hjv : jOf w g = min w (g - 1):=by unfold jOf; rw [if_pos ⟨by omega,hg2⟩]
    have hj1 : 1 ≤ jOf w g:=by rw [hjv]; omega
    have hj2 : jOf w g < u:=by rw [hjv]; omega
    rw [if_pos (by omega)] at hnB
    have him : imin (w : Int) ((g : Int) - 1) = (jOf w g : Nat):=by
     rw [hjv]
     unfold imin
     split <;> omega
    rw [him] at hnB
    rcases hj with hj | ⟨ha,hb⟩
    ·omega
    have ea : w64 ((u : Int) - 1 - x0) = ((jOf w g : Nat) : Int):=by rw [dZ (by omega) (by omega)]; omega
    have eb : w64 (1 - x1') = -((jOf w g : Nat) : Int):=by rw [dZ (by omega) (by omega)]; omega
    rw [ea,eb] at hlk hnB
    obtain ⟨p1,p2⟩:=F.picks w (w64 (10000 - ls)) ls hj1 hj2
    exact ⟨hj1,hj2,zO hlk (uX Fc0 (by omega) (by omega) hlv (wU _ _ _ _ _ _ _ _ _) hnB (.inl rfl)) p1,p2⟩
   ·left
    rw [if_neg (by omega)] at hnB
    exact ⟨by unfold jOf; rw [if_neg (by omega)],vH hlk (uX (v:=0) Fc0 (by omega) (by omega) hlv (wU _ _ _ _ _ _ _ _ _) hnB (.inr ⟨rfl,rfl⟩)) rfl⟩
 obtain ⟨s,ht,hle,hp⟩:=key
 rw [ht,Dm]
 have hnd : imax (imin (w : Int) (w64 ((g : Int) - 1))) 0 = (jOf w g : Nat):=by
  rw [dZ (by omega) (by omega)]
  unfold imax imin jOf
  split <;> split <;> split <;> omega
 rcases hp with ⟨hj0,hp⟩ | ⟨hj1,hj2,hp,hd⟩
 ·rw [hp,Dm]
  show (b_ s qB 0).bind _ = _
  rw [hle,Dm]
  dsimp only
  rw [hnd,hj0]
  simp only [List.length_nil]
  rw [show (((0 : Nat) : Int) != ((0 : Nat) : Int)) = false from rfl,cond_false,show decide (((0 : Nat) : Int) > ((0 : Nat) : Int)) = false from rfl,Dm,cond_false,bf]
  rfl
 ·rw [hp,Dm]
  show (b_ s qB 0).bind _ = _
  rw [hle,Dm]
  dsimp only
  have hlen : (lst u (jOf w g)).length = jOf w g:=by simp [lst]
  rw [hnd,hlen,show (((jOf w g : Nat) : Int) != ((jOf w g : Nat) : Int)) = false by simp,cond_false,decide_eq_false (by omega),Dm,cond_false,ex1,hd]
  rfl
end Go.Fx.D
