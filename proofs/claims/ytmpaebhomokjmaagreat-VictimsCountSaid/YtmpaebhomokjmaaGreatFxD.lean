/-
  The framework, fourth part: bounded rounds, deletion from slices, a loop that makes no round. Conditions: none.
-/
import Derived.Test.YtmpaebhomokjmaaGreatFxC
import Derived.Shelf.SlicesE.Kit
import Derived.Shelf.RegionOpenPlain
import Derived.Deep.LoopGhost
import Derived.Deep.RegionLaw
import Derived.Lib.Walk
import Derived.Sort.WalkB12
import Derived.Lib.SlicesDelete
import Derived.RangeFuncLeaves
import Derived.RangeFuncRecord
namespace Go.Fx
open Go
set_option linter.unusedVariables false
structure Lo {α : Type} (a b : Option α) : Prop where
 ok : ∀ r,a = some r → b = some r
theorem aj {α : Type} (a : Option α) : Lo a a:=⟨fun _ h => h⟩
theorem ah {α : Type} {b : Option α} : Lo none b:=⟨fun _ h => by cases h⟩
theorem ag {α β : Type} {a a' : Option α} {f f' : α → Option β} (h : Lo a a') (k : ∀ x,Lo (f x) (f' x)) : Lo (a.bind f) (a'.bind f'):=by
 constructor
 intro r hr
 cases a with
 | none => cases hr
 | some x => rw [h.ok x rfl]; exact (k x).ok r hr
theorem ae {α γ β : Type} {a a' : Option (α ⊕ γ)} {f f' : α ⊕ γ → Option β} (h : Lo a a') (k : ∀ x,Lo (f (.inl x)) (f' (.inl x))) (k' : ∀ x,Lo (f (.inr x)) (f' (.inr x))) : Lo (a.bind f) (a'.bind f') :=
 ag h fun x => match x with
  | .inl x => k x
  | .inr x => k' x
theorem ab {α γ δ β : Type} {a a' : Option (α ⊕ (γ ⊕ δ))} {f f' : α ⊕ (γ ⊕ δ) → Option β} (h : Lo a a') (k : ∀ x,Lo (f (.inl x)) (f' (.inl x))) (k1 : ∀ x,Lo (f (.inr (.inl x))) (f' (.inr (.inl x)))) (k2 : ∀ x,Lo (f (.inr (.inr x))) (f' (.inr (.inr x)))) : Lo (a.bind f) (a'.bind f') :=
 ag h fun x => match x with
  | .inl x => k x
  | .inr (.inl x) => k1 x
  | .inr (.inr x) => k2 x
theorem ad {α γ δ ε β : Type} {a a' : Option (α ⊕ (γ ⊕ (δ ⊕ ε)))} {f f' : α ⊕ (γ ⊕ (δ ⊕ ε)) → Option β} (h : Lo a a') (k : ∀ x,Lo (f (.inl x)) (f' (.inl x))) (k1 : ∀ x,Lo (f (.inr (.inl x))) (f' (.inr (.inl x)))) (k2 : ∀ x,Lo (f (.inr (.inr (.inl x)))) (f' (.inr (.inr (.inl x))))) (k3 : ∀ x,Lo (f (.inr (.inr (.inr x)))) (f' (.inr (.inr (.inr x))))) : Lo (a.bind f) (a'.bind f') :=
 ag h fun x => match x with
  | .inl x => k x
  | .inr (.inl x) => k1 x
  | .inr (.inr (.inl x)) => k2 x
  | .inr (.inr (.inr x)) => k3 x
theorem ai {α : Type} {c : Bool} {a b a' b' : Option α} (h : Lo a a') (k : Lo b b') : Lo (cond c a b) (cond c a' b'):=by
 cases c
 ·exact k
 ·exact h
def itr {τ σ : Type} (n : Nat) (s : τ → Option (τ ⊕ σ)) (t : τ) : Option σ:=iter s n t
theorem aa {τ σ : Type} {n : Nat} {s s' : τ → Option (τ ⊕ σ)} (h : ∀ t,Lo (s t) (s' t)) (t : τ) : Lo (itr n s t) (loop s' t):=by
 constructor
 intro r hr
 unfold itr at hr
 refine pa (n:=n) ?_
 induction n generalizing t with
 | zero => cases hr
 | succ n ih =>
  simp only [iter] at hr ⊢
  split at hr
  ·cases hr
  ·rename_i t' ht
   rw [(h t).ok _ ht]
   exact ih t' hr
  ·rename_i q hq
   rw [(h t).ok _ hq]
   exact hr
end Go.Fx
namespace Go.Fx
open Go Go.Proofs Go.RowKit
set_option linter.unusedVariables false
set_option linter.unusedSimpArgs false
def del {α : Type} (l : List α) (i j : Int) : Option (List α):=if 0 ≤ i ∧ i ≤ j ∧ j ≤ l.length then some (l.take i.toNat ++ l.drop j.toNat) else none
def xY (P : Program) (f : FuncId) (ts e sz : Nat) : Prop :=
 ∀ (b n cap i j : Nat) (w : World),n ≤ cap → cap ≤ 9223372036854775807 → i < j → j ≤ n → ∀ (i0 : TypeInfo),P.info? e = some i0 → i0.size = sz → ∀ (A : Addr),(if cap = j then some (⟨b,0,none⟩ : Addr) else some ⟨b,j * sz,none⟩) = some A → ∀ (news : List Value),
  Hid (news.length = (n - j) * sz) → Hid (∀ t u,news[t]? = some u → w.drew.cell? (A.add t) = some u) → Hid (∀ u ∈ news,u.oneCell' = true) →
  Hid (∀ t,t < news.length → (w.drew.cell? ⟨b,0 + i * sz + t,none⟩).isSome = true ∧ w.drew.frozen? ⟨b,0 + i * sz + t,none⟩ = false) →
  ∀ (W1 W2 : World),Hid (W1 = w.drew.setCells b (0 + i * sz) news) →
  (∀ ty,(Builtin.clear_ #[ts] ty #[.slice (some ⟨b,(i + (n - j)) * sz,none⟩) (n - (i + (n - j))) (cap - (i + (n - j)))]).run P W1 = .ok (.tuple #[]) W2) →
  Calls P f #[.slice (some ⟨b,0,none⟩) n cap,.int .i64 i,.int .i64 j] w fun e w' => e = .returned (.slice (some ⟨b,0,none⟩) (i + (n - j)) cap) ∧ w' = W2
def yx (P : Program) (f : FuncId) : Prop :=
 (∀ (b n cap i : Nat) (w : World),n ≤ cap → i ≤ n → Calls P f #[.slice (some ⟨b,0,none⟩) n cap,.int .i64 i,.int .i64 i] w fun e w' => e = .returned (.slice (some ⟨b,0,none⟩) n cap) ∧ w' = w) ∧
 ∀ (p : Option Addr) (w : World),Calls P f #[.slice p 0 0,.int .i64 0,.int .i64 0] w fun e w' => e = .returned (.slice p 0 0) ∧ w' = w
section
variable {F : Fam} {P : Program} {T : TypeId → Option (TI F)}
theorem ww {w : World} {b o : Nat} {cur vs : List Value} {t : TypeId} (hb : w.heap[b]? = some (.cells ⟨cur⟩ t (0,0))) (hl : o + vs.length ≤ cur.length) (h1 : ∀ v ∈ vs,v.oneCell' = true) :
  w.setCells b o vs = w.setRow b (cur.take o ++ vs ++ cur.drop (o + vs.length)).toArray:=by
 have r1:=run_storeCells_at (default : Program) b o t vs 0 ⟨cur⟩ w hb (by simpa using hl) h1
 have r2:=run_storeCells_cells (P:=(default : Program)) b o vs 0 w (by
  intro j hj
  simp only [World.cell?,hb,Nat.add_zero]
  simp
  omega) (by
  intro j hj
  simp [World.frozen?,hb]) h1
 rw [r1] at r2
 simp only [Nat.add_zero] at r2
 injection r2 with _ h
 exact h.symm
theorem CY (hT : TblOk P T) {f ts e sz : Nat} {t : Ty} {te : TI F} (hte : T e = some te) (htt : te.ty = some t) (hsz : te.size = sz) (h0 : 0 < sz) (hts : P.underlying ts = some (.slice e)) (hent : ie P f) (wn : yx P f) (wb : xY P f ts e sz) (hmp : t.isMp = false:=by rfl) :
  FnOk (F:=F) P f ⟨[.v (.slice t) [0],.v (.int .i64) [],.v (.int .i64) []],[.v (.slice t) [0]],fun a => del a.1 a.2.1 a.2.2.1⟩:=by
 refine ⟨hent,?_⟩
 intro a r hr imm w vs pls bxs hheld hpl himm
 obtain ⟨l,i,j,u⟩:=a
 have hr : del l i j = some r:=hr
 unfold del at hr
 split at hr
 rotate_left
 ·cases hr
 rename_i hc
 have c1 : (0 : Int) ≤ i:=hc.1
 have c2 : (i : Int) ≤ j:=hc.2.1
 have c3 : (j : Int) ≤ ((List.length l : Nat) : Int):=hc.2.2
 have c4 : (0 : Int) ≤ j:=Int.le_trans c1 c2
 have hr' : r = l.take i.toNat ++ l.drop j.toNat:=(Option.some.inj hr).symm
 clear hr
 obtain ⟨i',rfl⟩ : ∃ i' : Nat,i = i':=⟨Int.toNat i,(Int.toNat_of_nonneg c1).symm⟩
 obtain ⟨j',rfl⟩ : ∃ j' : Nat,j = j':=⟨Int.toNat j,(Int.toNat_of_nonneg c4).symm⟩
 simp only [Int.toNat_natCast] at hr'
 obtain ⟨v,vs',p1,p2,b1,b2,rfl,rfl,rfl,⟨h1,rfl⟩,v2,vs2,p3,p4,b3,b4,rfl,rfl,rfl,⟨h2,rfl⟩,v3,vs3,p5,p6,b5,b6,rfl,rfl,rfl,⟨h3,rfl⟩,rfl,rfl,rfl⟩:=hheld
 unfold HeldV at h1 h2 h3
 simp only [Ty.isSt,Bool.false_eq_true,if_false,encT,HeldC,memN,Nat.beq,if_true] at h1 h2 h3
 obtain ⟨pl,rest,rfl,hrow,hv,rfl⟩:=h1
 rw [kf hmp] at hrow
 rw [mG hmp] at hv
 obtain ⟨h2,rfl⟩:=h2
 obtain ⟨h3,rfl⟩:=h3
 cases h2
 cases h3
 have ei : (⟨[v,.int .i64 (i' : Int),.int .i64 (j' : Int)]⟩ : Array Value) = #[v,.int .i64 (i' : Int),.int .i64 (j' : Int)]:=rfl
 have held : ∀ (w' : World) (pl' : Pl) (v' : Value),dA w' imm t r pl' → OwnV pl' v' → d4 P w' imm (outs ⟨[.v (.slice t) [0],.v (.int .i64) [],.v (.int .i64) []],[.v (.slice t) [0]],fun a => del a.1 a.2.1 a.2.2.1⟩) r [v'] [] [pl']:=by
  intro w' pl' v' k1 k2
  refine ⟨v',rfl,rfl,?_,rfl⟩
  unfold HeldV
  simp only [Ty.isSt,Bool.false_eq_true,if_false,encT,HeldC,memN,Nat.beq,if_true]
  exact ⟨pl',[],rfl,Eq.mpr (kf hmp) k1,Eq.mpr (mG hmp) k2,rfl⟩
 by_cases hij : i' = j'
 ·subst hij
  have hrl : r = l:=by rw [hr',List.take_append_drop]
  have hcall : ∃ p n cap,v = .slice p n cap ∧ Calls P f #[.slice p n cap,.int .i64 i',.int .i64 i'] w fun e w' => e = .returned (.slice p n cap) ∧ w' = w:=by
   cases pl with
   | none =>
    obtain ⟨p,rfl⟩:=hv
    have hl0 : l.length = 0:=by rw [hrow]; rfl
    have hi0 : i' = 0:=by omega
    subst hi0
    exact ⟨p,0,0,rfl,wn.2 p w⟩
   | some q =>
    obtain ⟨b,cap,n⟩:=q
    obtain ⟨rfl,hle,_⟩:=hrow
    cases hv
    exact ⟨_,_,_,rfl,wn.1 b _ cap i' w hle (by omega)⟩
  obtain ⟨p,n,cap,rfl,hc⟩:=hcall
  refine hc.mono ?_
  rintro e' w' ⟨rfl,rfl⟩
  refine ⟨[.slice p n cap],imm,[pl],rfl,rfl,rfl,rfl,Nat.le_refl _,Nat.le_refl _,fun _ _ _ => rfl,fun _ h => h,fun _ h => .inl h,himm,held _ _ _ (by rw [hrl]; exact hrow) hv,by simpa [aL,plBlks,nbl] using hpl,by intro b hb; exact .inl (by simpa [aL,plBlks,nbl] using hb)⟩
 ·have hlt : i' < j':=by omega
  cases pl with
  | none =>
   have : l.length = 0:=by rw [hrow]; rfl
   omega
  | some q =>
  obtain ⟨b,cap,n⟩:=q
  obtain ⟨rfl,hle,hmx,cur,e0,hb,hcl,hcr⟩:=hrow
  cases hv
  have hszt : szT F t = sz:=by rw [← hsz]; exact hT.ty e te t hte htt
  rw [hszt] at hcl
  have hblk : b < w.heap.size:=(Array.getElem?_eq_some_iff.1 hb).1
  obtain ⟨i0,hi0,hs,_,z,hz,hzs,hzl,hzr⟩:=hT.info e te hte
  have hs' : i0.size = sz:=by rw [hs,hsz]
  have hdb : w.drew.heap[b]? = some (.cells ⟨cur⟩ e0 (0,0)):=hb
  have hjl : j' ≤ l.length:=by omega
  have hcells : (cells F t l).length = l.length * sz:=by rw [aD,hszt]
  have one : ∀ k x,k < l.length * sz → cur[k]? = some x → x.oneCell' = true:=by
   intro k x hk hx
   exact (hcr k _ x (Dn (by rw [hcells]; exact hk)) hx).oneCell
  have hcapsz : l.length * sz ≤ cap * sz:=Nat.mul_le_mul_right _ hle
  have hjsz : j' * sz ≤ l.length * sz:=Nat.mul_le_mul_right _ hjl
  have hisz : i' * sz ≤ j' * sz:=Nat.mul_le_mul_right _ (by omega)
  have hsub : (l.length - j') * sz = l.length * sz - j' * sz:=Nat.sub_mul _ _ _
  have hsum : (i' + (l.length - j')) * sz = i' * sz + (l.length - j') * sz:=Nat.add_mul _ _ _
  have htl : (l.length - (i' + (l.length - j'))) * sz = j' * sz - i' * sz:=by rw [show l.length - (i' + (l.length - j')) = j' - i' by omega,Nat.sub_mul]
  obtain ⟨news,hnews⟩ : ∃ news,news = (cur.drop (j' * sz)).take ((l.length - j') * sz):=⟨_,rfl⟩
  have nl : news.length = (l.length - j') * sz:=by rw [hnews,List.length_take,List.length_drop,hcl]; omega
  have nget : ∀ k x,news[k]? = some x → cur[j' * sz + k]? = some x ∧ k < (l.length - j') * sz:=by
   intro k x hk
   have hlt':=(Do.1 hk).1
   rw [nl] at hlt'
   rw [hnews,List.getElem?_take,if_pos hlt',List.getElem?_drop] at hk
   exact ⟨hk,hlt'⟩
  have n1 : ∀ x ∈ news,x.oneCell' = true:=by
   intro x hx
   obtain ⟨k,hk⟩:=List.getElem?_of_mem hx
   obtain ⟨q1,q2⟩:=nget k x hk
   exact one _ x (by omega) q1
  obtain ⟨A,hA,hsrc⟩ : ∃ A : Addr,(if cap = j' then some (⟨b,0,none⟩ : Addr) else some ⟨b,j' * sz,none⟩) = some A ∧ (∀ k x,news[k]? = some x → w.drew.cell? (A.add k) = some x):=by
   by_cases h : cap = j'
   ·refine ⟨⟨b,0,none⟩,by simp [h],fun k x hk => ?_⟩
    have:=(nget k x hk).2
    rw [show l.length - j' = 0 by omega] at this
    omega
   ·refine ⟨⟨b,j' * sz,none⟩,by simp [h],fun k x hk => ?_⟩
    rw [Addr.add_lit]
    simp only [World.cell?,hdb]
    simpa using (nget k x hk).1
  have w1e : w.drew.setCells b (0 + i' * sz) news = w.drew.setRow b (cur.take (0 + i' * sz) ++ news ++ cur.drop (0 + i' * sz + news.length)).toArray:=ww hdb (by rw [nl,hcl]; omega) n1
  have hb1 : (w.drew.setRow b (cur.take (0 + i' * sz) ++ news ++ cur.drop (0 + i' * sz + news.length)).toArray).heap[b]? = some (.cells ⟨cur.take (0 + i' * sz) ++ news ++ cur.drop (0 + i' * sz + news.length)⟩ e0 (0,0)):=setRow_heap w.drew b _ _ e0 _ hdb
  obtain ⟨c1l,hc1⟩ : ∃ c1l,c1l = cur.take (0 + i' * sz) ++ news ++ cur.drop (0 + i' * sz + news.length):=⟨_,rfl⟩
  rw [← hc1] at w1e hb1
  have c1len : c1l.length = cap * sz:=by
   rw [hc1]
   simp only [Dp,List.length_take,List.length_drop,nl,hcl]
   omega
  obtain ⟨zs,hzsd⟩ : ∃ zs,zs = (Builtin.zeroCells z.cells (l.length - (i' + (l.length - j')))).toList:=⟨_,rfl⟩
  have zl : zs.length = j' * sz - i' * sz:=by rw [hzsd,Array.length_toList,size_zeroCells,hzs,hsz,htl]
  have z1 : ∀ x ∈ zs,x.oneCell' = true:=by
   intro x hx
   have hzc : ∀ y ∈ z.cells.toList,y.oneCell' = true:=by
    intro y hy
    obtain ⟨k,hk⟩:=List.getElem?_of_mem hy
    have hkl : k < te.zero.length:=by have:=(Do.1 hk).1; rw [hzl,← hzs]; simpa using this
    exact (hzr w imm k _ y (Dn hkl) (by simpa using hk)).oneCell
   rw [hzsd] at hx
   obtain ⟨k,hk⟩:=List.getElem?_of_mem hx
   have hk2:=(Do.1 hk)
   obtain ⟨hk3,hk4⟩:=hk2
   simp only [Builtin.zeroCells] at hk4
   simp at hk4
   rw [← hk4]
   have hpos : 0 < z.cells.size:=by rw [hzs,hsz]; exact h0
   have hlt3 : k % z.cells.size < z.cells.size:=Nat.mod_lt _ hpos
   rw [getElem!_pos z.cells _ hlt3]
   exact hzc _ (by simp)
  obtain ⟨R,hR⟩ : ∃ R,R = c1l.take ((i' + (l.length - j')) * sz) ++ zs ++ c1l.drop ((i' + (l.length - j')) * sz + zs.length):=⟨_,rfl⟩
  have hW2 : ∀ (W1 : World),W1.heap[b]? = some (.cells ⟨c1l⟩ e0 (0,0)) → ∀ ty,(Builtin.clear_ #[ts] ty #[.slice (some ⟨b,(i' + (l.length - j')) * sz,none⟩) (l.length - (i' + (l.length - j'))) (cap - (i' + (l.length - j')))]).run P W1 =
    .ok (.tuple #[]) (W1.setRow b R.toArray):=by
   intro W1 hb1' ty
   have hst:=run_storeCells_at P b ((i' + (l.length - j')) * sz) e0 zs 0 ⟨c1l⟩ W1 hb1' (by
    rw [zl,hsum]
    show _ ≤ c1l.length
    rw [c1len]
    omega) z1
   simp only [Nat.add_zero] at hst
   rw [← hR] at hst
   clear hR
   obtain ⟨m,hm⟩ : ∃ m,l.length - (i' + (l.length - j')) = m + 1:=⟨l.length - (i' + (l.length - j')) - 1,by omega⟩
   rw [hzsd,hm] at hst
   rw [hm]
   simp [Builtin.clear_,run_underlying hts,zeroValue,typeInfo,hi0,hz,hst]
  have key:=wb b l.length cap i' j' w hle (by simp only [maxLen] at hmx; omega) hlt hjl i0 hi0 hs' A hA news nl hsrc n1 (fun k hk => by
   rw [nl] at hk
   refine ⟨?_,?_⟩
   ·simp only [World.cell?,hdb]
    simp
    rw [hcl]
    omega
   ·simp [World.frozen?,hdb]) _ _ rfl (hW2 _ (by rw [w1e]; exact hb1))
  refine key.mono ?_
  rintro e' w' ⟨rfl,rfl⟩
  rw [w1e]
  have rlen : r.length = i' + (l.length - j'):=by
   rw [hr',Dp,List.length_take,List.length_drop]
   omega
  have fin2 : ((w.drew.setRow b c1l.toArray).setRow b R.toArray).heap[b]? = some (.cells ⟨R⟩ e0 (0,0)):=setRow_heap _ b _ _ e0 _ hb1
  refine ⟨[.slice (some ⟨b,0,none⟩) (i' + (l.length - j')) cap],imm,[some (b,cap,r.length,[])],rfl,rfl,rfl,rfl,Nat.le_succ _,?_,?_,fun _ h => h,fun _ h => .inl h,?_,held _ _ _ ⟨rfl,by rw [rlen]; omega,hmx,_,e0,fin2,?_,?_⟩ ?_,⟨?_,?_,?_⟩,?_⟩
  ·have z1 : (w.drew.setRow b c1l.toArray).heap.size = w.heap.size:=by simp [World.setRow]
   have z2 : ((w.drew.setRow b c1l.toArray).setRow b R.toArray).heap.size = (w.drew.setRow b c1l.toArray).heap.size:=by simp [World.setRow]
   rw [z2,z1]
   exact Nat.le_refl _
  ·intro b' hlt' hno
   have hne : b' ≠ b:=fun h => hno (by simp [aL,plBlks,nbl,h])
   rw [setRow_other _ b b' _ hne,setRow_other _ b b' _ hne]
   rfl
  ·intro b' hb'
   have z1 : (w.drew.setRow b c1l.toArray).heap.size = w.heap.size:=by simp [World.setRow]
   have z2 : ((w.drew.setRow b c1l.toArray).setRow b R.toArray).heap.size = (w.drew.setRow b c1l.toArray).heap.size:=by simp [World.setRow]
   rw [z2,z1]
   exact himm b' hb'
  ·rw [hR,hszt]
   simp only [Dp,List.length_take,List.length_drop,zl,c1len]
   rw [hsum,hsub]
   omega
  ·intro k d x hd hx
   have hd : (cells F t (l.take i' ++ l.drop j'))[k]? = some d:=by rw [← hr']; exact hd
   rw [hR] at hx
   have rlen' : (List.take i' l ++ List.drop j' l).length = i' + (l.length - j'):=by rw [← hr']; exact rlen
   have hkr : k < (i' + (l.length - j')) * sz:=by
    have:=(Do.1 hd).1
    rwa [aD,hszt,rlen'] at this
   rw [hsum,hsub] at hkr
   rw [List.append_assoc,List.getElem?_append_left (by rw [List.length_take,c1len,hsum,hsub]; omega),List.getElem?_take,if_pos (by rw [hsum,hsub]; omega),hc1] at hx
   have mono : RepI w imm d x → RepI ((w.drew.setRow b c1l.toArray).setRow b R.toArray) imm d x:=fun h => h.mono (fun _ h => h) (fun b' hb' => by
    have hne : b' ≠ b:=fun e => hpl.imm b (by simp [aL,plBlks,nbl]) (e ▸ hb')
    rw [setRow_other _ b b' _ hne,setRow_other _ b b' _ hne]
    rfl)
   apply mono
   have ct : cells F t (l.take i') = (cells F t l).take (i' * sz):=by
    have:=kE (F:=F) (l:=l) (a:=0) (n:=i')
    rw [hszt] at this
    simpa [Fx.sub] using this
   have cd : cells F t (l.drop j') = (cells F t l).drop (j' * sz):=by
    have:=kE (F:=F) (l:=l) (a:=j') (n:=l.length)
    unfold Fx.sub at this
    rw [List.take_of_length_le (by simp),hszt] at this
    rw [this,List.take_of_length_le]
    rw [List.length_drop,hcells]
    omega
   rw [gw,ct,cd] at hd
   by_cases hki : k < i' * sz
   ·rw [List.getElem?_append_left (by rw [List.length_take,hcells]; omega),List.getElem?_take,if_pos hki] at hd
    rw [List.append_assoc,List.getElem?_append_left (by rw [List.length_take,hcl]; omega),List.getElem?_take,if_pos (by omega)] at hx
    exact hcr k d x hd hx
   ·rw [List.getElem?_append_right (by rw [List.length_take,hcells]; omega),List.length_take,hcells,Nat.min_eq_left (by omega),List.getElem?_drop] at hd
    rw [List.append_assoc,List.getElem?_append_right (by rw [List.length_take,hcl]; omega),List.length_take,hcl,Nat.min_eq_left (by omega),List.getElem?_append_left (by rw [nl,hsub]; omega)] at hx
    have q:=(nget _ x hx).1
    rw [Nat.zero_add] at q
    exact hcr _ d x hd q
  ·rw [rlen]; rfl
  ·simp [plBlks,nbl]
  ·intro b' hb'
   exact hpl.imm b' (by simpa [aL,plBlks,nbl] using hb')
  ·intro b' hb'
   have : b' = b:=by simpa [aL,plBlks,nbl] using hb'
   subst this
   have z1 : (w.drew.setRow b' c1l.toArray).heap.size = w.heap.size:=by simp [World.setRow]
   have z2 : ((w.drew.setRow b' c1l.toArray).setRow b' R.toArray).heap.size = (w.drew.setRow b' c1l.toArray).heap.size:=by simp [World.setRow]
   rw [z2,z1]
   exact hblk
  ·intro b' hb'
   exact .inl (by simpa [aL,plBlks,nbl] using hb')
end
set_option linter.unusedVariables false
set_option linter.unusedSimpArgs false
structure EmC where
 ops0 : Array Oper
 ops1 : Array Oper
 ops8 : Array Oper
 t : Nat
def xC : Code → Option EmC
 | .seq (.region _ ops0 false) (.seq (.seq (.region _ ops1 false) (.block _ (.rangeFunc (.tmp t) _ _ _))) (.seq (.region _ ops8 false) .ret)) => some ⟨ops0,ops1,ops8,t⟩
 | _ => none
theorem ze {c : Code} {q : EmC} (h : xC c = some q) : ∃ i0 i1 ib ps x y i8,c = .seq (.region i0 q.ops0 false) (.seq (.seq (.region i1 q.ops1 false) (.block ib (.rangeFunc (.tmp q.t) ps x y))) (.seq (.region i8 q.ops8 false) .ret)):=by
 unfold xC at h
 split at h
 ·cases h; exact ⟨_,_,_,_,_,_,_,rfl⟩
 ·cases h
def qM {α : Type} : List α → Option (List α × α)
 | [] => none
 | [a] => some ([],a)
 | a :: b :: l => match qM (b :: l) with
  | none => none
  | some (p,x) => some (a :: p,x)
theorem s_ {α : Type} : ∀ {l p : List α} {a : α},qM l = some (p,a) → l = p ++ [a]
 | [],_,_,h => by cases h
 | [x],_,_,h => by cases h; rfl
 | x :: y :: l,p,a,h => by
  simp only [qM] at h
  split at h
  ·cases h
  ·rename_i p' x' hq
   cases h
   rw [s_ hq]; rfl
structure EmB where
 t : Nat
 f : Nat
 x : Nat
def xz : Oper → Option EmB
 | ⟨some t,.call ⟨.value (.func f),⟨[.tmp x]⟩,_⟩,_,_,_,none⟩ => some ⟨t,f,x⟩
 | _ => none
theorem yO {o : Oper} {q : EmB} (h : xz o = some q) : o.dst = some q.t ∧ o.guard = none ∧ ∃ ats,o.op = .call { callee:=.value (.func q.f),args:=#[.tmp q.x],argTypes:=ats }:=by
 unfold xz at h
 split at h
 ·cases h; exact ⟨rfl,rfl,_,rfl⟩
 ·cases h
section
variable {F : Fam} (T : TypeId → Option (TI F)) (Γ : Ctx F) (nv : Nat)
def emB (s : TS F) (t : Nat) : TS F:=⟨s.E.filter (fun p => !(Nat.beq t p.1)),(s.c,.it (.deferred (some []))) :: s.M,s.c + 1,[],[]⟩
def emZ (s : TS F) (c : Nat) : TS F:=⟨s.E,s.M.filter (fun p => !(Nat.beq c p.1)),s.c,s.dE,s.dM⟩
noncomputable def xx (fn : Func) (fB : FuncId) (ks rs : List Kd) (a : HL F ks) : Option (TL F (rs ++ ks.filter Kd.isBox)) :=
 match fn.body with
 | none => none
 | some body => match xC body with
  | none => none
  | some q => match qM q.ops1.toList with
   | none => none
   | some (pre,oB) => match xz oB with
    | none => none
    | some e => if Nat.beq e.t q.t && Nat.beq e.f fB && Nat.blt q.t fn.ntmps then
      match unpHL ks a 0 with
      | (ds,bs,c) => if xp ks then
        tReg T Γ nv fn.ntmps [] q.ops0.toList false ⟨params 0 (entL ks a ds),bs,c,[],[]⟩ fun s1 =>
        tOps T Γ nv fn.ntmps q.ops1.toList pre s1 [] fun s2 _ => match look s2.E e.x with
         | some (.c (.wsl id)) => match look s2.M id with
          | some (.row _ l) => cond l.isEmpty (tReg T Γ nv fn.ntmps [] q.ops8.toList false (emB s2 q.t) fun s8 => if memN s2.c s8.dM then none else packR T Γ fn ks rs a (emZ s8 s2.c)) none
          | _ => none
         | _ => none
       else none
     else none
end
section
variable {P : Program} {ops : Array Oper}
theorem vB {Q : Exit → Act → World → Prop} (l2 : List Nat) : ∀ (l1 : List Nat) {a : Act} {w : World},wpOps P ops (Exit.then (wpOps P ops Q l2) Q) l1 a w → wpOps P ops Q (l1 ++ l2) a w
 | [],a,w,h => h
 | i :: l1,a,w,h => by
  simp only [List.cons_append]
  rw [wpOps_cons] at h ⊢
  have h:=wpOp_mono (K':=wpOps P ops Q (l1 ++ l2)) (fun a w hk => vB l2 l1 hk) h
  unfold wpOp at h ⊢
  split
  ·rename_i ho; simp only [ho] at h; exact h
  ·rename_i o ho
   simp only [ho] at h
   split
   ·rename_i hw
    simp only [hw,if_true] at h
    rcases h with h | ⟨h1,h2⟩
    ·left
     unfold Oper.wp at h ⊢
     generalize (execOp a.eval o).run P w = r at h
     cases r with
     | ok n w' => cases n <;> exact h
     | halt x w' => cases x <;> exact h
    ·exact .inr ⟨h1,h2⟩
   ·rename_i hw; simp only [hw] at h; exact h
def Act.addD (a : Act) (ds : List Deferred) : Act:={ a with defers:=a.defers ++ ds }
theorem lK (a : Act) (ds : List Deferred) (d : Option Tmp) (v : Value) : Act.addD (a.put d v) ds = (Act.addD a ds).put d v:=by cases d <;> rfl
theorem zt {o : Oper} {a : Act} {ds : List Deferred} {next next' : Act → World → Prop} {Q Q' : Exit → Act → World → Prop} (hn : ∀ a w,next a w → next' (Act.addD a ds) w) (hq : ∀ e a w,Q e a w → Q' e (Act.addD a ds) w) {r : Result Next} (h : o.upon P a next Q r) : o.upon P (Act.addD a ds) next' Q' r:=by
 have hl : LetsOut Q → LetsOut Q':=fun ⟨a,w,k⟩ => ⟨_,w,hq _ a w k⟩
 cases r with
 | ok n w' =>
  cases n with
  | value v => simp only [Oper.upon] at h ⊢; rw [← lK]; exact hn _ _ h
  | skip => simp only [Oper.upon] at h ⊢; rw [← lK]; exact hn _ _ h
  | defer d =>
   simp only [Oper.upon] at h ⊢
   have e : ({ Act.addD a ds with defers:=d :: (Act.addD a ds).defers } : Act).put o.dst undef = Act.addD (({ a with defers:=d :: a.defers } : Act).put o.dst undef) ds:=by rw [lK]; rfl
   rw [e]
   exact hn _ _ h
  | enter f args =>
   simp only [Oper.upon] at h ⊢
   refine h.mono ?_
   intro e w2 he
   cases e with
   | returned v => simp only at he ⊢; rw [← lK]; exact hn _ _ he
   | panicked ch => exact hq _ _ _ he
   | outgrown => exact hl he
  | row row args =>
   simp only [Oper.upon] at h ⊢
   exact h.mono (fun v w2 he => by rw [← lK]; exact hn _ _ he)
  | _ => exact h.elim
 | halt x w' =>
  cases x with
  | panic v => exact hq _ _ _ h
  | _ => exact h.elim
theorem nc {ds : List Deferred} {Q Q' : Exit → Act → World → Prop} (hq : ∀ e a w,Q e a w → Q' e (Act.addD a ds) w) : ∀ (l : List Nat) {a : Act} {w : World},wpOps P ops Q l a w → wpOps P ops Q' l (Act.addD a ds) w
 | [],a,w,h => hq _ _ _ h
 | i :: l,a,w,h => by
  rw [wpOps_cons] at h ⊢
  unfold wpOp at h ⊢
  split
  ·rename_i ho; simp only [ho] at h; exact nc hq l h
  ·rename_i o ho
   simp only [ho] at h
   have ht : (Act.addD a ds).tmps = a.tmps:=rfl
   rw [ht]
   split
   ·rename_i hw
    simp only [hw,if_true] at h
    rcases h with h | ⟨h1,a2,w2,h2⟩
    ·left
     have he : (Act.addD a ds).eval = a.eval:=funext fun x => by cases x <;> rfl
     unfold Oper.wp at h ⊢
     rw [he]
     exact zt (fun a w hk => nc hq l hk) hq h
    ·right
     have he : (Act.addD a ds).eval = a.eval:=funext fun x => by cases x <;> rfl
     refine ⟨?_,_,w2,hq _ a2 w2 h2⟩
     unfold Oper.asks at h1 ⊢
     rw [he]
     exact h1
   ·rename_i hw
    simp only [hw] at h
    rw [← lK]
    exact nc hq l h
end
section
variable {F : Fam} {P : Program} {T : TypeId → Option (TI F)} {Γ : Ctx F} {nv n : Nat} {R : Type} {own : Ow} {W0 : World} {a : Act} {w : World} {g : G}
section
variable {ops : List Oper}
theorem ui {opsA : Array Oper} (hops : opsA.toList = ops) {Q : Exit → Act → World → Prop} : ∀ (tr : List (TR F)) (k : Nat) (s s' : St F),(∀ j t,tr[j]? = some t → opsA[k + j]? = some t.o) → Chain s tr s' → (∀ t ∈ tr,TR.ok P n ops t) →
  ∀ {g : G} {a : Act} {w : World},Good P own W0 n s g a w → (∀ g' a' w',Good P own W0 n s' g' a' w' → Q .normal a' w') → wpOps P opsA Q (List.range' k tr.length) a w
 | [],k,s,s',_,hc,_,g,a,w,hgood,hQ => by
  have hc' : s' = s:=hc
  subst hc'
  exact hQ g a w hgood
 | t :: tr,k,s,s',ho,hc,hok,g,a,w,hgood,hQ => by
  obtain ⟨hts,hc⟩:=hc
  simp only [List.length_cons,List.range'_succ]
  rw [wpOps_cons]
  have hi : opsA[k]? = some t.o:=by have:=ho 0 t rfl; simpa using this
  refine vj (hok t (by simp)) (s:=s) ?_ ?_ ?_ hgood hops hi ?_
  ·intro x _; rw [hts]
  ·intro id _; rw [hts]
  ·intro j hj
   have:=(hok t (by simp)).fresh j hj
   rw [hts] at this
   exact this
  ·intro g' a' w' hg'
   refine ui hops tr (k + 1) t.next s' ?_ hc (fun x hx => hok x (by simp [hx])) (by unfold TR.next; rw [hts]; exact hg') hQ
   intro j t' hj
   have:=ho (j + 1) t' (by simpa using hj)
   simpa [Nat.add_assoc,Nat.add_comm 1 j] using this
end
theorem yk (hT : TblOk P T) (hΓ : CtxOk P Γ) {opsA : Array Oper} {kp : List Nat} {s : TS F} {K : TS F → Option R} {r : R}
  (h : tReg T Γ nv n kp opsA.toList false s K = some r) {Q : Exit → Act → World → Prop} (hg : Good P own W0 n s.st g a w)
  (hQ : ∀ s' g' a' w',K s' = some r → Fr nv s s' → Good P own W0 n s'.st g' a' w' → Q .normal a' w') : wpOps P opsA Q (List.range opsA.size) a w:=by
 unfold tReg at h
 obtain ⟨z,tr,h1,t1,t2,t3,t4,t5⟩:=pZ hT hΓ h
 obtain ⟨hord,h1⟩:=bI h1
 obtain ⟨E',h2,h3⟩:=mI h1
 have hQ' : ∀ g' a' w',Good P own W0 n z.st g' a' w' → Q .normal a' w':=by
  intro g' a' w' hg'
  refine hQ _ g' a' w' h2 ⟨fun x hx hn => ?_,t5.m,t5.c,t5.dE,t5.dM⟩ (hg'.sub ?_ (fun _ _ h => h) (fun _ h => h))
  ·show look E' x = _
   rw [h3,if_pos (by simp [memN,Nat.blt_eq.mpr hx])]
   exact t5.e x hx hn
  ·intro x d hx
   simp only [TS.st] at hx ⊢
   rw [h3] at hx
   split at hx
   ·exact hx
   ·cases hx
 have hlen : opsA.size = tr.length:=by rw [← Array.length_toList,← t1,List.length_map]
 have:=ph (opsA:=opsA) rfl (Q:=Q) tr 0 s.st z.st (by
  intro j
  have : opsA.toList[j]? = (tr.map (·.o))[j]?:=by rw [t1]
  rw [List.getElem?_map] at this
  rw [← this]
  simp) t2 t3 hg hQ'
 rw [← hlen] at this
 rw [List.range_eq_range']
 exact this
theorem yK (hT : TblOk P T) (hΓ : CtxOk P Γ) {id : Nat} {opsA : Array Oper} {kp : List Nat} {s : TS F} {K : TS F → Option R} {r : R} {n : Nat} {a : Act} {w : World} {own : Ow}
  (h : tReg T Γ nv n kp opsA.toList false s K = some r) {Q : Exit → Act → World → Prop} (hg : Good P own W0 n s.st g a w)
  (hQ : ∀ s' g' a' w',K s' = some r → Fr nv s s' → Good P own W0 n s'.st g' a' w' → Q .normal a' w') : (Code.region id opsA false).wp P Q a w:=wp_region (yk hT hΓ h hg hQ)
end
section
variable {F : Fam} {P : Program} {T : TypeId → Option (TI F)} {Γ : Ctx F} {nv : Nat}
theorem yG {fn : Func} {sp : Spec F} {a : HL F sp.ks} {imm : Nat → Prop} {w : World} {vs : List Value} {pls bxs : List Pl} (hlen : Nat.ble sp.ks.length fn.ntmps = true) (hsafe : xp sp.ks = true)
  (hheld : eM P w imm sp.ks a vs pls bxs) (hpl : PlOk w imm (plBlks pls)) (himm : ∀ b,imm b → b < w.heap.size) :
  ∃ g0,Good P ⟨fun b => b ∈ plBlks pls ∨ w.heap.size ≤ b,imm,(G.at0 0 pls imm).ids⟩ w fn.ntmps (⟨params 0 (entL sp.ks a (unpHL sp.ks a 0).1),(unpHL sp.ks a 0).2.1,(unpHL sp.ks a 0).2.2,[],[]⟩ : TS F).st g0 { tmps:=(⟨vs⟩ : Array Value) ++ Array.replicate (fn.ntmps - (⟨vs⟩ : Array Value).size) undef,defers:=[] } w ∧
   (aO sp.ks a 0).map (G.at0 0 pls imm).ids = bxs.map some:=by
  obtain ⟨L,l1,l2,l3⟩:=uV hheld
  let g0 : G:=⟨(G.at0 0 pls imm).ids,imm,L⟩
  have hnm0 : NmAt g0 0 pls:=fun j pl hj => ul (I:=imm) (pls:=pls) (c:=0) j pl hj
  obtain ⟨h1,h2,h3,h4⟩:=tq (g:=g0) (c:=0) hheld hnm0
  have h1:=l3 (g:=g0) (fun _ h => h) h1
  have hlen0 : ∀ b,L b → ¬ (b ∈ plBlks pls ∨ w.heap.size ≤ b) ∧ b < w.heap.size:=by
   intro b hb
   refine ⟨fun ho => ?_,l1 b hb⟩
   rcases Bool.or_eq_true _ _ ▸ hsafe with hs | hs
   ·exact l2 hs b hb
   ·rw [oH hs hheld] at ho
    rcases ho with ho | ho
    ·simp [plBlks] at ho
    ·exact absurd (l1 b hb) (Nat.not_lt.2 ho)
  simp only [Nat.zero_add] at h3
  let own : Ow:=⟨fun b => b ∈ plBlks pls ∨ w.heap.size ≤ b,imm,(G.at0 0 pls imm).ids⟩
  have hvl:=qw hheld
  have hlen' : sp.ks.length ≤ fn.ntmps:=Nat.le_of_ble_eq_true hlen
  have hblk : ∀ {id : Nat} {B : Blk F} {b : Nat},look (unpHL sp.ks a 0).2.1 id = some B → g0.blk id b → ∃ b0 q,pls[id]? = some (some (b0,q)) ∧ b ∈ b0 :: nbl q.2.2:=by
   rintro id B b _ ⟨b0,q,hq,hbb⟩
   simp only [g0,G.at0] at hq
   rw [if_pos (Nat.zero_le _),Nat.sub_zero] at hq
   exact ⟨b0,q,hq,hbb⟩
  have hgood : Good P own w fn.ntmps (⟨params 0 (entL sp.ks a (unpHL sp.ks a 0).1),(unpHL sp.ks a 0).2.1,(unpHL sp.ks a 0).2.2,[],[]⟩ : TS F).st g0 { tmps:=(⟨vs⟩ : Array Value) ++ Array.replicate (fn.ntmps - (⟨vs⟩ : Array Value).size) undef,defers:=[] } w:=by
   refine ⟨rfl,?_,?_,⟨?_,?_,?_,himm,fun b hb => .inl hb,hlen0⟩,?_,fun _ h => h,⟨rfl,rfl,rfl,Nat.le_refl _,fun b hb => .inr hb,fun _ _ _ => rfl,Nat.le_refl _⟩,fun _ _ h => h⟩
   ·simp [hvl]; omega
   ·intro x d hx
    obtain ⟨j,rfl,hj⟩:=pC _ 0 x d hx
    have hlt : j < vs.length:=by rw [h1.1]; exact (Do.1 hj).1
    have : ((⟨vs⟩ : Array Value) ++ Array.replicate (fn.ntmps - (⟨vs⟩ : Array Value).size) undef).getD (0 + j) undef = vs[j]:=by
     rw [Nat.zero_add,Array.getD_eq_getD_getElem?,Array.getElem?_append_left (by simpa using hlt)]
     simp [hlt]
    rw [this]
    exact h1.2 j d _ hj (Dn hlt)
   ·intro id B hB
    obtain ⟨j,_,_,_,q⟩:=h2 _ (qD hB)
    exact q
   ·intro id id' B B' b hB hB' _ _ hb hb'
    obtain ⟨b0,q,hq,hx⟩:=hblk hB hb
    obtain ⟨b0',q',hq',hx'⟩:=hblk hB' hb'
    exact js hpl.nodup hq hx hq' hx'
   ·intro id B b hB _ hb
    obtain ⟨b0,q,hq,hx⟩:=hblk hB hb
    have:=cX.2 ⟨id,b0,q,hq,hx⟩
    exact ⟨.inl this,hpl.imm b this⟩
   ·intro id hid
    simp only [TS.st,eE,decide_eq_false_iff_not,h3] at hid
    simp only [g0,G.at0]
    rw [if_pos (Nat.zero_le _),Nat.sub_zero,List.getElem?_eq_none (by omega)]
  exact ⟨g0,hgood,h4⟩
theorem zE (hT : TblOk P T) (hΓ : CtxOk P Γ) {fn : Func} {sp : Spec F} {a : HL F sp.ks} {r : TL F (outs sp)} {imm : Nat → Prop} {w w' : World} {pls bxs : List Pl} {g' : G} {s' : TS F} {a' : Act} {m : Nat} (hrs : sp.rs.all (fun k => !k.isBox) = true)
  (h4 : (aO sp.ks a 0).map (G.at0 0 pls imm).ids = bxs.map some) (k4 : Good P ⟨fun b => b ∈ plBlks pls ∨ w.heap.size ≤ b,imm,(G.at0 0 pls imm).ids⟩ w m s'.st g' a' w') (k2 : packR T Γ fn sp.ks sp.rs a s' = some r) :
  ∃ rvs,(results fn a'.tmps).run P w' = .ok (tupV rvs) w' ∧ ∃ (imm' : Nat → Prop) (pls' : List Pl),
   w'.os = w.os ∧ w'.tape = w.tape ∧ w'.output = w.output ∧ w.drawn ≤ w'.drawn ∧ w.heap.size ≤ w'.heap.size ∧ (∀ b,b < w.heap.size → b ∉ plBlks pls → w'.heap[b]? = w.heap[b]?) ∧
   (∀ b,imm b → imm' b) ∧ (∀ b,imm' b → imm b ∨ b ∈ plBlks pls ∨ w.heap.size ≤ b) ∧ (∀ b,imm' b → b < w'.heap.size) ∧
   d4 P w' imm' (outs sp) r rvs bxs pls' ∧ PlOk w' imm' (plBlks bxs ++ plBlks pls') ∧ ∀ b ∈ plBlks bxs ++ plBlks pls',b ∈ plBlks pls ∨ w.heap.size ≤ b:=by
   unfold packR at k2
   split at k2
   ·cases k2
   ·rename_i rd hrd
    split at k2
    ·cases k2
    ·rename_i p hp
     obtain ⟨hc,k2⟩:=bI k2
     simp only [Bool.and_eq_true] at hc
     cases k2
     obtain ⟨rvs,q1,q2⟩:=tv hT k4 hrd
     have hbids : (aO sp.ks a 0).map g'.ids = bxs.map some:=by
      rw [← h4]
      refine List.map_congr_left fun id hid => ?_
      obtain ⟨q,_,hq⟩:=mj h4 hid
      rw [hq]
      exact k4.nam id _ hq
     have hcnt : ((sp.rs ++ sp.ks.filter Kd.isBox).filter Kd.isBox).length = (aO sp.ks a 0).length:=by
      rw [dz,List.filter_append,List.filter_filter]
      have : sp.rs.filter Kd.isBox = []:=by
       rw [List.filter_eq_nil_iff]
       intro k hk
       have:=List.all_eq_true.1 hrs k hk
       simpa using this
      rw [this]
      simp
     obtain ⟨pls',p1,p2,p3,p4⟩:=rB hΓ k4.mem (fun _ _ h => h) hp (imm:=(g'.fzs p.fz).imm) ⟨fun _ h => .inl h,fun id hid b hb => .inr ⟨id,hid,hb⟩⟩ q2 hbids hcnt
     have hfr:=mM k4.mem (fun _ _ h => h) p3
     have hL : ∀ b ∈ plBlks bxs ++ plBlks pls',∃ id B,some id ∈ p.os ∧ look s'.M id = some B ∧ B.owned = true ∧ g'.blk id b:=by
      intro b hb
      obtain ⟨id,r1,r2⟩:=d8.1 (p2.mem_iff.2 hb)
      obtain ⟨B,r3,r4⟩:=p4 id r1
      exact ⟨id,B,r1,r3,r4,r2⟩
     refine ⟨rvs,pS q1,(g'.fzs p.fz).imm,pls',k4.frm.os,k4.frm.tape,k4.frm.output,k4.frm.drawn,k4.frm.size,?_,fun b hb => .inl (k4.ini b hb),?_,hfr.imm,p1,⟨?_,?_,?_⟩,?_⟩
     ·intro b hb hno
      exact k4.frm.block b hb (fun ho => ho.elim hno (fun h => by omega))
     ·intro b hb
      exact hfr.io b hb
     ·exact p2.nodup_iff.1 (jt k4.mem (iZ hc.1) p4)
     ·intro b hb
      obtain ⟨id,B,r1,r2,r3,r4⟩:=hL b hb
      have hno : id ∉ p.fz:=my hc.2 id (eV.2 r1)
      exact (hfr.own id B b (by rw [jr,if_neg hno]; exact r2) r3 r4).2
     ·intro b hb
      obtain ⟨id,B,r1,r2,r3,r4⟩:=hL b hb
      exact (k4.mem.ok id B r2).place k4.mem.imm r4
     ·intro b hb
      obtain ⟨id,B,r1,r2,r3,r4⟩:=hL b hb
      exact (k4.mem.own id B b r2 r3 r4).1
theorem fnOkE (hT : TblOk P T) (hΓ : CtxOk P Γ) {f fB fC : FuncId} {fn : Func} {sp : Spec F} {te : TypeId} (hf : P.funcs[f]? = some fn) (hnm : (fn.name == "runtime.NumGoroutine") = false) (hbn : fn.body.isNone = false) (hlen : Nat.ble sp.ks.length fn.ntmps = true)
  (hrs : sp.rs.all (fun k => !k.isBox) = true) (hentB : ie P fB) (hentC : ie P fC)
  (hB : ∀ (p : Option Addr) (cap : Nat) (w : World),Calls P fB #[.slice p 0 cap] w fun e w' => e = .returned (.func (.func fC) #[] #[.pointer (some ⟨w.heap.size,0,none⟩)]) ∧ w' = w.alloc (.cells #[.slice p 0 cap] te (0,0)))
  (hC : ∀ (y : Value) (p : Option Addr) (cap b : Nat) (w : World),w.heap[b]? = some (.cells #[.slice p 0 cap] te (0,0)) → Calls P fC #[y,.pointer (some ⟨b,0,none⟩)] w fun e w' => (∃ v,e = .returned v) ∧ w' = w)
  (hD : ∀ a r,sp.D a = some r → xx T Γ nv fn fB sp.ks sp.rs a = some r) : FnOk P f sp:=by
 refine ⟨⟨fn,hf,hnm,hbn⟩,?_⟩
 intro a r hr imm w vs pls bxs hheld hpl himm
 have hd:=hD a r hr
 unfold xx at hd
 split at hd
 ·cases hd
 rename_i body hbody
 split at hd
 ·cases hd
 rename_i q hq
 obtain ⟨i0,i1,ib,ps,cx,cy,i8,rfl⟩:=ze hq
 split at hd
 ·cases hd
 rename_i pre oB hil
 have hops1:=s_ hil
 split at hd
 ·cases hd
 rename_i e he
 obtain ⟨od,og,ats,oo⟩:=yO he
 obtain ⟨hc,hd⟩:=bI hd
 simp only [Bool.and_eq_true,Nat.blt_eq] at hc
 obtain ⟨⟨hc1,hc2⟩,hlt⟩:=hc
 have hc1:=Nat.eq_of_beq_eq_true hc1
 have hc2:=Nat.eq_of_beq_eq_true hc2
 dsimp only at hd
 obtain ⟨hsafe,hd⟩:=bI hd
 obtain ⟨g0,hgood,h4⟩:=yG (fn:=fn) hlen hsafe hheld hpl himm
 generalize hown : (⟨fun b => b ∈ plBlks pls ∨ w.heap.size ≤ b,imm,(G.at0 0 pls imm).ids⟩ : Ow) = own at hgood
 refine callsIn_wide.1 (callsIn_of_wp_marks (F:=Fence.wide) (n:=1) hf hbody trivial ((wpIn_wide).2 ?_))
 refine wp_seq (yK (id:=i0) hT hΓ hd hgood ?_)
 intro s1 g1 a1 w1 hd1 _ hg1
 simp only [Exit.then]
 refine wp_seq (wp_seq (wp_region ?_))
 obtain ⟨z,tr,hd2,t1,t2,t3,t4,t5⟩:=pZ hT hΓ hd1
 split at hd2
 rotate_left
 ·cases hd2
 rename_i id hx
 split at hd2
 rotate_left
 ·cases hd2
 rename_i tt l hrow
 cases l with
 | cons x l => cases hd2
 | nil =>
 simp only [List.isEmpty_nil,cond_true] at hd2
 have hlen1 : q.ops1.size = tr.length + 1:=by
  rw [← Array.length_toList,hops1,← t1]; simp
 rw [hlen1,List.range_succ,List.range_eq_range']
 refine vB _ _ ?_
 refine ui (opsA:=q.ops1) rfl tr 0 _ z.st (fun j t0 hj => ?_) t2 t3 hg1 ?_
 ·have hjl:=(Do.1 hj).1
  rw [Nat.zero_add,← Array.getElem?_toList,hops1,← t1,List.getElem?_append_left (by simpa using hjl),List.getElem?_map,hj]
  rfl
 intro g2 a2 w2 hg2
 simp only [Exit.then]
 have hval : ∃ p cap,a2.eval (.tmp e.x) = .slice p 0 cap:=by
  rcases cJ (bn (hg2.env _ _ hx)) with ⟨hi,p,hv⟩ | ⟨b,cap,n',hi,h1,h2,hv⟩
  ·exact ⟨_,_,hv⟩
  ·rcases hg2.mem.ok id _ hrow with ⟨r1,_⟩ | ⟨b',cap',cur,ee,r1,_⟩
   ·rw [hi] at r1; cases r1
   ·rw [hi] at r1
    cases r1
    exact ⟨_,_,hv⟩
 obtain ⟨p,cap,hval⟩:=hval
 have hilast : q.ops1[tr.length]? = some oB:=by
  rw [← Array.getElem?_toList,hops1,← t1]; simp
 rw [wpOps_cons]
 unfold wpOp
 rw [hilast]
 dsimp only
 rw [show Region.wanted oB (yielded q.ops1 a2.tmps) = true by simp [Region.wanted,og],if_pos rfl]
 left
 unfold Oper.wp
 have hcr:=tI (P:=P) (a:=a2) (w:=w2) (f:=fB) (fs:=[]) (cs:=[]) oo (by rw [← hc2]; rfl) hentB
 rw [hcr]
 simp only [Oper.upon,List.map_cons,List.map_nil,List.nil_append,List.append_nil,hval]
 refine (hB p cap w2).mono ?_
 rintro e3 w3 ⟨rfl,rfl⟩
 simp only [wpOps,od]
 generalize hw3 : w2.alloc (.cells #[.slice p 0 cap] te (0,0)) = w3
 have hs3 : w3.heap.size = w2.heap.size + 1:=by rw [← hw3,World.size_alloc]
 have hb3 : w3.heap[w2.heap.size]? = some (.cells #[.slice p 0 cap] te (0,0)):=by rw [← hw3]; exact heap_alloc_new w2 _
 have hold3 : ∀ b,b < w2.heap.size → w3.heap[b]? = w2.heap[b]?:=fun b hb => by rw [← hw3]; exact heap_alloc_old w2 _ hb
 generalize ha3 : a2.put (some e.t) (.func (.func fC) #[] #[.pointer (some ⟨w2.heap.size,0,none⟩)]) = a3
 simp only [Exit.then]
 refine wp_block ((wpIn_wide (n:=1)).1 (wpIn_rangeFunc ?_))
 intro fnn _
 have hga : a3.eval (.tmp q.t) = .func (.func fC) #[] #[.pointer (some ⟨w2.heap.size,0,none⟩)]:=by
  rw [← ha3,hc1,nE (by rw [hg2.tsz]; exact hlt)]
 obtain ⟨rec,hrec⟩ : ∃ rec : LoopState → Loop,rec = fun st => { state:=st,pending:=none,fn:=fnn,tmps:=a3.tmps,params:=ps,assign:=cx,body:=cy,defers:=w3.heap.size }:=⟨_,rfl⟩
 obtain ⟨W1,hW1⟩ : ∃ W1,(w3.alloc (.deferred (some []))).alloc (.loop (rec .ready)) = W1:=⟨_,rfl⟩
 have hsW : W1.heap.size = w3.heap.size + 2:=by rw [← hW1,World.size_alloc,World.size_alloc]
 have hL1 : W1.heap[w3.heap.size + 1]? = some (.loop (rec .ready)):=by
  rw [← hW1]
  have:=heap_alloc_new (w3.alloc (.deferred (some []))) (.loop (rec .ready))
  rwa [World.size_alloc] at this
 have hD1 : W1.heap[w3.heap.size]? = some (.deferred (some [])):=by
  rw [← hW1,heap_alloc_old _ _ (by rw [World.size_alloc]; omega)]
  exact heap_alloc_new w3 _
 have holdW : ∀ b,b < w3.heap.size → W1.heap[b]? = w3.heap[b]?:=by
  intro b hb
  rw [← hW1,heap_alloc_old _ _ (by rw [World.size_alloc]; omega)]
  exact heap_alloc_old w3 _ hb
 refine ⟨w3.heap.size + 1,[{ target:=.collected w3.heap.size,args:=#[] }],W1,{ target:=.fn (.func fC) #[.pointer (some ⟨w2.heap.size,0,none⟩)],args:=#[.func (.yield (w3.heap.size + 1)) #[] #[]] },W1,fC,
  #[.func (.yield (w3.heap.size + 1)) #[] #[]] ++ #[.pointer (some ⟨w2.heap.size,0,none⟩)],W1,?_,?_,?_,?_,?_,?_⟩
 ·rw [← hW1,hrec]; exact run_enterLoop_outer _ _ _ _ _
 ·simp only [resolve,hga]
  simp [go_sem]
 ·intro f' _; trivial
 ·simp [invoke,go_sem,vS hentC]
 ·intro h; cases h
 refine callsIn_wide.2 ((hC _ p cap w2.heap.size W1 (by rw [holdW _ (by omega)]; exact hb3)).mono ?_)
 rintro e4 w4' ⟨⟨v4,rfl⟩,hww⟩
 rw [hww]
 refine ⟨none,_,by have:=run_endLoop (P:=P) hL1 (by rw [hrec]; simp); rw [hrec] at this; exact this,?_⟩
 simp only [Exit.inBlock,Exit.then,List.cons_append,List.nil_append]
 generalize hw4 : W1.putObj (w3.heap.size + 1) _ = w4
 have hs4 : w4.heap.size = w2.heap.size + 3:=by rw [← hw4]; simp only [World.putObj,Array.size_setIfInBounds]; omega
 have hD4 : w4.heap[w3.heap.size]? = some (.deferred (some [])):=by rw [← hw4,World.putObj_heap_other (by omega)]; exact hD1
 have hold4 : ∀ b,b < w2.heap.size → w4.heap[b]? = w2.heap[b]?:=by
  intro b hb
  rw [← hw4,World.putObj_heap_other (by omega),holdW b (by omega),hold3 b hb]
 have hfr : g2.ids z.c = none:=hg2.dom z.c (by simp only [TS.st,eE,decide_eq_false_iff_not]; omega)
 have hos : w4.os = w2.os ∧ w4.tape = w2.tape ∧ w4.output = w2.output ∧ w4.drawn = w2.drawn:=by
  rw [← hw4,← hW1,← hw3]; exact ⟨rfl,rfl,rfl,rfl⟩
 obtain ⟨m1,m2⟩:=jW (rm:=[]) (pl:=some (w3.heap.size,0,0,[])) (B:=Blk.it (.deferred (some []))) hg2.mem hfr (w':=w4) (by
  intro b0 c e b hb
  cases e
  simp only [nbl,Dq] at hb
  subst hb
  exact .inl ⟨by omega,by omega,hg2.frm.fresh _ (Nat.le_trans hg2.frm.size (by omega))⟩) hos.1 hos.2.1 hos.2.2.1 (Nat.le_of_eq hos.2.2.2.symm) (by omega) (fun b hb _ => hold4 b hb) (fun g' hle hi => ⟨_,hi,hD4⟩)
 have hid4:=br g2 z.c (some (w3.heap.size,0,0,[]))
 generalize hg4n : g2.name z.c (some (w3.heap.size,0,0,[])) = g4 at m1 m2 hid4
 have hg4 : Good P own w fn.ntmps (emB z q.t).st g4 a3 w4:=by
  refine ⟨by rw [← ha3]; exact hg2.dfr,by rw [← ha3]; simp [Act.put,hg2.tsz],?_,m1.sub ?_,?_,fun b hb => m2.le.imm b (hg2.ini b hb),hg2.frm.stp hg2.mem m2,fun id p hp => m2.le.ids id p (hg2.nam id p hp)⟩
  ·intro y d hy
   simp only [TS.st,emB] at hy
   rw [aM (fun y => !(Nat.beq q.t y))] at hy
   split at hy
   ·rename_i hyt
    rw [← ha3,putD,if_neg (fun e' => by rw [← e',hc1,ca] at hyt; cases hyt)]
    exact (hg2.env y d hy).le m2.le
   ·cases hy
  ·intro id B hB
   simp only [TS.st,emB,az] at hB
   simp only [List.map_nil,List.nil_append,updM]
   exact hB
  ·intro id hid
   simp only [TS.st,emB,eE,decide_eq_false_iff_not] at hid
   rw [← hg4n,cU _ _ _ (by omega)]
   exact hg2.dom id (by simp only [TS.st,eE,decide_eq_false_iff_not]; omega)
 have hg4':=hg4.fix hid4 hid4
 have hunfix : ∀ {z' : St F} {g' : G} {a' : Act} {w' : World},Good P (own.fix z.c (some (w3.heap.size,0,0,[])) z.c (some (w3.heap.size,0,0,[]))) w fn.ntmps z' g' a' w' → Good P own w fn.ntmps z' g' a' w':=by
  intro z' g' a' w' hh
  refine hh.unfix (fun p hp => ?_) (fun p hp => ?_)
  ·have:=hg2.nam _ _ hp
   rw [hfr] at this
   cases this
  ·have:=hg2.nam _ _ hp
   rw [hfr] at this
   cases this
 have hadd : ({ tmps:=a3.tmps,defers:={ target:=.collected w3.heap.size,args:=#[] } :: a3.defers } : Act) = Act.addD a3 [{ target:=.collected w3.heap.size,args:=#[] }]:=by
  have : a3.defers = []:=by rw [← ha3]; exact hg2.dfr
  unfold Act.addD
  rw [this]
  rfl
 rw [hadd]
 refine wp_seq (wp_region ?_)
 refine nc (Q:=fun e a w => match e with | .normal => ∃ s8 g8,(if memN z.c s8.dM then none else packR T Γ fn sp.ks sp.rs _ (emZ s8 z.c)) = some r ∧ Fr nv (emB z q.t) s8 ∧ Good P (own.fix z.c (some (w3.heap.size,0,0,[])) z.c (some (w3.heap.size,0,0,[]))) _ fn.ntmps s8.st g8 a w | _ => False) ?_ _ (yk (Q:=fun e a w => match e with | .normal => ∃ s8 g8,(if memN z.c s8.dM then none else packR T Γ fn sp.ks sp.rs _ (emZ s8 z.c)) = some r ∧ Fr nv (emB z q.t) s8 ∧ Good P (own.fix z.c (some (w3.heap.size,0,0,[])) z.c (some (w3.heap.size,0,0,[]))) _ fn.ntmps s8.st g8 a w | _ => False) hT hΓ hd2 hg4' (fun s' g' a' w' h1 h2 h3 => ⟨s',g',h1,h2,h3⟩))
 intro e8 a8 w8 h8
 cases e8 with
 | normal =>
  obtain ⟨s8,g8,hd8,hfr8,hg8⟩:=h8
  simp only [Exit.then]
  refine wp_ret ?_
  cases hmm : memN z.c s8.dM with
  | true => rw [hmm] at hd8; cases hd8
  | false =>
   rw [hmm] at hd8
   simp only [Bool.false_eq_true,if_false] at hd8
   have hnotin : z.c ∉ s8.dM:=fun hh => by rw [aR.2 hh] at hmm; cases hmm
   have hM8 : look s8.M z.c = some (.it (.deferred (some []))):=by
    rw [hfr8.m z.c (Nat.lt_succ_self _) hnotin]
    simp [emB,az]
   have hid8 : g8.ids z.c = some (some (w3.heap.size,0,0,[])):=hg8.nam _ _ (by simp [Ow.fix])
   have hD8 : w8.heap[w3.heap.size]? = some (.deferred (some [])):=by
    obtain ⟨b,hb1,hb2⟩:=hg8.mem.ok z.c _ hM8
    rw [hid8] at hb1
    cases hb1
    exact hb2
   have hg9 : Good P own w fn.ntmps (emZ s8 z.c).st g8 a8 (stO w8 w3.heap.size (.deferred none)):=by
    refine hunfix (rJ hg8 (id:=z.c) hM8 hid8 rfl rfl ?_)
    intro x B hx
    simp only [TS.st,emZ] at hx
    rw [aM (fun y => !(Nat.beq z.c y))] at hx
    by_cases hxc : x = z.c
    ·subst hxc
     rw [ca] at hx
     cases hx
    ·rw [if_neg hxc]
     rw [if_pos (by rw [av (fun e' => hxc e'.symm)]; rfl)] at hx
     exact hx
   rw [← hown] at hg9
   obtain ⟨rvs,hres,imm',pls',hrest⟩:=zE hT hΓ hrs h4 hg9 hd8
   have hdf : (Act.addD a8 [{ target:=.collected w3.heap.size,args:=#[] }]).defers = [{ target:=.collected w3.heap.size,args:=#[] }]:=by
    unfold Act.addD
    rw [hg8.dfr]
    rfl
   show LeavesInM Fence.wide 1 P fn _ _ (Act.addD a8 _).defers .returning w8
   rw [hdf]
   refine ⟨by simp,.inl ⟨w3.heap.size,_,rfl,run_takeDeferred hD8,?_⟩⟩
   exact ⟨tupV rvs,hres,rvs,imm',pls',rfl,hrest⟩
 | _ => exact h8.elim
theorem C_ (hT : TblOk P T) (hΓ : CtxOk P Γ) {f fB fC : FuncId} {fn : Func} {sp : Spec F} {te : TypeId} (hf : P.funcs[f]? = some fn) (hnm : (fn.name == "runtime.NumGoroutine") = false) (hbn : fn.body.isNone = false) (hlen : Nat.ble sp.ks.length fn.ntmps = true)
  (hrs : sp.rs.all (fun k => !k.isBox) = true) (hentB : ie P fB) (hentC : ie P fC)
  (hB : ∀ (p : Option Addr) (cap : Nat) (w : World),Calls P fB #[.slice p 0 cap] w fun e w' => e = .returned (.func (.func fC) #[] #[.pointer (some ⟨w.heap.size,0,none⟩)]) ∧ w' = w.alloc (.cells #[.slice p 0 cap] te (0,0)))
  (hC : ∀ (y : Value) (p : Option Addr) (cap b : Nat) (w : World),w.heap[b]? = some (.cells #[.slice p 0 cap] te (0,0)) → Calls P fC #[y,.pointer (some ⟨b,0,none⟩)] w fun e w' => (∃ v,e = .returned v) ∧ w' = w)
  (hD : (fun a => xx T Γ nv fn fB sp.ks sp.rs a) = sp.D) : FnOk P f sp :=
 fnOkE hT hΓ hf hnm hbn hlen hrs hentB hentC hB hC (fun a r h => by rw [← hD] at h; exact h)
end
set_option linter.unusedVariables false
def rngc {τ α ω : Type} (ob : ω) (t0 : ω → Option τ) (step : ω → τ → α → Option τ) : List α → Option τ
 | [] => t0 ob
 | [x] => (t0 ob).bind fun t => step ob t x
 | _ => none
theorem Ag {τ α ω : Type} {t0 : ω → Option τ} {step : ω → τ → α → Option τ} {l : List α} {t r : τ} (ob : ω) (h0 : ∀ ob,t0 ob = some t) (h : rngOk step l l.length [] t r) (hu : ∀ r',rngOk step l l.length [] t r' → r' = r) : rng t0 step l = some r:=by
 unfold rng
 have hx : ∃ r t,(∀ ob,t0 ob = some t) ∧ rngOk step l l.length [] t r:=⟨r,t,h0,h⟩
 rw [dif_pos hx]
 obtain ⟨t',h1,h2⟩:=hx.choose_spec
 have : t' = t:=by have:=h1 ob; rw [h0 ob] at this; exact (Option.some.inj this).symm
 subst this
 rw [hu _ h2]
theorem C9 {τ α ω : Type} {ob : ω} {t0 : ω → Option τ} {step step' : ω → τ → α → Option τ} (h : ∀ ob t x,Lo (step ob t x) (step' ob t x)) (hs : ∀ ob ob' t x,step ob t x = step ob' t x) (h0 : ∀ ob ob',t0 ob = t0 ob') (l : List α) : Lo (rngc ob t0 step l) (rng t0 step' l):=by
 constructor
 intro r hr
 match l with
 | [] =>
  simp only [rngc] at hr
  exact Ag (t:=r) ob (fun ob' => (h0 ob' ob).trans hr) rfl (fun r' hr' => Eq.symm hr')
 | [x] =>
  simp only [rngc,Option.bind_eq_some_iff] at hr
  obtain ⟨t,ht,hx⟩:=hr
  refine Ag (t:=t) ob (fun ob' => (h0 ob' ob).trans ht) ?_ ?_
  ·intro k y _ hy
   match k with
   | 0 => cases hy; exact ⟨r,fun ob' => (h ob' t x).ok r ((hs ob' ob t x).trans hx),rfl⟩
   | k + 1 => simp at hy
  ·intro r' hr'
   obtain ⟨t',h1,h2⟩:=hr' 0 x (by simp) rfl
   have h3 : t' = r':=h2
   have:=h1 ob
   rw [(h ob t x).ok r hx] at this
   rw [← h3]
   exact (Option.some.inj this).symm
 | x :: y :: l => cases hr
end Go.Fx
