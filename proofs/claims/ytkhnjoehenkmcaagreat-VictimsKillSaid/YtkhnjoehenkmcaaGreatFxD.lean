/-
  The framework, fourth part: bounded rounds, deletion from slices, ranges over functions. Conditions: none.
-/
import Derived.Test.YtkhnjoehenkmcaaGreatFxC
import Derived.Shelf.SlicesE.Kit
import Derived.Shelf.RegionOpenPlain
import Derived.Deep.LoopGhost
import Derived.Deep.RegionLaw
import Derived.Lib.Walk
import Derived.Sort.WalkB12
import Derived.Lib.SlicesDelete
import Derived.RangeFuncLeaves
import Derived.RangeFuncRecord
import Derived.RangeFuncIn
import Derived.RangeFuncSeq
namespace Go.Fx
open Go
set_option linter.unusedVariables false
structure Lo {α : Type} (a b : Option α) : Prop where
 ok : ∀ r,a = some r → b = some r
theorem ag {α : Type} (a : Option α) : Lo a a:=⟨fun _ h => h⟩
theorem af {α : Type} {b : Option α} : Lo none b:=⟨fun _ h => by cases h⟩
theorem ae {α β : Type} {a a' : Option α} {f f' : α → Option β} (h : Lo a a') (k : ∀ x,Lo (f x) (f' x)) : Lo (a.bind f) (a'.bind f'):=by
 constructor
 intro r hr
 cases a with
 | none => cases hr
 | some x => rw [h.ok x rfl]; exact (k x).ok r hr
theorem aa {α γ β : Type} {a a' : Option (α ⊕ γ)} {f f' : α ⊕ γ → Option β} (h : Lo a a') (k : ∀ x,Lo (f (.inl x)) (f' (.inl x))) (k' : ∀ x,Lo (f (.inr x)) (f' (.inr x))) : Lo (a.bind f) (a'.bind f') :=
 ae h fun x => match x with
  | .inl x => k x
  | .inr x => k' x
theorem ab {α γ δ β : Type} {a a' : Option (α ⊕ (γ ⊕ δ))} {f f' : α ⊕ (γ ⊕ δ) → Option β} (h : Lo a a') (k : ∀ x,Lo (f (.inl x)) (f' (.inl x))) (k1 : ∀ x,Lo (f (.inr (.inl x))) (f' (.inr (.inl x)))) (k2 : ∀ x,Lo (f (.inr (.inr x))) (f' (.inr (.inr x)))) : Lo (a.bind f) (a'.bind f') :=
 ae h fun x => match x with
  | .inl x => k x
  | .inr (.inl x) => k1 x
  | .inr (.inr x) => k2 x
theorem ad {α γ δ ε β : Type} {a a' : Option (α ⊕ (γ ⊕ (δ ⊕ ε)))} {f f' : α ⊕ (γ ⊕ (δ ⊕ ε)) → Option β} (h : Lo a a') (k : ∀ x,Lo (f (.inl x)) (f' (.inl x))) (k1 : ∀ x,Lo (f (.inr (.inl x))) (f' (.inr (.inl x)))) (k2 : ∀ x,Lo (f (.inr (.inr (.inl x)))) (f' (.inr (.inr (.inl x))))) (k3 : ∀ x,Lo (f (.inr (.inr (.inr x)))) (f' (.inr (.inr (.inr x))))) : Lo (a.bind f) (a'.bind f') :=
 ae h fun x => match x with
  | .inl x => k x
  | .inr (.inl x) => k1 x
  | .inr (.inr (.inl x)) => k2 x
  | .inr (.inr (.inr x)) => k3 x
theorem ah {α : Type} {c : Bool} {a b a' b' : Option α} (h : Lo a a') (k : Lo b b') : Lo (cond c a b) (cond c a' b'):=by
 cases c
 ·exact k
 ·exact h
def itr {τ σ : Type} (n : Nat) (s : τ → Option (τ ⊕ σ)) (t : τ) : Option σ:=iter s n t
theorem ai {τ σ : Type} {n : Nat} {s s' : τ → Option (τ ⊕ σ)} (h : ∀ t,Lo (s t) (s' t)) (t : τ) : Lo (itr n s t) (loop s' t):=by
 constructor
 intro r hr
 unfold itr at hr
 refine DS (n:=n) ?_
 induction n generalizing t with
 | zero => cases hr
 | succ n ih =>
  simp only [iter] at hr ⊢
  split at hr
  ·cases hr
  ·rename_i t' ht
   rw [(h t).ok _ ht]
   exact ih t' hr
  ·rename_i q hq
   rw [(h t).ok _ hq]
   exact hr
end Go.Fx
namespace Go.Fx
open Go Go.Proofs Go.RowKit
set_option linter.unusedVariables false
set_option linter.unusedSimpArgs false
def del {α : Type} (l : List α) (i j : Int) : Option (List α):=if 0 ≤ i ∧ i ≤ j ∧ j ≤ l.length then some (l.take i.toNat ++ l.drop j.toNat) else none
def zC (P : Program) (f : FuncId) (ts e sz : Nat) : Prop :=
 ∀ (b n cap i j : Nat) (w : World),n ≤ cap → cap ≤ 9223372036854775807 → i < j → j ≤ n → ∀ (i0 : TypeInfo),P.info? e = some i0 → i0.size = sz → ∀ (A : Addr),(if cap = j then some (⟨b,0,none⟩ : Addr) else some ⟨b,j * sz,none⟩) = some A → ∀ (news : List Value),
  Hid (news.length = (n - j) * sz) → Hid (∀ t u,news[t]? = some u → w.drew.cell? (A.add t) = some u) → Hid (∀ u ∈ news,u.oneCell' = true) →
  Hid (∀ t,t < news.length → (w.drew.cell? ⟨b,0 + i * sz + t,none⟩).isSome = true ∧ w.drew.frozen? ⟨b,0 + i * sz + t,none⟩ = false) →
  ∀ (W1 W2 : World),Hid (W1 = w.drew.setCells b (0 + i * sz) news) →
  (∀ ty,(Builtin.clear_ #[ts] ty #[.slice (some ⟨b,(i + (n - j)) * sz,none⟩) (n - (i + (n - j))) (cap - (i + (n - j)))]).run P W1 = .ok (.tuple #[]) W2) →
  Calls P f #[.slice (some ⟨b,0,none⟩) n cap,.int .i64 i,.int .i64 j] w fun e w' => e = .returned (.slice (some ⟨b,0,none⟩) (i + (n - j)) cap) ∧ w' = W2
def zn (P : Program) (f : FuncId) : Prop :=
 (∀ (b n cap i : Nat) (w : World),n ≤ cap → i ≤ n → Calls P f #[.slice (some ⟨b,0,none⟩) n cap,.int .i64 i,.int .i64 i] w fun e w' => e = .returned (.slice (some ⟨b,0,none⟩) n cap) ∧ w' = w) ∧
 ∀ (p : Option Addr) (w : World),Calls P f #[.slice p 0 0,.int .i64 0,.int .i64 0] w fun e w' => e = .returned (.slice p 0 0) ∧ w' = w
section
variable {F : Fam} {P : Program} {T : TypeId → Option (TI F)}
theorem AC {w : World} {b o : Nat} {cur vs : List Value} {t : TypeId} (hb : w.heap[b]? = some (.cells ⟨cur⟩ t (0,0))) (hl : o + vs.length ≤ cur.length) (h1 : ∀ v ∈ vs,v.oneCell' = true) :
  w.setCells b o vs = w.setRow b (cur.take o ++ vs ++ cur.drop (o + vs.length)).toArray:=by
 have r1:=run_storeCells_at (default : Program) b o t vs 0 ⟨cur⟩ w hb (by simpa using hl) h1
 have r2:=run_storeCells_cells (P:=(default : Program)) b o vs 0 w (by
  intro j hj
  simp only [World.cell?,hb,Nat.add_zero]
  simp
  omega) (by
  intro j hj
  simp [World.frozen?,hb]) h1
 rw [r1] at r2
 simp only [Nat.add_zero] at r2
 injection r2 with _ h
 exact h.symm
theorem D7 (hT : TblOk P T) {f ts e sz : Nat} {t : Ty} {te : TI F} (hte : T e = some te) (htt : te.ty = some t) (hsz : te.size = sz) (h0 : 0 < sz) (hts : P.underlying ts = some (.slice e)) (hent : jI P f) (wn : zn P f) (wb : zC P f ts e sz) (hmp : t.isMp = false:=by rfl) :
  FnOk (F:=F) P f ⟨[.v (.slice t) [0],.v (.int .i64) [],.v (.int .i64) []],[.v (.slice t) [0]],fun a => del a.1 a.2.1 a.2.2.1⟩:=by
 refine ⟨hent,?_⟩
 intro a r hr imm w vs pls bxs hheld hpl himm
 obtain ⟨l,i,j,u⟩:=a
 have hr : del l i j = some r:=hr
 unfold del at hr
 split at hr
 rotate_left
 ·cases hr
 rename_i hc
 have c1 : (0 : Int) ≤ i:=hc.1
 have c2 : (i : Int) ≤ j:=hc.2.1
 have c3 : (j : Int) ≤ ((List.length l : Nat) : Int):=hc.2.2
 have c4 : (0 : Int) ≤ j:=Int.le_trans c1 c2
 have hr' : r = l.take i.toNat ++ l.drop j.toNat:=(Option.some.inj hr).symm
 clear hr
 obtain ⟨i',rfl⟩ : ∃ i' : Nat,i = i':=⟨Int.toNat i,(Int.toNat_of_nonneg c1).symm⟩
 obtain ⟨j',rfl⟩ : ∃ j' : Nat,j = j':=⟨Int.toNat j,(Int.toNat_of_nonneg c4).symm⟩
 simp only [Int.toNat_natCast] at hr'
 obtain ⟨v,vs',p1,p2,b1,b2,rfl,rfl,rfl,⟨h1,rfl⟩,v2,vs2,p3,p4,b3,b4,rfl,rfl,rfl,⟨h2,rfl⟩,v3,vs3,p5,p6,b5,b6,rfl,rfl,rfl,⟨h3,rfl⟩,rfl,rfl,rfl⟩:=hheld
 unfold HeldV at h1 h2 h3
 simp only [Ty.isSt,Bool.false_eq_true,if_false,encT,HeldC,memN,Nat.beq,if_true] at h1 h2 h3
 obtain ⟨pl,rest,rfl,hrow,hv,rfl⟩:=h1
 rw [mM hmp] at hrow
 rw [pI hmp] at hv
 obtain ⟨h2,rfl⟩:=h2
 obtain ⟨h3,rfl⟩:=h3
 cases h2
 cases h3
 have ei : (⟨[v,.int .i64 (i' : Int),.int .i64 (j' : Int)]⟩ : Array Value) = #[v,.int .i64 (i' : Int),.int .i64 (j' : Int)]:=rfl
 have held : ∀ (w' : World) (pl' : Pl) (v' : Value),cK w' imm t r pl' → OwnV pl' v' → dI P w' imm (outs ⟨[.v (.slice t) [0],.v (.int .i64) [],.v (.int .i64) []],[.v (.slice t) [0]],fun a => del a.1 a.2.1 a.2.2.1⟩) r [v'] [] [pl']:=by
  intro w' pl' v' k1 k2
  refine ⟨v',rfl,rfl,?_,rfl⟩
  unfold HeldV
  simp only [Ty.isSt,Bool.false_eq_true,if_false,encT,HeldC,memN,Nat.beq,if_true]
  exact ⟨pl',[],rfl,Eq.mpr (mM hmp) k1,Eq.mpr (pI hmp) k2,rfl⟩
 by_cases hij : i' = j'
 ·subst hij
  have hrl : r = l:=by rw [hr',List.take_append_drop]
  have hcall : ∃ p n cap,v = .slice p n cap ∧ Calls P f #[.slice p n cap,.int .i64 i',.int .i64 i'] w fun e w' => e = .returned (.slice p n cap) ∧ w' = w:=by
   cases pl with
   | none =>
    obtain ⟨p,rfl⟩:=hv
    have hl0 : l.length = 0:=by rw [hrow]; rfl
    have hi0 : i' = 0:=by omega
    subst hi0
    exact ⟨p,0,0,rfl,wn.2 p w⟩
   | some q =>
    obtain ⟨b,cap,n⟩:=q
    obtain ⟨rfl,hle,_⟩:=hrow
    cases hv
    exact ⟨_,_,_,rfl,wn.1 b _ cap i' w hle (by omega)⟩
  obtain ⟨p,n,cap,rfl,hc⟩:=hcall
  refine hc.mono ?_
  rintro e' w' ⟨rfl,rfl⟩
  refine ⟨[.slice p n cap],imm,[pl],rfl,rfl,rfl,rfl,Nat.le_refl _,Nat.le_refl _,fun _ _ _ => rfl,fun _ h => h,fun _ h => .inl h,himm,held _ _ _ (by rw [hrl]; exact hrow) hv,by simpa [aM,plBlks,nbl] using hpl,by intro b hb; exact .inl (by simpa [aM,plBlks,nbl] using hb)⟩
 ·have hlt : i' < j':=by omega
  cases pl with
  | none =>
   have : l.length = 0:=by rw [hrow]; rfl
   omega
  | some q =>
  obtain ⟨b,cap,n⟩:=q
  obtain ⟨rfl,hle,hmx,cur,e0,hb,hcl,hcr⟩:=hrow
  cases hv
  have hszt : szT F t = sz:=by rw [← hsz]; exact hT.ty e te t hte htt
  rw [hszt] at hcl
  have hblk : b < w.heap.size:=(Array.getElem?_eq_some_iff.1 hb).1
  obtain ⟨i0,hi0,hs,_,z,hz,hzs,hzl,hzr⟩:=hT.info e te hte
  have hs' : i0.size = sz:=by rw [hs,hsz]
  have hdb : w.drew.heap[b]? = some (.cells ⟨cur⟩ e0 (0,0)):=hb
  have hjl : j' ≤ l.length:=by omega
  have hcells : (cells F t l).length = l.length * sz:=by rw [aA,hszt]
  have one : ∀ k x,k < l.length * sz → cur[k]? = some x → x.oneCell' = true:=by
   intro k x hk hx
   exact (hcr k _ x (G2 (by rw [hcells]; exact hk)) hx).oneCell
  have hcapsz : l.length * sz ≤ cap * sz:=Nat.mul_le_mul_right _ hle
  have hjsz : j' * sz ≤ l.length * sz:=Nat.mul_le_mul_right _ hjl
  have hisz : i' * sz ≤ j' * sz:=Nat.mul_le_mul_right _ (by omega)
  have hsub : (l.length - j') * sz = l.length * sz - j' * sz:=Nat.sub_mul _ _ _
  have hsum : (i' + (l.length - j')) * sz = i' * sz + (l.length - j') * sz:=Nat.add_mul _ _ _
  have htl : (l.length - (i' + (l.length - j'))) * sz = j' * sz - i' * sz:=by rw [show l.length - (i' + (l.length - j')) = j' - i' by omega,Nat.sub_mul]
  obtain ⟨news,hnews⟩ : ∃ news,news = (cur.drop (j' * sz)).take ((l.length - j') * sz):=⟨_,rfl⟩
  have nl : news.length = (l.length - j') * sz:=by rw [hnews,List.length_take,List.length_drop,hcl]; omega
  have nget : ∀ k x,news[k]? = some x → cur[j' * sz + k]? = some x ∧ k < (l.length - j') * sz:=by
   intro k x hk
   have hlt':=(G3.1 hk).1
   rw [nl] at hlt'
   rw [hnews,List.getElem?_take,if_pos hlt',List.getElem?_drop] at hk
   exact ⟨hk,hlt'⟩
  have n1 : ∀ x ∈ news,x.oneCell' = true:=by
   intro x hx
   obtain ⟨k,hk⟩:=List.getElem?_of_mem hx
   obtain ⟨q1,q2⟩:=nget k x hk
   exact one _ x (by omega) q1
  obtain ⟨A,hA,hsrc⟩ : ∃ A : Addr,(if cap = j' then some (⟨b,0,none⟩ : Addr) else some ⟨b,j' * sz,none⟩) = some A ∧ (∀ k x,news[k]? = some x → w.drew.cell? (A.add k) = some x):=by
   by_cases h : cap = j'
   ·refine ⟨⟨b,0,none⟩,by simp [h],fun k x hk => ?_⟩
    have:=(nget k x hk).2
    rw [show l.length - j' = 0 by omega] at this
    omega
   ·refine ⟨⟨b,j' * sz,none⟩,by simp [h],fun k x hk => ?_⟩
    rw [Addr.add_lit]
    simp only [World.cell?,hdb]
    simpa using (nget k x hk).1
  have w1e : w.drew.setCells b (0 + i' * sz) news = w.drew.setRow b (cur.take (0 + i' * sz) ++ news ++ cur.drop (0 + i' * sz + news.length)).toArray:=AC hdb (by rw [nl,hcl]; omega) n1
  have hb1 : (w.drew.setRow b (cur.take (0 + i' * sz) ++ news ++ cur.drop (0 + i' * sz + news.length)).toArray).heap[b]? = some (.cells ⟨cur.take (0 + i' * sz) ++ news ++ cur.drop (0 + i' * sz + news.length)⟩ e0 (0,0)):=setRow_heap w.drew b _ _ e0 _ hdb
  obtain ⟨c1l,hc1⟩ : ∃ c1l,c1l = cur.take (0 + i' * sz) ++ news ++ cur.drop (0 + i' * sz + news.length):=⟨_,rfl⟩
  rw [← hc1] at w1e hb1
  have c1len : c1l.length = cap * sz:=by
   rw [hc1]
   simp only [G4,List.length_take,List.length_drop,nl,hcl]
   omega
  obtain ⟨zs,hzsd⟩ : ∃ zs,zs = (Builtin.zeroCells z.cells (l.length - (i' + (l.length - j')))).toList:=⟨_,rfl⟩
  have zl : zs.length = j' * sz - i' * sz:=by rw [hzsd,Array.length_toList,size_zeroCells,hzs,hsz,htl]
  have z1 : ∀ x ∈ zs,x.oneCell' = true:=by
   intro x hx
   have hzc : ∀ y ∈ z.cells.toList,y.oneCell' = true:=by
    intro y hy
    obtain ⟨k,hk⟩:=List.getElem?_of_mem hy
    have hkl : k < te.zero.length:=by have:=(G3.1 hk).1; rw [hzl,← hzs]; simpa using this
    exact (hzr w imm k _ y (G2 hkl) (by simpa using hk)).oneCell
   rw [hzsd] at hx
   obtain ⟨k,hk⟩:=List.getElem?_of_mem hx
   have hk2:=(G3.1 hk)
   obtain ⟨hk3,hk4⟩:=hk2
   simp only [Builtin.zeroCells] at hk4
   simp at hk4
   rw [← hk4]
   have hpos : 0 < z.cells.size:=by rw [hzs,hsz]; exact h0
   have hlt3 : k % z.cells.size < z.cells.size:=Nat.mod_lt _ hpos
   rw [getElem!_pos z.cells _ hlt3]
   exact hzc _ (by simp)
  obtain ⟨R,hR⟩ : ∃ R,R = c1l.take ((i' + (l.length - j')) * sz) ++ zs ++ c1l.drop ((i' + (l.length - j')) * sz + zs.length):=⟨_,rfl⟩
  have hW2 : ∀ (W1 : World),W1.heap[b]? = some (.cells ⟨c1l⟩ e0 (0,0)) → ∀ ty,(Builtin.clear_ #[ts] ty #[.slice (some ⟨b,(i' + (l.length - j')) * sz,none⟩) (l.length - (i' + (l.length - j'))) (cap - (i' + (l.length - j')))]).run P W1 =
    .ok (.tuple #[]) (W1.setRow b R.toArray):=by
   intro W1 hb1' ty
   have hst:=run_storeCells_at P b ((i' + (l.length - j')) * sz) e0 zs 0 ⟨c1l⟩ W1 hb1' (by
    rw [zl,hsum]
    show _ ≤ c1l.length
    rw [c1len]
    omega) z1
   simp only [Nat.add_zero] at hst
   rw [← hR] at hst
   clear hR
   obtain ⟨m,hm⟩ : ∃ m,l.length - (i' + (l.length - j')) = m + 1:=⟨l.length - (i' + (l.length - j')) - 1,by omega⟩
   rw [hzsd,hm] at hst
   rw [hm]
   simp [Builtin.clear_,run_underlying hts,zeroValue,typeInfo,hi0,hz,hst]
  have key:=wb b l.length cap i' j' w hle (by simp only [maxLen] at hmx; omega) hlt hjl i0 hi0 hs' A hA news nl hsrc n1 (fun k hk => by
   rw [nl] at hk
   refine ⟨?_,?_⟩
   ·simp only [World.cell?,hdb]
    simp
    rw [hcl]
    omega
   ·simp [World.frozen?,hdb]) _ _ rfl (hW2 _ (by rw [w1e]; exact hb1))
  refine key.mono ?_
  rintro e' w' ⟨rfl,rfl⟩
  rw [w1e]
  have rlen : r.length = i' + (l.length - j'):=by
   rw [hr',G4,List.length_take,List.length_drop]
   omega
  have fin2 : ((w.drew.setRow b c1l.toArray).setRow b R.toArray).heap[b]? = some (.cells ⟨R⟩ e0 (0,0)):=setRow_heap _ b _ _ e0 _ hb1
  refine ⟨[.slice (some ⟨b,0,none⟩) (i' + (l.length - j')) cap],imm,[some (b,cap,r.length,[])],rfl,rfl,rfl,rfl,Nat.le_succ _,?_,?_,fun _ h => h,fun _ h => .inl h,?_,held _ _ _ ⟨rfl,by rw [rlen]; omega,hmx,_,e0,fin2,?_,?_⟩ ?_,⟨?_,?_,?_⟩,?_⟩
  ·have z1 : (w.drew.setRow b c1l.toArray).heap.size = w.heap.size:=by simp [World.setRow]
   have z2 : ((w.drew.setRow b c1l.toArray).setRow b R.toArray).heap.size = (w.drew.setRow b c1l.toArray).heap.size:=by simp [World.setRow]
   rw [z2,z1]
   exact Nat.le_refl _
  ·intro b' hlt' hno
   have hne : b' ≠ b:=fun h => hno (by simp [aM,plBlks,nbl,h])
   rw [setRow_other _ b b' _ hne,setRow_other _ b b' _ hne]
   rfl
  ·intro b' hb'
   have z1 : (w.drew.setRow b c1l.toArray).heap.size = w.heap.size:=by simp [World.setRow]
   have z2 : ((w.drew.setRow b c1l.toArray).setRow b R.toArray).heap.size = (w.drew.setRow b c1l.toArray).heap.size:=by simp [World.setRow]
   rw [z2,z1]
   exact himm b' hb'
  ·rw [hR,hszt]
   simp only [G4,List.length_take,List.length_drop,zl,c1len]
   rw [hsum,hsub]
   omega
  ·intro k d x hd hx
   have hd : (cells F t (l.take i' ++ l.drop j'))[k]? = some d:=by rw [← hr']; exact hd
   rw [hR] at hx
   have rlen' : (List.take i' l ++ List.drop j' l).length = i' + (l.length - j'):=by rw [← hr']; exact rlen
   have hkr : k < (i' + (l.length - j')) * sz:=by
    have:=(G3.1 hd).1
    rwa [aA,hszt,rlen'] at this
   rw [hsum,hsub] at hkr
   rw [List.append_assoc,List.getElem?_append_left (by rw [List.length_take,c1len,hsum,hsub]; omega),List.getElem?_take,if_pos (by rw [hsum,hsub]; omega),hc1] at hx
   have mono : RepI w imm d x → RepI ((w.drew.setRow b c1l.toArray).setRow b R.toArray) imm d x:=fun h => h.mono (fun _ h => h) (fun b' hb' => by
    have hne : b' ≠ b:=fun e => hpl.imm b (by simp [aM,plBlks,nbl]) (e ▸ hb')
    rw [setRow_other _ b b' _ hne,setRow_other _ b b' _ hne]
    rfl)
   apply mono
   have ct : cells F t (l.take i') = (cells F t l).take (i' * sz):=by
    have:=mS (F:=F) (l:=l) (a:=0) (n:=i')
    rw [hszt] at this
    simpa [Fx.sub] using this
   have cd : cells F t (l.drop j') = (cells F t l).drop (j' * sz):=by
    have:=mS (F:=F) (l:=l) (a:=j') (n:=l.length)
    unfold Fx.sub at this
    rw [List.take_of_length_le (by simp),hszt] at this
    rw [this,List.take_of_length_le]
    rw [List.length_drop,hcells]
    omega
   rw [jm,ct,cd] at hd
   by_cases hki : k < i' * sz
   ·rw [List.getElem?_append_left (by rw [List.length_take,hcells]; omega),List.getElem?_take,if_pos hki] at hd
    rw [List.append_assoc,List.getElem?_append_left (by rw [List.length_take,hcl]; omega),List.getElem?_take,if_pos (by omega)] at hx
    exact hcr k d x hd hx
   ·rw [List.getElem?_append_right (by rw [List.length_take,hcells]; omega),List.length_take,hcells,Nat.min_eq_left (by omega),List.getElem?_drop] at hd
    rw [List.append_assoc,List.getElem?_append_right (by rw [List.length_take,hcl]; omega),List.length_take,hcl,Nat.min_eq_left (by omega),List.getElem?_append_left (by rw [nl,hsub]; omega)] at hx
    have q:=(nget _ x hx).1
    rw [Nat.zero_add] at q
    exact hcr _ d x hd q
  ·rw [rlen]; rfl
  ·simp [plBlks,nbl]
  ·intro b' hb'
   exact hpl.imm b' (by simpa [aM,plBlks,nbl] using hb')
  ·intro b' hb'
   have : b' = b:=by simpa [aM,plBlks,nbl] using hb'
   subst this
   have z1 : (w.drew.setRow b' c1l.toArray).heap.size = w.heap.size:=by simp [World.setRow]
   have z2 : ((w.drew.setRow b' c1l.toArray).setRow b' R.toArray).heap.size = (w.drew.setRow b' c1l.toArray).heap.size:=by simp [World.setRow]
   rw [z2,z1]
   exact hblk
  ·intro b' hb'
   exact .inl (by simpa [aM,plBlks,nbl] using hb')
end
set_option linter.unusedVariables false
set_option linter.unusedSimpArgs false
structure EmC where
 ops0 : Array Oper
 ops1 : Array Oper
 ops8 : Array Oper
 t : Nat
def uC {α : Type} : List α → Option (List α × α)
 | [] => none
 | [a] => some ([],a)
 | a :: b :: l => match uC (b :: l) with
  | none => none
  | some (p,x) => some (a :: p,x)
theorem xj {α : Type} : ∀ {l p : List α} {a : α},uC l = some (p,a) → l = p ++ [a]
 | [],_,_,h => by cases h
 | [x],_,_,h => by cases h; rfl
 | x :: y :: l,p,a,h => by
  simp only [uC] at h
  split at h
  ·cases h
  ·rename_i p' x' hq
   cases h
   rw [xj hq]; rfl
structure EmB where
 t : Nat
 f : Nat
 x : Nat
def A9 : Oper → Option EmB
 | ⟨some t,.call ⟨.value (.func f),⟨[.tmp x]⟩,_⟩,_,_,_,none⟩ => some ⟨t,f,x⟩
 | _ => none
theorem CX {o : Oper} {q : EmB} (h : A9 o = some q) : o.dst = some q.t ∧ o.guard = none ∧ ∃ ats,o.op = .call { callee:=.value (.func q.f),args:=#[.tmp q.x],argTypes:=ats }:=by
 unfold A9 at h
 split at h
 ·cases h; exact ⟨rfl,rfl,_,rfl⟩
 ·cases h
section
variable {F : Fam} (T : TypeId → Option (TI F)) (Γ : Ctx F) (nv : Nat)
end
section
variable {P : Program} {ops : Array Oper}
theorem zQ {Q : Exit → Act → World → Prop} (l2 : List Nat) : ∀ (l1 : List Nat) {a : Act} {w : World},wpOps P ops (Exit.then (wpOps P ops Q l2) Q) l1 a w → wpOps P ops Q (l1 ++ l2) a w
 | [],a,w,h => h
 | i :: l1,a,w,h => by
  simp only [List.cons_append]
  rw [wpOps_cons] at h ⊢
  have h:=wpOp_mono (K':=wpOps P ops Q (l1 ++ l2)) (fun a w hk => zQ l2 l1 hk) h
  unfold wpOp at h ⊢
  split
  ·rename_i ho; simp only [ho] at h; exact h
  ·rename_i o ho
   simp only [ho] at h
   split
   ·rename_i hw
    simp only [hw,if_true] at h
    rcases h with h | ⟨h1,h2⟩
    ·left
     unfold Oper.wp at h ⊢
     generalize (execOp a.eval o).run P w = r at h
     cases r with
     | ok n w' => cases n <;> exact h
     | halt x w' => cases x <;> exact h
    ·exact .inr ⟨h1,h2⟩
   ·rename_i hw; simp only [hw] at h; exact h
def Act.addD (a : Act) (ds : List Deferred) : Act:={ a with defers:=a.defers ++ ds }
theorem oX (a : Act) (ds : List Deferred) (d : Option Tmp) (v : Value) : Act.addD (a.put d v) ds = (Act.addD a ds).put d v:=by cases d <;> rfl
theorem DP {o : Oper} {a : Act} {ds : List Deferred} {next next' : Act → World → Prop} {Q Q' : Exit → Act → World → Prop} (hn : ∀ a w,next a w → next' (Act.addD a ds) w) (hq : ∀ e a w,Q e a w → Q' e (Act.addD a ds) w) {r : Result Next} (h : o.upon P a next Q r) : o.upon P (Act.addD a ds) next' Q' r:=by
 have hl : LetsOut Q → LetsOut Q':=fun ⟨a,w,k⟩ => ⟨_,w,hq _ a w k⟩
 cases r with
 | ok n w' =>
  cases n with
  | value v => simp only [Oper.upon] at h ⊢; rw [← oX]; exact hn _ _ h
  | skip => simp only [Oper.upon] at h ⊢; rw [← oX]; exact hn _ _ h
  | defer d =>
   simp only [Oper.upon] at h ⊢
   have e : ({ Act.addD a ds with defers:=d :: (Act.addD a ds).defers } : Act).put o.dst undef = Act.addD (({ a with defers:=d :: a.defers } : Act).put o.dst undef) ds:=by rw [oX]; rfl
   rw [e]
   exact hn _ _ h
  | enter f args =>
   simp only [Oper.upon] at h ⊢
   refine h.mono ?_
   intro e w2 he
   cases e with
   | returned v => simp only at he ⊢; rw [← oX]; exact hn _ _ he
   | panicked ch => exact hq _ _ _ he
   | outgrown => exact hl he
  | row row args =>
   simp only [Oper.upon] at h ⊢
   exact h.mono (fun v w2 he => by rw [← oX]; exact hn _ _ he)
  | _ => exact h.elim
 | halt x w' =>
  cases x with
  | panic v => exact hq _ _ _ h
  | _ => exact h.elim
theorem qs {ds : List Deferred} {Q Q' : Exit → Act → World → Prop} (hq : ∀ e a w,Q e a w → Q' e (Act.addD a ds) w) : ∀ (l : List Nat) {a : Act} {w : World},wpOps P ops Q l a w → wpOps P ops Q' l (Act.addD a ds) w
 | [],a,w,h => hq _ _ _ h
 | i :: l,a,w,h => by
  rw [wpOps_cons] at h ⊢
  unfold wpOp at h ⊢
  split
  ·rename_i ho; simp only [ho] at h; exact qs hq l h
  ·rename_i o ho
   simp only [ho] at h
   have ht : (Act.addD a ds).tmps = a.tmps:=rfl
   rw [ht]
   split
   ·rename_i hw
    simp only [hw,if_true] at h
    rcases h with h | ⟨h1,a2,w2,h2⟩
    ·left
     have he : (Act.addD a ds).eval = a.eval:=funext fun x => by cases x <;> rfl
     unfold Oper.wp at h ⊢
     rw [he]
     exact DP (fun a w hk => qs hq l hk) hq h
    ·right
     have he : (Act.addD a ds).eval = a.eval:=funext fun x => by cases x <;> rfl
     refine ⟨?_,_,w2,hq _ a2 w2 h2⟩
     unfold Oper.asks at h1 ⊢
     rw [he]
     exact h1
   ·rename_i hw
    simp only [hw] at h
    rw [← oX]
    exact qs hq l h
end
section
variable {F : Fam} {P : Program} {T : TypeId → Option (TI F)} {Γ : Ctx F} {nv n : Nat} {R : Type} {own : Ow} {W0 : World} {a : Act} {w : World} {g : G}
section
variable {ops : List Oper}
theorem yc {opsA : Array Oper} (hops : opsA.toList = ops) {Q : Exit → Act → World → Prop} : ∀ (tr : List (TR F)) (k : Nat) (s s' : St F),(∀ j t,tr[j]? = some t → opsA[k + j]? = some t.o) → Chain s tr s' → (∀ t ∈ tr,TR.ok P n ops t) →
  ∀ {g : G} {a : Act} {w : World},Good P own W0 n s g a w → (∀ g' a' w',Good P own W0 n s' g' a' w' → Q .normal a' w') → wpOps P opsA Q (List.range' k tr.length) a w
 | [],k,s,s',_,hc,_,g,a,w,hgood,hQ => by
  have hc' : s' = s:=hc
  subst hc'
  exact hQ g a w hgood
 | t :: tr,k,s,s',ho,hc,hok,g,a,w,hgood,hQ => by
  obtain ⟨hts,hc⟩:=hc
  simp only [List.length_cons,List.range'_succ]
  rw [wpOps_cons]
  have hi : opsA[k]? = some t.o:=by have:=ho 0 t rfl; simpa using this
  refine zt (hok t (by simp)) (s:=s) ?_ ?_ ?_ hgood hops hi ?_
  ·intro x _; rw [hts]
  ·intro id _; rw [hts]
  ·intro j hj
   have:=(hok t (by simp)).fresh j hj
   rw [hts] at this
   exact this
  ·intro g' a' w' hg'
   refine yc hops tr (k + 1) t.next s' ?_ hc (fun x hx => hok x (by simp [hx])) (by unfold TR.next; rw [hts]; exact hg') hQ
   intro j t' hj
   have:=ho (j + 1) t' (by simpa using hj)
   simpa [Nat.add_assoc,Nat.add_comm 1 j] using this
end
theorem Cn (hT : TblOk P T) (hΓ : CtxOk P Γ) {opsA : Array Oper} {kp : List Nat} {s : TS F} {K : TS F → Option R} {r : R}
  (h : tReg T Γ nv n kp opsA.toList false s K = some r) {Q : Exit → Act → World → Prop} (hg : Good P own W0 n s.st g a w)
  (hQ : ∀ s' g' a' w',K s' = some r → Fr nv s s' → Good P own W0 n s'.st g' a' w' → Q .normal a' w') : wpOps P opsA Q (List.range opsA.size) a w:=by
 unfold tReg at h
 obtain ⟨z,tr,h1,t1,t2,t3,t4,t5⟩:=qY hT hΓ h
 obtain ⟨hord,h1⟩:=aG h1
 obtain ⟨E',h2,h3⟩:=mQ h1
 have hQ' : ∀ g' a' w',Good P own W0 n z.st g' a' w' → Q .normal a' w':=by
  intro g' a' w' hg'
  refine hQ _ g' a' w' h2 ⟨fun x hx hn => ?_,t5.m,t5.c,t5.dE,t5.dM⟩ (hg'.sub ?_ (fun _ _ h => h) (fun _ h => h))
  ·show look E' x = _
   rw [h3,if_pos (by simp [memN,Nat.blt_eq.mpr hx])]
   exact t5.e x hx hn
  ·intro x d hx
   simp only [TS.st] at hx ⊢
   rw [h3] at hx
   split at hx
   ·exact hx
   ·cases hx
 have hlen : opsA.size = tr.length:=by rw [← Array.length_toList,← t1,List.length_map]
 have:=pv (opsA:=opsA) rfl (Q:=Q) tr 0 s.st z.st (by
  intro j
  have : opsA.toList[j]? = (tr.map (·.o))[j]?:=by rw [t1]
  rw [List.getElem?_map] at this
  rw [← this]
  simp) t2 t3 hg hQ'
 rw [← hlen] at this
 rw [List.range_eq_range']
 exact this
theorem Dd (hT : TblOk P T) (hΓ : CtxOk P Γ) {id : Nat} {opsA : Array Oper} {kp : List Nat} {s : TS F} {K : TS F → Option R} {r : R} {n : Nat} {a : Act} {w : World} {own : Ow}
  (h : tReg T Γ nv n kp opsA.toList false s K = some r) {Q : Exit → Act → World → Prop} (hg : Good P own W0 n s.st g a w)
  (hQ : ∀ s' g' a' w',K s' = some r → Fr nv s s' → Good P own W0 n s'.st g' a' w' → Q .normal a' w') : (Code.region id opsA false).wp P Q a w:=wp_region (Cn hT hΓ h hg hQ)
end
section
variable {F : Fam} {P : Program} {T : TypeId → Option (TI F)} {Γ : Ctx F} {nv : Nat}
theorem Da {fn : Func} {sp : Spec F} {a : HL F sp.ks} {imm : Nat → Prop} {w : World} {vs : List Value} {pls bxs : List Pl} (hlen : Nat.ble sp.ks.length fn.ntmps = true) (hsafe : AX sp.ks = true)
  (hheld : eF P w imm sp.ks a vs pls bxs) (hpl : PlOk w imm (plBlks pls)) (himm : ∀ b,imm b → b < w.heap.size) :
  ∃ g0,Good P ⟨fun b => b ∈ plBlks pls ∨ w.heap.size ≤ b,imm,(G.at0 0 pls imm).ids⟩ w fn.ntmps (⟨params 0 (entL sp.ks a (unpHL sp.ks a 0).1),(unpHL sp.ks a 0).2.1,(unpHL sp.ks a 0).2.2,[],[]⟩ : TS F).st g0 { tmps:=(⟨vs⟩ : Array Value) ++ Array.replicate (fn.ntmps - (⟨vs⟩ : Array Value).size) undef,defers:=[] } w ∧
   (aN sp.ks a 0).map (G.at0 0 pls imm).ids = bxs.map some:=by
  obtain ⟨L,l1,l2,l3⟩:=zj hheld
  let g0 : G:=⟨(G.at0 0 pls imm).ids,imm,L⟩
  have hnm0 : NmAt g0 0 pls:=fun j pl hj => yE (I:=imm) (pls:=pls) (c:=0) j pl hj
  obtain ⟨h1,h2,h3,h4⟩:=xz (g:=g0) (c:=0) hheld hnm0
  have h1:=l3 (g:=g0) (fun _ h => h) h1
  have hlen0 : ∀ b,L b → ¬ (b ∈ plBlks pls ∨ w.heap.size ≤ b) ∧ b < w.heap.size:=by
   intro b hb
   refine ⟨fun ho => ?_,l1 b hb⟩
   rcases Bool.or_eq_true _ _ ▸ hsafe with hs | hs
   ·exact l2 hs b hb
   ·rw [rL hs hheld] at ho
    rcases ho with ho | ho
    ·simp [plBlks] at ho
    ·exact absurd (l1 b hb) (Nat.not_lt.2 ho)
  simp only [Nat.zero_add] at h3
  let own : Ow:=⟨fun b => b ∈ plBlks pls ∨ w.heap.size ≤ b,imm,(G.at0 0 pls imm).ids⟩
  have hvl:=uY hheld
  have hlen' : sp.ks.length ≤ fn.ntmps:=Nat.le_of_ble_eq_true hlen
  have hblk : ∀ {id : Nat} {B : Blk F} {b : Nat},look (unpHL sp.ks a 0).2.1 id = some B → g0.blk id b → ∃ b0 q,pls[id]? = some (some (b0,q)) ∧ b ∈ b0 :: nbl q.2.2:=by
   rintro id B b _ ⟨b0,q,hq,hbb⟩
   simp only [g0,G.at0] at hq
   rw [if_pos (Nat.zero_le _),Nat.sub_zero] at hq
   exact ⟨b0,q,hq,hbb⟩
  have hgood : Good P own w fn.ntmps (⟨params 0 (entL sp.ks a (unpHL sp.ks a 0).1),(unpHL sp.ks a 0).2.1,(unpHL sp.ks a 0).2.2,[],[]⟩ : TS F).st g0 { tmps:=(⟨vs⟩ : Array Value) ++ Array.replicate (fn.ntmps - (⟨vs⟩ : Array Value).size) undef,defers:=[] } w:=by
   refine ⟨rfl,?_,?_,⟨?_,?_,?_,himm,fun b hb => .inl hb,hlen0⟩,?_,fun _ h => h,⟨rfl,rfl,rfl,Nat.le_refl _,fun b hb => .inr hb,fun _ _ _ => rfl,Nat.le_refl _⟩,fun _ _ h => h⟩
   ·simp [hvl]; omega
   ·intro x d hx
    obtain ⟨j,rfl,hj⟩:=ta _ 0 x d hx
    have hlt : j < vs.length:=by rw [h1.1]; exact (G3.1 hj).1
    have : ((⟨vs⟩ : Array Value) ++ Array.replicate (fn.ntmps - (⟨vs⟩ : Array Value).size) undef).getD (0 + j) undef = vs[j]:=by
     rw [Nat.zero_add,Array.getD_eq_getD_getElem?,Array.getElem?_append_left (by simpa using hlt)]
     simp [hlt]
    rw [this]
    exact h1.2 j d _ hj (G2 hlt)
   ·intro id B hB
    obtain ⟨j,_,_,_,q⟩:=h2 _ (oF hB)
    exact q
   ·intro id id' B B' b hB hB' _ _ hb hb'
    obtain ⟨b0,q,hq,hx⟩:=hblk hB hb
    obtain ⟨b0',q',hq',hx'⟩:=hblk hB' hb'
    exact lD hpl.nodup hq hx hq' hx'
   ·intro id B b hB _ hb
    obtain ⟨b0,q,hq,hx⟩:=hblk hB hb
    have:=cq.2 ⟨id,b0,q,hq,hx⟩
    exact ⟨.inl this,hpl.imm b this⟩
   ·intro id hid
    simp only [TS.st,bu,decide_eq_false_iff_not,h3] at hid
    simp only [g0,G.at0]
    rw [if_pos (Nat.zero_le _),Nat.sub_zero,List.getElem?_eq_none (by omega)]
  exact ⟨g0,hgood,h4⟩
theorem Ei (hT : TblOk P T) (hΓ : CtxOk P Γ) {fn : Func} {sp : Spec F} {a : HL F sp.ks} {r : TL F (outs sp)} {imm : Nat → Prop} {w w' : World} {pls bxs : List Pl} {g' : G} {s' : TS F} {a' : Act} {m : Nat} (hrs : sp.rs.all (fun k => !k.isBox) = true)
  (h4 : (aN sp.ks a 0).map (G.at0 0 pls imm).ids = bxs.map some) (k4 : Good P ⟨fun b => b ∈ plBlks pls ∨ w.heap.size ≤ b,imm,(G.at0 0 pls imm).ids⟩ w m s'.st g' a' w') (k2 : packR T Γ fn sp.ks sp.rs a s' = some r) :
  ∃ rvs,(results fn a'.tmps).run P w' = .ok (tupV rvs) w' ∧ ∃ (imm' : Nat → Prop) (pls' : List Pl),
   w'.os = w.os ∧ w'.tape = w.tape ∧ w'.output = w.output ∧ w.drawn ≤ w'.drawn ∧ w.heap.size ≤ w'.heap.size ∧ (∀ b,b < w.heap.size → b ∉ plBlks pls → w'.heap[b]? = w.heap[b]?) ∧
   (∀ b,imm b → imm' b) ∧ (∀ b,imm' b → imm b ∨ b ∈ plBlks pls ∨ w.heap.size ≤ b) ∧ (∀ b,imm' b → b < w'.heap.size) ∧
   dI P w' imm' (outs sp) r rvs bxs pls' ∧ PlOk w' imm' (plBlks bxs ++ plBlks pls') ∧ ∀ b ∈ plBlks bxs ++ plBlks pls',b ∈ plBlks pls ∨ w.heap.size ≤ b:=by
   unfold packR at k2
   split at k2
   ·cases k2
   ·rename_i rd hrd
    split at k2
    ·cases k2
    ·rename_i p hp
     obtain ⟨hc,k2⟩:=aG k2
     simp only [Bool.and_eq_true] at hc
     cases k2
     obtain ⟨rvs,q1,q2⟩:=xE hT k4 hrd
     have hbids : (aN sp.ks a 0).map g'.ids = bxs.map some:=by
      rw [← h4]
      refine List.map_congr_left fun id hid => ?_
      obtain ⟨q,_,hq⟩:=mf h4 hid
      rw [hq]
      exact k4.nam id _ hq
     have hcnt : ((sp.rs ++ sp.ks.filter Kd.isBox).filter Kd.isBox).length = (aN sp.ks a 0).length:=by
      rw [di,List.filter_append,List.filter_filter]
      have : sp.rs.filter Kd.isBox = []:=by
       rw [List.filter_eq_nil_iff]
       intro k hk
       have:=List.all_eq_true.1 hrs k hk
       simpa using this
      rw [this]
      simp
     obtain ⟨pls',p1,p2,p3,p4⟩:=wt hΓ k4.mem (fun _ _ h => h) hp (imm:=(g'.fzs p.fz).imm) ⟨fun _ h => .inl h,fun id hid b hb => .inr ⟨id,hid,hb⟩⟩ q2 hbids hcnt
     have hfr:=mc k4.mem (fun _ _ h => h) p3
     have hL : ∀ b ∈ plBlks bxs ++ plBlks pls',∃ id B,some id ∈ p.os ∧ look s'.M id = some B ∧ B.owned = true ∧ g'.blk id b:=by
      intro b hb
      obtain ⟨id,r1,r2⟩:=bI.1 (p2.mem_iff.2 hb)
      obtain ⟨B,r3,r4⟩:=p4 id r1
      exact ⟨id,B,r1,r3,r4,r2⟩
     refine ⟨rvs,xa q1,(g'.fzs p.fz).imm,pls',k4.frm.os,k4.frm.tape,k4.frm.output,k4.frm.drawn,k4.frm.size,?_,fun b hb => .inl (k4.ini b hb),?_,hfr.imm,p1,⟨?_,?_,?_⟩,?_⟩
     ·intro b hb hno
      exact k4.frm.block b hb (fun ho => ho.elim hno (fun h => by omega))
     ·intro b hb
      exact hfr.io b hb
     ·exact p2.nodup_iff.1 (gV k4.mem (fL hc.1) p4)
     ·intro b hb
      obtain ⟨id,B,r1,r2,r3,r4⟩:=hL b hb
      have hno : id ∉ p.fz:=mT hc.2 id (eh.2 r1)
      exact (hfr.own id B b (by rw [jv,if_neg hno]; exact r2) r3 r4).2
     ·intro b hb
      obtain ⟨id,B,r1,r2,r3,r4⟩:=hL b hb
      exact (k4.mem.ok id B r2).place k4.mem.imm (Blk.noAls r3) r4
     ·intro b hb
      obtain ⟨id,B,r1,r2,r3,r4⟩:=hL b hb
      exact (k4.mem.own id B b r2 r3 r4).1
end
set_option linter.unusedVariables false
def rngc {τ α ω : Type} (ob : ω) (t0 : ω → Option τ) (step : ω → τ → α → Option τ) : List α → Option τ
 | [] => t0 ob
 | [x] => (t0 ob).bind fun t => step ob t x
 | _ => none
theorem DE {τ α ω : Type} {t0 : ω → Option τ} {step : ω → τ → α → Option τ} {l : List α} {t r : τ} (ob : ω) (h0 : ∀ ob,t0 ob = some t) (h : rngOk step l l.length [] t r) (hu : ∀ r',rngOk step l l.length [] t r' → r' = r) : rng t0 step l = some r:=by
 unfold rng
 have hx : ∃ r t,(∀ ob,t0 ob = some t) ∧ rngOk step l l.length [] t r:=⟨r,t,h0,h⟩
 rw [dif_pos hx]
 obtain ⟨t',h1,h2⟩:=hx.choose_spec
 have : t' = t:=by have:=h1 ob; rw [h0 ob] at this; exact (Option.some.inj this).symm
 subst this
 rw [hu _ h2]
theorem GZ {τ α ω : Type} {ob : ω} {t0 : ω → Option τ} {step step' : ω → τ → α → Option τ} (h : ∀ ob t x,Lo (step ob t x) (step' ob t x)) (hs : ∀ ob ob' t x,step ob t x = step ob' t x) (h0 : ∀ ob ob',t0 ob = t0 ob') (l : List α) : Lo (rngc ob t0 step l) (rng t0 step' l):=by
 constructor
 intro r hr
 match l with
 | [] =>
  simp only [rngc] at hr
  exact DE (t:=r) ob (fun ob' => (h0 ob' ob).trans hr) rfl (fun r' hr' => Eq.symm hr')
 | [x] =>
  simp only [rngc,Option.bind_eq_some_iff] at hr
  obtain ⟨t,ht,hx⟩:=hr
  refine DE (t:=t) ob (fun ob' => (h0 ob' ob).trans ht) ?_ ?_
  ·intro k y _ hy
   match k with
   | 0 => cases hy; exact ⟨r,fun ob' => (h ob' t x).ok r ((hs ob' ob t x).trans hx),rfl⟩
   | k + 1 => simp at hy
  ·intro r' hr'
   obtain ⟨t',h1,h2⟩:=hr' 0 x (by simp) rfl
   have h3 : t' = r':=h2
   have:=h1 ob
   rw [(h ob t x).ok r hx] at this
   rw [← h3]
   exact (Option.some.inj this).symm
 | x :: y :: l => cases hr
set_option linter.unusedSimpArgs false
def yI (o : Oper) : Bool:=match o.op with
 | .defer _ => false
 | _ => true
def noDef : Code → Bool
 | .region _ ops _ => ops.toList.all yI
 | .seq a b => noDef a && noDef b
 | .cond _ a b => noDef a && noDef b
 | .block _ a => noDef a
 | .skip => true
 | .exit _ => true
 | .ret => true
 | .label _ => true
 | _ => false
abbrev Rnd (l : Nat) : Fence:=Fence.wide.inRound l
section
variable {P : Program} {lr m : Nat}
theorem DO {f : FuncId} {args : Array Value} {w : World} {R : Ending → World → Prop} (h : Calls P f args w R) : CallsIn (Rnd lr) m P f args w R:=callsIn_wide.2 h
theorem E8 {row : String} {args : Array Value} {w : World} {R : Value → World → Prop} (h : Rows P row args w R) : RowsIn (Rnd lr) m P row args w R :=
 fun c cs _ => let ⟨v,w',r,s⟩:=h c cs; ⟨v,w',r,stepsIn_wide.2 s⟩
theorem eT {ops : Array Oper} {Q : Exit → Act → World → Prop} (hd : ops.toList.all yI = true) (hQ : ∀ a w,¬ Q .outgrown a w) : ∀ (l : List Nat) {a : Act} {w : World},wpOps P ops Q l a w → wpOpsIn (Rnd lr) m P ops Q l a w
 | [],a,w,h => h
 | i :: rest,a,w,h => by
  simp only [wpOps] at h
  simp only [wpOpsIn]
  cases ho : ops[i]? with
  | none => simp only [ho] at h ⊢; exact eT hd hQ rest h
  | some o =>
   simp only [ho] at h ⊢
   split
   ·rename_i hw
    simp only [hw,if_true] at h
    rcases h with h | ⟨_,a',w',h⟩
    ·refine ⟨fun _ _ => trivial,?_⟩
     have hnd : ∀ c,o.op ≠ .defer c:=by
      intro c hc
      have h1 : o ∈ ops.toList:=by
       rw [← Array.getElem?_toList] at ho
       exact List.mem_of_getElem? ho
      have:=List.all_eq_true.1 hd o h1
      simp [yI,hc] at this
     rw [Oper.semAt_eq _ _ _ hnd]
     unfold Oper.wp at h
     generalize (execOp a.eval o).run P w = r at h ⊢
     have hl : ¬ LetsOut Q:=fun ⟨a,w,k⟩ => hQ a w k
     cases r with
     | ok n w' =>
      cases n with
      | value v => exact eT hd hQ rest h
      | skip => exact eT hd hQ rest h
      | defer d => exact eT hd hQ rest h
      | enter f args =>
       refine ⟨(by intro h; cases h),DO (h.mono ?_)⟩
       intro e w2 he
       cases e with
       | returned v => exact eT hd hQ rest he
       | panicked c => exact he
       | outgrown => exact he
      | row row args =>
       exact ⟨(by intro h; cases h),E8 (h.mono fun v w2 he => eT hd hQ rest he)⟩
      | _ => exact h.elim
     | halt x w' =>
      cases x with
      | panic v => exact h
      | _ => exact h.elim
    ·exact absurd h (hQ _ _)
   ·rename_i hw
    simp only [hw] at h
    exact ⟨fun _ _ => trivial,eT hd hQ rest h⟩
end
section
variable {F : Fam} {P : Program} {T : TypeId → Option (TI F)} {Γ : Ctx F} {nv n : Nat} {own : Ow} {W0 : World} {lr m : Nat}
theorem Ea {s : TS F} {R : Type} {K : Nat → TS F → Option R} {r : R} {a : Act} {w : World} : ¬ Aft P own W0 n nv s K r .outgrown a w:=by
 rintro ⟨k,s',g',h,_⟩
 match k,h with
 | 0,h => cases h
 | 1,h => cases h
 | k + 2,h => cases h
def dU (P : Program) (own : Ow) (W0 : World) (n nv lr m : Nat) (c : Code) (run : TS F → {R : Type} → (Nat → TS F → Option R) → Option R) : Prop :=
 ∀ (s : TS F) {R : Type} (K : Nat → TS F → Option R) (r : R),run s K = some r → ∀ (g : G) (a : Act) (w : World),Good P own W0 n s.st g a w → c.wpIn (Rnd lr) m P (Aft P own W0 n nv s K r) a w
theorem DD {x y : Code} {f k : TS F → {R : Type} → (Nat → TS F → Option R) → Option R} (hx : dU P own W0 n nv lr m x f) (hy : dU P own W0 n nv lr m y k) :
  dU P own W0 n nv lr m (x.seq y) (fun s R K => f s fun e s' => match e with | 0 => k s' K | e => K e s'):=by
 intro s R K r h g a w hg
 refine wpIn_seq (wpIn_mono (hx s _ r h g a w hg) ?_)
 rintro e a' w' ⟨i,s',g',rfl,h2,h3,h4⟩
 match i,h2 with
 | 0,h2 => exact wpIn_mono (hy s' K r h2 g' a' w' h4) (fun e a w hq => hq.back h3)
 | 1,h2 => exact ⟨1,s',g',rfl,h2,h3,h4⟩
 | i + 2,h2 => exact ⟨i + 2,s',g',rfl,h2,h3,h4⟩
theorem Cu {t : Nat} {x y : Code} {f k : TS F → {R : Type} → (Nat → TS F → Option R) → Option R} (hx : dU P own W0 n nv lr m x f) (hy : dU P own W0 n nv lr m y k) :
  dU P own W0 n nv lr m (.cond (.tmp t) x y) (fun s R K => match look s.E t with
  | some (.c (.im (.b b))) => cond b (f s K) (k s K)
  | _ => none):=by
 intro s R K r h g a w hg
 dsimp only at h
 split at h
 ·rename_i b hb
  refine wpIn_cond_split (qD (hg.env t _ hb)) (fun e => ?_) (fun e => ?_)
  ·subst e; exact hx s K r h g a w hg
  ·subst e; exact hy s K r h g a w hg
 ·cases h
theorem BA {b : Bool} {x y : Code} {f k : TS F → {R : Type} → (Nat → TS F → Option R) → Option R} (hx : dU P own W0 n nv lr m x f) (hy : dU P own W0 n nv lr m y k) :
  dU P own W0 n nv lr m (.cond (.const (.bool b)) x y) (fun s R K => cond b (f s K) (k s K)):=by
 intro s R K r h g a w hg
 refine wpIn_cond_split (t:=b) rfl (fun e => ?_) (fun e => ?_)
 ·subst e; exact hx s K r h g a w hg
 ·subst e; exact hy s K r h g a w hg
theorem BE {i : Nat} {x : Code} {f : TS F → {R : Type} → (Nat → TS F → Option R) → Option R} (hx : dU P own W0 n nv lr m x f) :
  dU P own W0 n nv lr m (.block i x) (fun s R K => f s fun e s' => if Nat.beq e (i + 2) then K 0 s' else K e s'):=by
 intro s R K r h g a w hg
 refine wpIn_block (wpIn_mono (hx s _ r h g a w hg) ?_)
 rintro e a' w' ⟨j,s',g',rfl,h2,h3,h4⟩
 match j,h2 with
 | 0,h2 => exact ⟨0,s',g',rfl,h2,h3,h4⟩
 | 1,h2 => exact ⟨1,s',g',rfl,h2,h3,h4⟩
 | j + 2,h2 =>
  simp only at h2
  show Exit.inBlock i _ (.exit j) a' w'
  simp only [Exit.inBlock]
  by_cases hij : j = i
  ·subst hij
   rw [aV,if_pos rfl] at h2
   rw [if_pos rfl]
   exact ⟨0,s',g',rfl,h2,h3,h4⟩
  ·rw [ap (by omega)] at h2
   rw [if_neg hij]
   exact ⟨j + 2,s',g',rfl,h2,h3,h4⟩
theorem zT (hT : TblOk P T) (hΓ : CtxOk P Γ) (hmix : P.follows .mixedOrders = true) {id : Nat} {opsA : Array Oper} {draw : Bool} {kp : List Nat} (hd : opsA.toList.all yI = true) :
  dU P own W0 n nv lr m (.region id opsA draw) (fun s R K => tReg T Γ nv n kp opsA.toList draw s (K 0)):=by
 intro s R K r h g a w hg
 unfold tReg at h
 obtain ⟨z,tr,h1,t1,t2,t3,t4,t5⟩:=qY hT hΓ h
 obtain ⟨hord,h1⟩:=aG h1
 obtain ⟨E',h2,h3⟩:=mQ h1
 have hQ' : ∀ g' a' w',Good P own W0 n z.st g' a' w' → Aft P own W0 n nv s K r .normal a' w':=by
  intro g' a' w' hg'
  refine ⟨0,_,g',rfl,h2,⟨fun x hx hn => ?_,t5.m,t5.c,t5.dE,t5.dM⟩,hg'.sub ?_ (fun _ _ h => h) (fun _ h => h)⟩
  ·show look E' x = _
   rw [h3,if_pos (by simp [memN,Nat.blt_eq.mpr hx])]
   exact t5.e x hx hn
  ·intro x d hx
   simp only [TS.st] at hx ⊢
   rw [h3] at hx
   split at hx
   ·exact hx
   ·cases hx
 cases draw with
 | false =>
  have hlen : opsA.size = tr.length:=by rw [← Array.length_toList,← t1,List.length_map]
  refine wpIn_region (eT hd (fun _ _ => Ea) _ ?_)
  have:=pv (opsA:=opsA) rfl (Q:=Aft P own W0 n nv s K r) tr 0 s.st z.st (by
   intro j
   have : opsA.toList[j]? = (tr.map (·.o))[j]?:=by rw [t1]
   rw [List.getElem?_map] at this
   rw [← this]
   simp) t2 t3 hg hQ'
  rw [← hlen] at this
  rw [List.range_eq_range']
  exact this
 | true =>
  simp only [if_true,Bool.and_eq_true,List.nil_append] at hord
  refine wpIn_region_draw fun t => eT hd (fun _ _ => Ea) _ ?_
  simp only [Region.schedule,hmix,Bool.true_or,if_true]
  exact wpAny_sound opsA.size t _ a _ (yh (opsA:=opsA) rfl t1 t2 t3 t4 hord.1 hord.2 (vY hg) hQ')
theorem En {c : Code} {f : TS F → {R : Type} → (Nat → TS F → Option R) → Option R} (hf : dU P own W0 n nv lr m c f) (kp : List Nat) : dU P own W0 n nv lr m c (fun s R K => f (mJ kp s) K):=by
 intro s R K r h g a w hg
 obtain ⟨⟨g',h1⟩,h2⟩:=pn (nv:=nv) kp hg
 exact wpIn_mono (hf _ K r h g' a w h1) (fun e a' w' hq => hq.back h2)
theorem tAuto_in (hT : TblOk P T) (hΓ : CtxOk P Γ) (hmix : P.follows .mixedOrders = true) : ∀ (c : Code),noDef c = true → dU P own W0 n nv lr m c (tAuto T Γ nv n c)
 | .skip => fun hd s R K r h g a w hg => wpIn_skip ⟨0,s,g,rfl,by simpa [tAuto] using h,.refl _ _,hg⟩
 | .exit i => fun hd s R K r h g a w hg => wpIn_exit ⟨i + 2,s,g,rfl,by simpa [tAuto] using h,.refl _ _,hg⟩
 | .ret => fun hd s R K r h g a w hg => wpIn_ret ⟨1,s,g,rfl,by simpa [tAuto] using h,.refl _ _,hg⟩
 | .region id ops draw => fun hd s R K r h g a w hg => zT (id:=id) (kp:=[]) hT hΓ hmix hd s K r (by simp only [tAuto] at h; exact h) g a w hg
 | .seq x y => fun hd s R K r h g a w hg => by
  simp only [noDef,Bool.and_eq_true] at hd
  exact DD (tAuto_in hT hΓ hmix x hd.1) (tAuto_in hT hΓ hmix y hd.2) s K r (by simp only [tAuto] at h; exact h) g a w hg
 | .cond (.tmp t) x y => fun hd s R K r h g a w hg => by
  simp only [noDef,Bool.and_eq_true] at hd
  exact Cu (tAuto_in hT hΓ hmix x hd.1) (tAuto_in hT hΓ hmix y hd.2) s K r (by simp only [tAuto] at h; exact h) g a w hg
 | .cond (.const v) x y => by
  cases v with
  | bool b =>
   intro hd s R K r h g a w hg
   simp only [noDef,Bool.and_eq_true] at hd
   exact BA (tAuto_in hT hΓ hmix x hd.1) (tAuto_in hT hΓ hmix y hd.2) s K r (by simp only [tAuto] at h; exact h) g a w hg
  | _ => exact fun hd s R K r h g a w hg => by simp [tAuto] at h
 | .cond (.global _) x y => fun hd s R K r h g a w hg => by simp [tAuto] at h
 | .cond (.func _) x y => fun hd s R K r h g a w hg => by simp [tAuto] at h
 | .block i x => fun hd s R K r h g a w hg => BE (tAuto_in hT hΓ hmix x hd) s K r (by simp only [tAuto] at h; exact h) g a w hg
 | .loop x => fun hd s R K r h g a w hg => by simp [tAuto] at h
 | .goto x => fun hd s R K r h g a w hg => by simp [tAuto] at h
 | .label x => fun hd s R K r h g a w hg => wpIn_label ⟨0,s,g,rfl,by simpa [tAuto] using h,.refl _ _,hg⟩
 | .rangeFunc _ _ _ _ => fun hd s R K r h g a w hg => by simp [tAuto] at h
 | .refuse _ => fun hd s R K r h g a w hg => by simp [tAuto] at h
 | .scope x => fun hd => by cases hd
theorem Gg (hΓ : CtxOk P Γ) {c : Code} {f : TS F → {R : Type} → (Nat → TS F → Option R) → Option R} (hf : dU P own W0 n nv lr m c f) {dr : List Nat} {xs : List (Nat × Ks)} (hx : ∀ y ∈ keysX xs,y ∈ dr) :
  dU P own W0 n nv lr m c (fun s R K => (f (clean s) fun e s' => finX Γ s dr s.c (aF s dr) xs e s').bind fun v => elimX (fun e ks x => K e (merge nv dr (aF s dr) s ks x)) xs v):=by
 intro s R K r h g a w hg
 rw [Option.bind_eq_some_iff] at h
 obtain ⟨v,hv,he⟩:=h
 refine wpIn_mono (hf (clean s) _ v hv g a w hg) ?_
 rintro e a' w' ⟨i,s',g',rfl,h2,h3,h4⟩
 obtain ⟨ks,x,hp,hsub,hel⟩:=wU h2
 rw [hel] at he
 obtain ⟨⟨g2,k1⟩,k2,_⟩:=qK hΓ hg h4 (fun x hx _ hn => h3.e x hx hn) (fun id hi _ hn => h3.m id hi hn) (fun y hy => hx y (hsub y hy)) hp
 exact ⟨i,_,g2,rfl,he,k2,k1⟩
def hintN : Hint → Bool
 | .z => true
 | .r _ => true
 | .s a b => hintN a && hintN b
 | .c a b => hintN a && hintN b
 | .b a => hintN a
 | .j _ _ a => hintN a
 | _ => false
theorem Gu (hT : TblOk P T) (hΓ : CtxOk P Γ) (hmix : P.follows .mixedOrders = true) : ∀ (h : Hint),hintN h = true → ∀ (c : Code),noDef c = true → dU P own W0 n nv lr m c (tRun T Γ nv n h c):=by
 intro h
 induction h with
 | z => intro _ c hd s R K r hr; exact tAuto_in hT hΓ hmix c hd s K r (by simp only [tRun] at hr; exact hr)
 | r kp =>
  intro _ c hd s R K r hr
  cases c with
  | region id ops draw => exact En (zT (id:=id) (kp:=kp) hT (wA hΓ) hmix hd) kp s K r (by simp only [tRun] at hr; exact hr)
  | _ => simp [tRun] at hr
 | s h k ih ik =>
  intro hh c hd s R K r hr
  simp only [hintN,Bool.and_eq_true] at hh
  cases c with
  | seq x y =>
   simp only [noDef,Bool.and_eq_true] at hd
   exact DD (ih hh.1 x hd.1) (ik hh.2 y hd.2) s K r (by simp only [tRun] at hr; exact hr)
  | _ => simp [tRun] at hr
 | c h k ih ik =>
  intro hh c hd s R K r hr
  simp only [hintN,Bool.and_eq_true] at hh
  cases c with
  | cond t x y =>
   simp only [noDef,Bool.and_eq_true] at hd
   cases t with
   | tmp t => exact Cu (ih hh.1 x hd.1) (ik hh.2 y hd.2) s K r (by simp only [tRun] at hr; exact hr)
   | const v => cases v with
    | bool b => exact BA (ih hh.1 x hd.1) (ik hh.2 y hd.2) s K r (by simp only [tRun] at hr; exact hr)
    | _ => simp [tRun] at hr
   | _ => simp [tRun] at hr
  | _ => simp [tRun] at hr
 | b h ih =>
  intro hh c hd s R K r hr
  cases c with
  | block i x => exact BE (ih hh x hd) s K r (by simp only [tRun] at hr; exact hr)
  | scope x => cases hd
  | _ => simp [tRun] at hr
 | j dr xs h ih =>
  intro hh c hd s R K r hr
  exact Gg (dr:=dr ++ keysX xs) (xs:=xs) hΓ (ih hh c hd) (fun y hy => by simp [hy]) s K r (by simp only [tRun] at hr; exact hr)
 | _ => intro hh; cases hh
end
set_option linter.unusedVariables false
set_option linter.unusedSimpArgs false
def rgB {τ α : Type} (step : α → τ → Option τ) : List α → τ → Option τ
 | [],t => some t
 | x :: r,t => (rgB step r t).bind (step x)
theorem Ba {τ α : Type} {step : α → τ → Option τ} (x : α) : ∀ (l : List α) (t : τ),rgB step (l ++ [x]) t = (step x t).bind (rgB step l)
 | [],t => by
  show step x t = (step x t).bind fun t => some t
  cases step x t <;> rfl
 | y :: l,t => by
  simp only [List.cons_append,rgB]
  rw [Ba x l t,Option.bind_assoc]
theorem Dr {τ α : Type} {step step' : α → τ → Option τ} (h : ∀ x t,Lo (step x t) (step' x t)) : ∀ (l : List α) (t : τ),Lo (rgB step l t) (rgB step' l t)
 | [],t => ag _
 | x :: l,t => ae (Dr h l t) (fun y => h x y)
structure RfC where
 ops0 : Array Oper
 ops1 : Array Oper
 ops8 : Array Oper
 t : Nat
 pi : Nat
 px : Nat
 assign : Code
 body : Code
def Ay : Code → Option RfC
 | .seq (.region _ ops0 false) (.seq (.seq (.region _ ops1 false) (.block _ (.rangeFunc (.tmp t) ⟨[pi,px]⟩ assign body))) (.seq (.region _ ops8 false) .ret)) => some ⟨ops0,ops1,ops8,t,pi,px,assign,body⟩
 | _ => none
theorem C2 {c : Code} {q : RfC} (h : Ay c = some q) : ∃ i0 i1 ib i8,c = .seq (.region i0 q.ops0 false) (.seq (.seq (.region i1 q.ops1 false) (.block ib (.rangeFunc (.tmp q.t) #[q.pi,q.px] q.assign q.body))) (.seq (.region i8 q.ops8 false) .ret)):=by
 unfold Ay at h
 split at h
 ·cases h; exact ⟨_,_,_,_,rfl⟩
 ·cases h
section
variable {F : Fam}
def AH : Option (Dat F) → Bool
 | some (.c (.ptr _ _)) => true
 | _ => false
def noLnC : Cel F → Bool
 | .ln _ => false
 | .lpt _ _ => false
 | _ => true
def noLnB : Blk F → Bool
 | .box cs => cs.all noLnC
 | _ => true
def noLnD : Dat F → Bool
 | .c x => noLnC x
 | .agg cs => cs.all noLnC
 | .fv _ _ _ => true
 | _ => false
def noLnM (s : TS F) : Bool:=s.M.all fun p => noLnB p.2
def noLnS (s : TS F) : Bool:=s.E.all (fun p => noLnD p.2) && noLnM s
def wS (t : Nat) (E : List (Nat × Dat F)) : List (Nat × Dat F):=E.filter fun p => !(Nat.beq t p.1) && AH (look E p.1)
def rfB (s : TS F) (t id : Nat) (tt : Ty) (l : List (ET F tt)) : TS F:=⟨wS t s.E,(id,.fro tt l) :: s.M.filter (fun p => !(Nat.beq id p.1)),s.c,[],[]⟩
def rfIn (m : TS F) (px : Nat) (d : Dat F) : TS F:=⟨(px,d) :: m.E,m.M,m.c,[],[]⟩
def rfZ (s : TS F) : TS F:=⟨wS 1000000 s.E,s.M,s.c,s.dE,s.dM⟩
variable (T : TypeId → Option (TI F)) (Γ : Ctx F) (nv n : Nat)
noncomputable def yC (q : RfC) (h : Hint) (te : TypeId) (sB : TS F) (dra kill : List Nat) (ks0 : Ks) (tt : Ty) (x : ET F tt) (t : TLS F ks0) : Option (TLS F ks0) :=
 match T te with
 | none => none
 | some ti => match eb ti ((encT F tt x).map .im) 0 with
  | none => none
  | some d => tAuto T Γ nv n q.assign (rfIn (merge nv dra kill sB ks0 t) q.px d) fun e s1 =>
    if Nat.beq e 0 && noLnS s1 then tRun T Γ nv n h q.body s1 fun e s' =>
     if Nat.beq e 0 then match packX Γ sB dra sB.c kill ks0 s' with
      | none => none
      | some t' => if noLnM (merge nv dra kill sB ks0 t') then some t' else none
     else none
    else none
noncomputable def A3 (fn : Func) (fB : FuncId) (te : TypeId) (ks0 : Ks) (dr0 : List Nat) (h : Hint) (ks rs : List Kd) (a : HL F ks) : Option (TL F (rs ++ ks.filter Kd.isBox)) :=
 match fn.body with
 | none => none
 | some body => match Ay body with
  | none => none
  | some q => match uC q.ops1.toList with
   | none => none
   | some (pre,oB) => match A9 oB with
    | none => none
    | some e => if Nat.beq e.t q.t && Nat.beq e.f fB && Nat.blt q.t fn.ntmps && Nat.blt q.pi fn.ntmps && Nat.blt q.px fn.ntmps && !(Nat.beq q.pi q.px) && noDef q.assign && noDef q.body && hintN h then
      match unpHL ks a 0 with
      | (ds,bs,c) => if AX ks then
        tReg T Γ nv fn.ntmps [] q.ops0.toList false ⟨params 0 (entL ks a ds),bs,c,[],[]⟩ fun s1 =>
        tOps T Γ nv fn.ntmps q.ops1.toList pre s1 [] fun s2 _ => match look s2.E e.x with
         | some (.c (.wsl id)) => match look s2.M id,T te with
          | some (.row tt l),some ti =>
           if Nat.beq (szT F tt) ti.size && !(memN id (aF (rfB s2 q.t id tt l) (dr0 ++ keysOf ks0))) && (ks0.all fun k => (eK k.2 (look (rfB s2 q.t id tt l).E k.1)).isSome) && (look (rfB s2 q.t id tt l).E q.pi).isNone && (look (rfB s2 q.t id tt l).E q.px).isNone && Nat.blt id s2.c && noLnM (rfB s2 q.t id tt l) && memN q.px (dr0 ++ keysOf ks0) && ea ti.desc then
            match packX Γ (rfB s2 q.t id tt l) (dr0 ++ keysOf ks0) s2.c (aF (rfB s2 q.t id tt l) (dr0 ++ keysOf ks0)) ks0 (rfB s2 q.t id tt l) with
            | none => none
            | some t0 => if noLnM (merge nv (dr0 ++ keysOf ks0) (aF (rfB s2 q.t id tt l) (dr0 ++ keysOf ks0)) (rfB s2 q.t id tt l) ks0 t0) then
              (rgB (yC T Γ nv fn.ntmps q h te (rfB s2 q.t id tt l) (dr0 ++ keysOf ks0) (aF (rfB s2 q.t id tt l) (dr0 ++ keysOf ks0)) ks0 tt) l t0).bind fun v =>
               tReg T Γ nv fn.ntmps [] q.ops8.toList false (merge nv (dr0 ++ keysOf ks0) (aF (rfB s2 q.t id tt l) (dr0 ++ keysOf ks0)) (rfB s2 q.t id tt l) ks0 v) fun s8 =>
                if noLnM s8 then packR T Γ fn ks rs a (rfZ s8) else none
              else none
           else none
          | _,_ => none
         | _ => none
       else none
     else none
end
section
variable {F : Fam} {P : Program} {own own' : Ow} {W0 W1 : World} {n n' : Nat} {s s' : St F} {g : G} {a a' : Act} {w w' : World}
def G.noLen (g : G) : G:=⟨g.ids,g.imm,fun _ => False⟩
theorem uS {c : Cel F} {x : Value} (hn : noLnC c = true) (h : RepC g w c x) : RepC g.noLen w c x:=by
 cases h with
 | ln h => cases hn
 | lpt _ _ _ _ _ _ _ _ => cases hn
 | im h => exact .im h
 | pt cs off b o f hb hc hr => exact .pt cs off b o f hb hc hr
 | ptr h => exact .ptr h
 | pel h => exact .pel h
 | wsl0 p h => exact .wsl0 p h
 | wsl h h1 h2 => exact .wsl h h1 h2
 | lsl0 p h => exact .lsl0 p h
 | lsl h h1 h2 h3 h4 => exact .lsl h h1 h2 h3 h4
 | nsl h h1 h2 => exact .nsl h h1 h2
 | nel h h1 => exact .nel h h1
 | bsl h hm => exact .bsl h hm
 | mpc h => exact .mpc h
 | ppt cs b o b2 o2 f hb hv hb2 hc hr => exact .ppt cs b o b2 o2 f hb hv hb2 hc hr
 | any => exact .any
 | one h => exact .one h
theorem CT {d : Dat F} {x : Value} (hn : noLnD d = true) (h : RepD P g w d x) : RepD P g.noLen w d x:=by
 cases h with
 | c h => exact .c (uS hn h)
 | agg hl h => exact .agg hl (fun k c x a b => uS (List.all_eq_true.1 hn c (List.mem_of_getElem? a)) (h k c x a b))
 | tup _ _ => cases hn
 | clo _ _ _ _ => cases hn
 | fv h => exact .fv h
theorem DF {id : Nat} {B : Blk F} (hn : noLnB B = true) (h : BlkOk g w id B) : BlkOk g.noLen w id B:=by
 cases B with
 | box cs =>
  obtain ⟨b,c,arr,t,h1,h2,h3,h4⟩:=h
  exact ⟨b,c,arr,t,h1,h2,h3,fun k c x a b => uS (List.all_eq_true.1 hn c (List.mem_of_getElem? a)) (h4 k c x a b)⟩
 | _ => exact h
theorem Good.noLen (h : Good P own W0 n s g a w) (hE : ∀ x d,s.e x = some d → noLnD d = true) (hM : ∀ id B,s.m id = some B → noLnB B = true) : Good P own W0 n s g.noLen a w :=
 ⟨h.dfr,h.tsz,fun x d hx => CT (hE x d hx) (h.env x d hx),⟨fun id B hB => DF (hM id B hB) (h.mem.ok id B hB),h.mem.dis,h.mem.own,h.mem.imm,h.mem.io,fun b hb => hb.elim⟩,h.dom,h.ini,h.frm,h.nam⟩
theorem Good.world (h : Good P own W0 n s g a w) (hl : ∀ b,¬ g.len b) (hsz : w.heap.size ≤ w'.heap.size) (hd : w.drawn ≤ w'.drawn) (X : Nat → Prop) (hX : ∀ b,X b → ¬ own.o b ∧ ¬ own.i b) (hs : ∀ b,b < w.heap.size → ¬ X b → w'.heap[b]? = w.heap[b]?) (hf : ∀ b,w'.heap.size ≤ b → own.o b) :
  Good P own w' n s g a w':=by
 have hle : Le g w g w':=by
  refine ⟨fun _ _ h => h,fun _ h => h,fun b hb => ?_,fun _ h => h,fun b hb => (hl b hb).elim⟩
  refine hs b (h.mem.imm b hb) (fun hx => ?_)
  rcases h.mem.io b hb with hi | ho
  ·exact (hX b hx).2 hi
  ·exact (hX b hx).1 ho
 refine ⟨h.dfr,h.tsz,fun x d hx => (h.env x d hx).le hle,⟨fun id B hB => (h.mem.ok id B hB).le hle fun ho b hb => ?_,h.mem.dis,h.mem.own,fun b hb => Nat.lt_of_lt_of_le (h.mem.imm b hb) hsz,h.mem.io,fun b hb => (hl b hb).elim⟩,h.dom,h.ini,⟨rfl,rfl,rfl,Nat.le_refl _,hf,fun _ _ _ => rfl,Nat.le_refl _⟩,h.nam⟩
 exact hs b ((h.mem.ok id B hB).place h.mem.imm (Blk.noAls ho) hb) (fun hx => (hX b hx).1 (h.mem.own id B b hB ho hb).1)
theorem Good.env' (h : Good P own W0 n s g a w) (hd : a'.defers = []) (ht : a'.tmps.size = n') (he : ∀ x d,s'.e x = some d → RepD P g w d (a'.tmps.getD x undef)) (hm : ∀ id B,s'.m id = some B → s.m id = some B) (hu : ∀ id,s'.u id = false → s.u id = false) : Good P own W0 n' s' g a' w :=
 ⟨hd,ht,he,h.mem.sub hm,fun id hi => h.dom id (hu id hi),h.ini,h.frm,h.nam⟩
def Ow.aside (own : Ow) (g : G) (X : Nat → Prop) : Ow:=⟨fun b => own.o b ∧ ¬ X b,own.i,g.ids⟩
theorem Good.aside (h : Good P own W0 n s g a w) (hl : ∀ b,¬ g.len b) (X : Nat → Prop) (hX : ∀ b,X b → (∀ id B,s.m id = some B → B.owned = true → ¬ g.blk id b) ∧ ¬ g.imm b) (hXs : ∀ b,X b → b < w.heap.size) : Good P (own.aside g X) w n s g a w:=by
 refine ⟨h.dfr,h.tsz,h.env,⟨h.mem.ok,h.mem.dis,fun id B b hB ho hb => ⟨⟨(h.mem.own id B b hB ho hb).1,fun hx => (hX b hx).1 id B hB ho hb⟩,(h.mem.own id B b hB ho hb).2⟩,h.mem.imm,fun b hb => ?_,fun b hb => (hl b hb).elim⟩,h.dom,h.ini,⟨rfl,rfl,rfl,Nat.le_refl _,fun b hb => ⟨h.frm.fresh b (Nat.le_trans h.frm.size hb),fun hx => by have:=hXs b hx; omega⟩,fun _ _ _ => rfl,Nat.le_refl _⟩,fun id p hp => hp⟩
 rcases h.mem.io b hb with hi | ho
 ·exact .inl hi
 ·exact .inr ⟨ho,fun hx => (hX b hx).2 hb⟩
theorem Good.back {gB : G} {X : Nat → Prop} (h : Good P (own.aside gB X) W1 n s g a w) (hl : ∀ b,¬ g.len b) (hf : Frm own W0 w) (hn : ∀ id p,own.nm id = some p → gB.ids id = some p) : Good P own W0 n s g a w :=
 ⟨h.dfr,h.tsz,h.env,⟨h.mem.ok,h.mem.dis,fun id B b hB ho hb => ⟨(h.mem.own id B b hB ho hb).1.1,(h.mem.own id B b hB ho hb).2⟩,h.mem.imm,fun b hb => (h.mem.io b hb).imp id fun hh => hh.1,fun b hb => (hl b hb).elim⟩,h.dom,h.ini,hf,fun id p hp => h.nam id p (hn id p hp)⟩
theorem Frm.aside {gB : G} {X : Nat → Prop} (h : Frm own W0 w) (h2 : Frm (own.aside gB X) w w') : Frm own W0 w' :=
 ⟨h2.os.trans h.os,h2.tape.trans h.tape,h2.output.trans h.output,Nat.le_trans h.size h2.size,h.fresh,fun b hb ho => (h2.block b (Nat.lt_of_lt_of_le hb h.size) (fun hh => ho hh.1)).trans (h.block b hb ho),Nat.le_trans h.drawn h2.drawn⟩
theorem AQ {t x : Nat} {E : List (Nat × Dat F)} : look (wS t E) x = if !(Nat.beq t x) && AH (look E x) then look E x else none:=az (fun y => !(Nat.beq t y) && AH (look E y)) x E
theorem oj {t x : Nat} {E : List (Nat × Dat F)} {d : Dat F} (h : look (wS t E) x = some d) : x ≠ t ∧ look E x = some d ∧ ∃ id off,d = .c (.ptr id off):=by
 rw [AQ] at h
 split at h
 ·rename_i hc
  obtain ⟨h1,h2⟩:=(Bool.and_eq_true _ _).mp hc
  refine ⟨fun e => ?_,h,?_⟩
  ·rw [e,aV] at h1; cases h1
  ·rw [h] at h2
   match d,h2 with
   | .c (.ptr id off),_ => exact ⟨id,off,rfl⟩
 ·cases h
end
set_option linter.unusedVariables false
set_option linter.unusedSimpArgs false
def AW (P : Program) (fC : FuncId) (te : TypeId) (sz : Nat) : Prop :=
 ∀ (l bx n cap : Nat) (p : Option Addr) (J : Nat → World → Prop) (W : World),n ≤ maxLen → (n = 0 ∨ ∃ b,p = some ⟨b,0,none⟩) →
  (∀ k w,J k w → w.heap[bx]? = W.heap[bx]?) → W.cell? ⟨bx,0,none⟩ = some (.slice p n cap) →
  (∀ k w,J (k + 1) w → k < n → ∀ b,p = some ⟨b,0,none⟩ → ∃ f : Nat → Value,(∀ j,j < sz → w.cell? ⟨b,k * sz + j,none⟩ = some (f j)) ∧ YieldAt Fence.wide 0 P l #[.int .i64 (k : Nat),.agg ⟨(List.range sz).map f⟩] w fun e w' => e = .returned (.bool true) ∧ J k w') →
  J n W → CallsIn Fence.wide 1 P fC #[.func (.yield l) #[] #[],.pointer (some ⟨bx,0,none⟩)] W fun e w' => (∃ v,e = .returned v) ∧ J 0 w'
section
variable {F : Fam} {P : Program}
theorem FD {T : TypeId → Option (TI F)} (hT : TblOk P T) {t : TypeId} {ti : TI F} (ht : T t = some ti) (hag : ea ti.desc = true) {b q : Nat} {w : World} {f : Nat → Value} (hc : ∀ j,j < ti.size → w.cell? ⟨b,q + j,none⟩ = some (f j)) :
  (loadVar t ⟨b,q,none⟩).run P w = .ok (.agg ⟨(List.range ti.size).map f⟩) w:=by
 have hrun:=run_loadCells (P:=P) w ⟨b,q,none⟩ ti.size f (by
  intro j hj
  rw [Addr.add_lit]
  exact hc j hj)
 simp only [loadVar,Sem.run_bind,qH hT ht w,Result.andThen_ok,hag,if_true,ca hT ht w,hrun,Sem.run_pure]
theorem vS {E : List (Nat × Dat F)} : ∀ {ks : Ks} {v : TLS F ks} {c : Nat},(ks.all fun k => (eK k.2 (look E k.1)).isSome) = true → ∀ y d,look (unpS E ks v c).1 y = some d → look E y = some d
 | [],v,c,h,y,d,hy => by simp [unpS,look] at hy
 | [k],v,c,h,y,d,hy => by
  simp only [List.all_cons,List.all_nil,Bool.and_true,Option.isSome_iff_exists] at h
  obtain ⟨id,hid⟩:=h
  simp only [unpS,unpS1,hid] at hy
  rcases fj hid with ⟨t,ow,hk,hl⟩ | ⟨t,arr,hk,hl⟩
  ·obtain ⟨x,kk⟩:=k
   simp only at hk hl hid hy
   subst hk
   simp only [unpB,aw] at hy
   by_cases hxy : x = y
   ·subst hxy
    rw [aV] at hy
    simp only [if_true,Option.some.injEq] at hy
    rw [← hy]; exact hl
   ·rw [ap hxy] at hy
    simp [look] at hy
  ·obtain ⟨x,kk⟩:=k
   simp only at hk hl hid hy
   subst hk
   simp only [unpB,aw] at hy
   by_cases hxy : x = y
   ·subst hxy
    rw [aV] at hy
    simp only [if_true,Option.some.injEq] at hy
    rw [← hy]; exact hl
   ·rw [ap hxy] at hy
    simp [look] at hy
 | k :: l :: r,v,c,h,y,d,hy => by
  rw [List.all_cons,Bool.and_eq_true] at h
  obtain ⟨h1,h2⟩:=h
  rw [Option.isSome_iff_exists] at h1
  obtain ⟨id,hid⟩:=h1
  simp only [unpS,unpS1,hid] at hy
  have key : ∀ (x : Nat) (dd : Dat F) (rest : List (Nat × Dat F)),look E x = some dd → (∀ y d,look rest y = some d → look E y = some d) → look ((x,dd) :: rest) y = some d → look E y = some d:=by
   intro x dd rest e1 e2 e3
   rw [aw] at e3
   split at e3
   ·rename_i hb
    have:=Nat.eq_of_beq_eq_true hb
    subst this
    cases e3
    exact e1
   ·exact e2 y d e3
  obtain ⟨x,kk⟩:=k
  simp only at hid hy
  rcases fj hid with ⟨t,ow,hk,hl⟩ | ⟨t,arr,hk,hl⟩
  ·subst hk
   simp only [unpB] at hy
   exact key x _ _ hl (fun y d => vS h2 y d) hy
  ·subst hk
   simp only [unpB] at hy
   exact key x _ _ hl (fun y d => vS h2 y d) hy
theorem ww {nv : Nat} {dra kill : List Nat} {s : TS F} {ks : Ks} {v : TLS F ks} (hs : (ks.all fun k => (eK k.2 (look s.E k.1)).isSome) = true) {y : Nat} {d : Dat F} (h : look (merge nv dra kill s ks v).E y = some d) : look s.E y = some d:=by
 have h : look ((unpS s.E ks v s.c).1 ++ s.E.filter fun p => Nat.blt p.1 nv && !(memN p.1 dra)) y = some d:=h
 rw [aQ] at h
 cases hl : look (unpS s.E ks v s.c).1 y with
 | some d' =>
  rw [hl] at h
  cases h
  exact vS hs y _ hl
 | none =>
  rw [hl,Option.none_or,az (fun y => Nat.blt y nv && !(memN y dra))] at h
  split at h
  ·exact h
  ·cases h
theorem qO {s : TS F} (h : noLnM s = true) : ∀ id B,look s.M id = some B → noLnB B = true:=fun id B hB => List.all_eq_true.1 h (id,B) (oF hB)
theorem C1 {s : TS F} (h : noLnS s = true) : (∀ x d,look s.E x = some d → noLnD d = true) ∧ ∀ id B,look s.M id = some B → noLnB B = true:=by
 simp only [noLnS,Bool.and_eq_true] at h
 exact ⟨fun x d hx => List.all_eq_true.1 h.1 (x,d) (oF hx),qO h.2⟩
theorem Frm.foreign {own : Ow} {W0 w w' : World} (h : Frm own W0 w) (hos : w'.os = w.os) (ht : w'.tape = w.tape) (ho : w'.output = w.output) (hd : w.drawn ≤ w'.drawn) (hsz : w.heap.size ≤ w'.heap.size) (X : Nat → Prop) (hX : ∀ b,X b → own.o b) (hs : ∀ b,b < w.heap.size → ¬ X b → w'.heap[b]? = w.heap[b]?) : Frm own W0 w' :=
 ⟨hos.trans h.os,ht.trans h.tape,ho.trans h.output,Nat.le_trans h.size hsz,h.fresh,fun b hb hn => (hs b (Nat.lt_of_lt_of_le hb h.size) (fun hx => hn (hX b hx))).trans (h.block b hb hn),Nat.le_trans h.drawn hd⟩
structure RfI (P : Program) (own : Ow) (Wc : World) (n nv : Nat) (gB : G) (X : Nat → Prop) (a3 : Act) (sB : TS F) (dra kill : List Nat) (ks0 : Ks) (t : TLS F ks0) (w : World) : Prop where
 good : ∃ g,Good P (own.aside gB X) w n (merge nv dra kill sB ks0 t).st g a3 w ∧ ∀ b,¬ g.len b
 frm : Frm own Wc w
 m : ∀ q ∈ (unpS sB.E ks0 t sB.c).2.1,sB.c ≤ q.1 ∨ q.1 ∈ kill
 e : ∀ y,y ∉ keysOf ks0 → look (unpS sB.E ks0 t sB.c).1 y = none
 c : sB.c ≤ (unpS sB.E ks0 t sB.c).2.2
variable {T : TypeId → Option (TI F)} {Γ : Ctx F} {nv n : Nat} {own : Ow} {Wc WB : World} {gB : G} {X : Nat → Prop} {a3 : Act} {sB : TS F} {dra kill : List Nat} {ks0 : Ks} {w : World}
theorem Gk (hbase : Good P (own.aside gB X) WB n sB.st gB a3 WB) (hpE : ∀ x d,look sB.E x = some d → ∃ i off,d = .c (.ptr i off)) {g : G} {w : World} (hn : ∀ id p,gB.ids id = some p → g.ids id = some p) {x : Nat} {d : Dat F} (h : look sB.E x = some d) : RepD P g w d (a3.tmps.getD x undef):=by
 obtain ⟨i,off,rfl⟩:=hpE x d h
 obtain ⟨b,c,h1,h2⟩:=cj (hbase.env x _ h)
 rw [h2]
 exact .c (.ptr (hn _ _ h1))
theorem Bh (hpE : ∀ x d,look sB.E x = some d → ∃ i off,d = .c (.ptr i off)) {x : Nat} {d : Dat F} (h : look sB.E x = some d) : noLnD d = true:=by
 obtain ⟨i,off,rfl⟩:=hpE x d h
 rfl
theorem Cm (hΓ : CtxOk P Γ) (hbase : Good P (own.aside gB X) WB n sB.st gB a3 WB) (hd3 : a3.defers = []) (ht3 : a3.tmps.size = n) (hpE : ∀ x d,look sB.E x = some d → ∃ i off,d = .c (.ptr i off)) (hsame : (ks0.all fun k => (eK k.2 (look sB.E k.1)).isSome) = true) (hk : ∀ y ∈ keysOf ks0,y ∈ dra)
  {z : TS F} {g : G} {a : Act} {w w' : World} {W2 : World} (hz : Good P (own.aside gB X) W2 n z.st g a w) (hE : ∀ x,x < nv → x ∉ dra → x ∉ z.dE → look z.E x = look sB.E x) (hM : ∀ id,id < sB.c → id ∉ kill → id ∉ z.dM → look z.M id = look sB.M id)
  {t : TLS F ks0} (hp : packX Γ sB dra sB.c kill ks0 z = some t) (hnl : noLnM (merge nv dra kill sB ks0 t) = true)
  (hsz : w.heap.size ≤ w'.heap.size) (hd : w.drawn ≤ w'.drawn) (L : Nat → Prop) (hL : ∀ b,L b → X b ∧ ¬ own.i b) (hs : ∀ b,b < w.heap.size → ¬ L b → w'.heap[b]? = w.heap[b]?) (hf : ∀ b,w'.heap.size ≤ b → (own.aside gB X).o b) (hfrm : Frm own Wc w') :
  RfI P own Wc n nv gB X a3 sB dra kill ks0 t w':=by
 obtain ⟨⟨g',k1⟩,q1,q2,q3⟩:=yH (nv:=nv) hΓ hbase hz hE hM hp
 have k2:=k1.noLen (fun x d hx => Bh hpE (ww hsame hx)) (qO hnl)
 have k3 : Good P (own.aside gB X) _ n (merge nv dra kill sB ks0 t).st g'.noLen a3 w:=k2.env' hd3 ht3 (fun x d hx => Gk hbase hpE (fun id p h => k2.nam id p h) (ww hsame hx)) (fun _ _ h => h) (fun _ h => h)
 exact ⟨⟨g'.noLen,k3.world (fun _ h => h) hsz hd L (fun b hb => ⟨fun hh => hh.2 (hL b hb).1,(hL b hb).2⟩) hs hf,fun _ h => h⟩,hfrm,q1,q2,q3⟩
end
set_option linter.unusedVariables false
set_option linter.unusedSimpArgs false
section
variable {F : Fam} {P : Program} {T : TypeId → Option (TI F)} {Γ : Ctx F} {nv n : Nat} {own : Ow} {Wc WB : World} {gB : G} {X : Nat → Prop} {a3 : Act} {sB : TS F} {dra kill : List Nat} {ks0 : Ks} {w : World}
theorem xk {t : TLS F ks0} (hm : ∀ q ∈ (unpS sB.E ks0 t sB.c).2.1,sB.c ≤ q.1 ∨ q.1 ∈ kill) {id : Nat} (hi : id < sB.c) (hk : id ∉ kill) : look (merge nv dra kill sB ks0 t).M id = look sB.M id:=by
 show look ((unpS sB.E ks0 t sB.c).2.1 ++ sB.M.filter fun p => !(memN p.1 kill)) id = _
 rw [aQ,wK hi hk hm,Option.none_or,az (fun y => !(memN y kill)),if_pos]
 cases h : memN id kill with
 | true => exact absurd (aE.1 h) hk
 | false => rfl
theorem B8 {t : TLS F ks0} (he : ∀ y,y ∉ keysOf ks0 → look (unpS sB.E ks0 t sB.c).1 y = none) (hk : ∀ y ∈ keysOf ks0,y ∈ dra) {x : Nat} (hx : x < nv) (hn : x ∉ dra) : look (merge nv dra kill sB ks0 t).E x = look sB.E x:=by
 show look ((unpS sB.E ks0 t sB.c).1 ++ sB.E.filter fun p => Nat.blt p.1 nv && !(memN p.1 dra)) x = _
 rw [aQ,he x (fun h => hn (hk x h)),Option.none_or,az (fun y => Nat.blt y nv && !(memN y dra)),if_pos]
 rw [Nat.blt_eq.mpr hx]
 cases h : memN x dra with
 | true => exact absurd (aE.1 h) hn
 | false => rfl
theorem Fp (hT : TblOk P T) (hΓ : CtxOk P Γ) (hmix : P.follows .mixedOrders = true) (hbase : Good P (own.aside gB X) WB n sB.st gB a3 WB) (hd3 : a3.defers = []) (ht3 : a3.tmps.size = n) (hpE : ∀ x d,look sB.E x = some d → ∃ i off,d = .c (.ptr i off))
  (hsame : (ks0.all fun k => (eK k.2 (look sB.E k.1)).isSome) = true) (hk : ∀ y ∈ keysOf ks0,y ∈ dra) {q : RfC} {h : Hint} {te : TypeId} {ti : TI F} (hti : T te = some ti) (hag : ea ti.desc = true) {tt : Ty} {l : List (ET F tt)} {x : ET F tt} {k : Nat} (hx : l[k]? = some x) {t t' : TLS F ks0}
  (hstep : yC T Γ nv n q h te sB dra kill ks0 tt x t = some t') (hdA : noDef q.assign = true) (hdB : noDef q.body = true) (hh : hintN h = true) (hpi : look sB.E q.pi = none) (hpx : look sB.E q.px = none) (hpd : q.px ∈ dra) (hpne : q.pi ≠ q.px) (hpn : q.px < n)
  {id b cap : Nat} {nn : Nat × NS} (hidM : look sB.M id = some (.fro tt l)) (hidk : id ∉ kill) (hidc : id < sB.c) (hidn : gB.ids id = some (some (b,cap,nn))) (hszT : szT F tt = ti.size)
  {L D fnn : Nat} {rec : LoopState → Loop} (hrec : rec = fun st => { state:=st,pending:=none,fn:=fnn,tmps:=a3.tmps,params:=#[q.pi,q.px],assign:=q.assign,body:=q.body,defers:=D })
  (hXL : X L) (hiL : ¬ own.i L) (hoX : ∀ b,X b → own.o b) {wk : World} (hI : RfI P own Wc n nv gB X a3 sB dra kill ks0 t wk) (hL : wk.heap[L]? = some (.loop (rec .ready))) :
  ∃ fv : Nat → Value,(∀ j,j < ti.size → wk.cell? ⟨b,k * szT F tt + j,none⟩ = some (fv j)) ∧ YieldAt Fence.wide 0 P L #[.int .i64 (k : Nat),.agg ⟨(List.range ti.size).map fv⟩] wk fun e w' => e = .returned (.bool true) ∧ RfI P own Wc n nv gB X a3 sB dra kill ks0 t' w' ∧ w'.heap[L]? = some (.loop (rec .ready)) ∧ ∀ y,X y → y ≠ L → y < wk.heap.size → w'.heap[y]? = wk.heap[y]?:=by
 obtain ⟨⟨g,hg,hgl⟩,hfrm,hm,he,hc⟩:=hI
 have hMid : look (merge nv dra kill sB ks0 t).M id = some (.fro tt l):=by rw [xk hm hidc hidk]; exact hidM
 have hgid : g.ids id = some (some (b,cap,nn)):=hg.nam _ _ hidn
 obtain ⟨_,_,_,_,_,hcells⟩:=pA hg.mem hMid hgid
 unfold yC at hstep
 rw [hti] at hstep
 dsimp only at hstep
 split at hstep
 ·cases hstep
 rename_i d hd
 obtain ⟨xv,hxv,hrep⟩:=dq (P:=P) (g:=g) (w:=wk) hT hti hd (b:=b) (q:=k * szT F tt) (by
  intro j c hj
  obtain ⟨dd,hdd,rfl⟩:=gL hj
  obtain ⟨y,y1,y2⟩:=hcells _ _ (aJ hx hdd)
  exact ⟨y,y1,.im y2⟩)
 rw [Nat.add_zero] at hxv
 have hfv : ∀ j,j < ti.size → wk.cell? ⟨b,k * szT F tt + j,none⟩ = some ((wk.cell? ⟨b,k * szT F tt + j,none⟩).getD undef):=by
  intro j hj
  have hjl : j < (encT F tt x).length:=by rw [aW,hszT]; exact hj
  obtain ⟨y,y1,_⟩:=hcells _ _ (aJ hx (G2 hjl))
  rw [y1]; rfl
 have hxe:=FD (P:=P) hT hti hag (b:=b) (q:=k * szT F tt) (w:=wk) hfv
 rw [hxv] at hxe
 injection hxe with hxe _
 refine ⟨_,hfv,?_⟩
 rw [← hxe]
 refine ⟨fnn,_,q.assign,q.body,by have:=run_yield (P:=P) (args:=#[.int .i64 (k : Nat),xv]) hL (by rw [hrec]; rfl); rw [hrec] at this; exact this,?_⟩
 have hLs : L < wk.heap.size:=(Array.getElem?_eq_some_iff.1 hL).1
 refine roundIn_of_wpIn (F:=Fence.wide) (n:=0) trivial ?_
 generalize haR : ({ tmps:=_,defers:=[] } : Act) = aR
 have haR : aR = ({ tmps:=(a3.tmps.setIfInBounds q.pi (.int .i64 (k : Nat))).setIfInBounds q.px xv,defers:=[] } : Act):=by rw [← haR]; simp
 have hsR : aR.tmps.size = n:=by rw [haR]; simp [ht3]
 have hgR : Good P (own.aside gB X) wk n (rfIn (merge nv dra kill sB ks0 t) q.px d).st g aR wk:=by
  refine hg.env' (by rw [haR]) hsR (fun y e hy => ?_) (fun _ _ h => h) (fun _ h => h)
  simp only [TS.st,rfIn,aw] at hy
  rw [haR]
  dsimp only
  rw [Array.getD_eq_getD_getElem?,Array.getElem?_setIfInBounds]
  by_cases hyx : q.px = y
  ·subst hyx
   rw [aV] at hy
   simp only [if_true,Option.some.injEq] at hy
   subst hy
   rw [if_pos rfl,if_pos (by simpa [ht3] using hpn)]
   exact hrep
  ·rw [ap hyx] at hy
   rw [if_neg hyx,Array.getElem?_setIfInBounds]
   have hy' : look (merge nv dra kill sB ks0 t).E y = some e:=by simpa using hy
   have hys:=ww hsame hy'
   have hyi : q.pi ≠ y:=by
    rintro rfl
    rw [hpi] at hys
    cases hys
   rw [if_neg hyi,← Array.getD_eq_getD_getElem?]
   exact hg.env y e hy'
 refine wpIn_mono (tAuto_in (lr:=L) (m:=0) hT hΓ hmix q.assign hdA _ _ t' hstep g aR wk hgR) ?_
 rintro e1 a1 w1 ⟨i,s1,g1,rfl,h2,h3,h4⟩
 obtain ⟨hc1,h2b⟩:=aG h2
 simp only [Bool.and_eq_true] at hc1
 have hi0:=Nat.eq_of_beq_eq_true hc1.1
 subst hi0
 obtain ⟨hnE1,hnM1⟩:=C1 hc1.2
 simp only [exC,Exit.then]
 have hoo : ∀ y,X y → ¬ (own.aside gB X).o y:=fun y hy hh => hh.2 hy
 have hX1 : ∀ y,X y → y < wk.heap.size → w1.heap[y]? = wk.heap[y]?:=fun y hy hlt => h4.frm.block y hlt (hoo y hy)
 have hL1 : w1.heap[L]? = some (.loop (rec .ready)):=(hX1 L hXL hLs).trans hL
 refine ⟨_,run_beginRound hL1 (by rw [hrec]),?_⟩
 generalize hW2 : w1.putObj L (.loop { rec .ready with state:=.busy }) = w2
 have hs2 : w2.heap.size = w1.heap.size:=by rw [← hW2]; simp only [World.putObj,Array.size_setIfInBounds]
 have hot2 : ∀ y,y ≠ L → w2.heap[y]? = w1.heap[y]?:=fun y hy => by rw [← hW2,World.putObj_heap_other hy]
 have hLs1 : L < w1.heap.size:=(Array.getElem?_eq_some_iff.1 hL1).1
 have hL2 : w2.heap[L]? = some (.loop { rec .ready with state:=.busy }):=by rw [← hW2]; exact World.putObj_heap_same hLs1
 have hg2 : Good P (own.aside gB X) w2 n s1.st g1.noLen a1 w2:=by
  refine (h4.noLen hnE1 hnM1).world (fun _ h => h) (Nat.le_of_eq hs2.symm) (by rw [← hW2]; exact Nat.le_refl _) (fun y => y = L) (fun y hy => ⟨by rw [hy]; exact hoo L hXL,by rw [hy]; exact hiL⟩) (fun y hy hn => hot2 y hn) (fun y hy => h4.frm.fresh y ?_)
  exact Nat.le_trans (h4.frm.size) (by rw [← hs2]; exact hy)
 have hf2 : Frm own Wc w2:=(hfrm.aside h4.frm).foreign (by rw [← hW2]; rfl) (by rw [← hW2]; rfl) (by rw [← hW2]; rfl) (by rw [← hW2]; exact Nat.le_refl _) (Nat.le_of_eq hs2.symm) (fun y => y = L) (fun y hy => by rw [hy]; exact hoX L hXL) (fun y _ hn => hot2 y hn)
 refine wpIn_mono (Gu (lr:=L) (m:=0) hT hΓ hmix h hh q.body hdB _ _ t' h2b _ _ _ hg2) ?_
 rintro e5 a5 w5 ⟨i,s5,g5,rfl,k2,k3,k4⟩
 obtain ⟨hc5,k2b⟩:=aG k2
 have hi0:=Nat.eq_of_beq_eq_true hc5
 subst hi0
 split at k2b
 ·cases k2b
 rename_i t2 hp
 obtain ⟨hnl,k2c⟩:=aG k2b
 cases k2c
 simp only [exC,roundPost]
 have hX5 : ∀ y,X y → y < w2.heap.size → w5.heap[y]? = w2.heap[y]?:=fun y hy hlt => k4.frm.block y hlt (hoo y hy)
 have hL5 : w5.heap[L]? = some (.loop { rec .ready with state:=.busy }):=(hX5 L hXL (by omega)).trans hL2
 refine ⟨_,_,run_endRound none hL5,rfl,?_⟩
 have hob : ({ { rec .ready with state:=.busy } with state:=if (none : Option Code).isNone then .ready else .done,pending:=none } : Loop) = rec .ready:=by rw [hrec]; rfl
 rw [hob]
 generalize hW6 : w5.putObj L (.loop (rec .ready)) = w6
 have hs6 : w6.heap.size = w5.heap.size:=by rw [← hW6]; simp only [World.putObj,Array.size_setIfInBounds]
 have hot6 : ∀ y,y ≠ L → w6.heap[y]? = w5.heap[y]?:=fun y hy => by rw [← hW6,World.putObj_heap_other hy]
 have hLs5 : L < w5.heap.size:=(Array.getElem?_eq_some_iff.1 hL5).1
 refine ⟨?_,by rw [← hW6]; exact World.putObj_heap_same hLs5,fun y hy hne hlt => ?_⟩
 ·refine Cm hΓ hbase hd3 ht3 hpE hsame hk k4 (fun y hy hn hd => ?_) (fun y hy hn hd => ?_) hp hnl (Nat.le_of_eq hs6.symm) (by rw [← hW6]; exact Nat.le_refl _) (fun y => y = L) (fun y hy => ⟨by rw [hy]; exact hXL,by rw [hy]; exact hiL⟩) (fun y _ hn => hot6 y hn) (fun y hy => k4.frm.fresh y (Nat.le_trans k4.frm.size (by rw [← hs6]; exact hy))) ?_
  ·rw [k3.e y hy hd,h3.e y hy (fun hh => hd (k3.dE y hh))]
   simp only [rfIn,aw]
   rw [ap (fun (e : q.px = y) => hn (e ▸ hpd))]
   exact B8 he hk hy hn
  ·have hc1 : sB.c ≤ s1.c:=Nat.le_trans hc h3.c
   rw [k3.m y (by omega) hd,h3.m y (Nat.lt_of_lt_of_le hy hc) (fun hh => hd (k3.dM y hh))]
   exact xk (nv:=nv) (dra:=dra) hm hy hn
  ·exact (hf2.aside k4.frm).foreign (by rw [← hW6]; rfl) (by rw [← hW6]; rfl) (by rw [← hW6]; rfl) (by rw [← hW6]; exact Nat.le_refl _) (Nat.le_of_eq hs6.symm) (fun y => y = L) (fun y hy => by rw [hy]; exact hoX L hXL) (fun y _ hn => hot6 y hn)
 ·have h1lt : y < w1.heap.size:=Nat.lt_of_lt_of_le hlt h4.frm.size
  rw [hot6 y hne,hX5 y hy (by omega),hot2 y hne,hX1 y hy hlt]
end
set_option linter.unusedVariables false
set_option linter.unusedSimpArgs false
section
variable {F : Fam} {P : Program} {T : TypeId → Option (TI F)} {Γ : Ctx F} {nv : Nat}
theorem GC (hT : TblOk P T) (hΓ : CtxOk P Γ) (hmix : P.follows .mixedOrders = true) {f fB fC : FuncId} {fn : Func} {sp : Spec F} {te tsl : TypeId} {ks0 : Ks} {dr0 : List Nat} {h : Hint} (hf : P.funcs[f]? = some fn) (hnm : (fn.name == "runtime.NumGoroutine") = false) (hbn : fn.body.isNone = false) (hlen : Nat.ble sp.ks.length fn.ntmps = true)
  (hrs : sp.rs.all (fun k => !k.isBox) = true) (hentB : jI P fB) (hentC : jI P fC)
  (hB : ∀ (p : Option Addr) (n cap : Nat) (w : World),Calls P fB #[.slice p n cap] w fun e w' => e = .returned (.func (.func fC) #[] #[.pointer (some ⟨w.heap.size,0,none⟩)]) ∧ w' = w.alloc (.cells #[.slice p n cap] tsl (0,0)))
  (hC : ∀ ti,T te = some ti → AW P fC te ti.size)
  (hD : ∀ a r,sp.D a = some r → A3 T Γ nv fn fB te ks0 dr0 h sp.ks sp.rs a = some r) : FnOk P f sp:=by
 refine ⟨⟨fn,hf,hnm,hbn⟩,?_⟩
 intro a r hr imm w vs pls bxs hheld hpl himm
 have hd:=hD a r hr
 unfold A3 at hd
 split at hd
 ·cases hd
 rename_i body hbody
 split at hd
 ·cases hd
 rename_i q hq
 obtain ⟨i0,i1,ib,i8,rfl⟩:=C2 hq
 split at hd
 ·cases hd
 rename_i pre oB hil
 have hops1:=xj hil
 split at hd
 ·cases hd
 rename_i e he
 obtain ⟨od,og,ats,oo⟩:=CX he
 obtain ⟨hc,hd⟩:=aG hd
 simp only [Bool.and_eq_true,Nat.blt_eq,Bool.not_eq_true',and_assoc] at hc
 obtain ⟨hc1,hc2,hlt,hlti,hltx,hne,hdA,hdB,hhN⟩:=hc
 have hc1:=Nat.eq_of_beq_eq_true hc1
 have hc2:=Nat.eq_of_beq_eq_true hc2
 have hpne : q.pi ≠ q.px:=fun e => by rw [e,aV] at hne; cases hne
 dsimp only at hd
 obtain ⟨hsafe,hd⟩:=aG hd
 obtain ⟨g0,hgood,h4⟩:=Da (fn:=fn) hlen hsafe hheld hpl himm
 generalize hown : (⟨fun b => b ∈ plBlks pls ∨ w.heap.size ≤ b,imm,(G.at0 0 pls imm).ids⟩ : Ow) = own at hgood
 refine callsIn_wide.1 (callsIn_of_wp_marks (F:=Fence.wide) (n:=1) hf hbody trivial ((wpIn_wide).2 ?_))
 refine wp_seq (Dd (id:=i0) hT hΓ hd hgood ?_)
 intro s1 g1 a1 w1 hd1 _ hg1
 simp only [Exit.then]
 refine wp_seq (wp_seq (wp_region ?_))
 obtain ⟨z,tr,hd2,t1,t2,t3,t4,t5⟩:=qY hT hΓ hd1
 split at hd2
 rotate_left
 ·cases hd2
 rename_i id hx
 split at hd2
 rotate_left
 ·cases hd2
 rename_i tt l ti hrow hti
 obtain ⟨hc3,hd3⟩:=aG hd2
 simp only [Bool.and_eq_true,and_assoc,Option.isNone_iff_eq_none,Nat.blt_eq] at hc3
 obtain ⟨e1,e2,e3,e4,e5,e6,e7,e8,e9⟩:=hc3
 have hszT:=Nat.eq_of_beq_eq_true e1
 generalize hdra : dr0 ++ keysOf ks0 = dra at *
 have hkd : ∀ y ∈ keysOf ks0,y ∈ dra:=fun y hy => by rw [← hdra]; simp [hy]
 generalize hsB : rfB z q.t id tt l = sB at *
 generalize hkill : aF sB dra = kill at *
 have hidk : id ∉ kill:=fun hm => by rw [aE.2 hm] at e2; cases e2
 have hpd : q.px ∈ dra:=aE.1 e8
 have hcB : sB.c = z.c:=by rw [← hsB]; rfl
 split at hd3
 ·cases hd3
 rename_i t0 ht0
 obtain ⟨hnl0,hd3⟩:=aG hd3
 obtain ⟨v,hv,hd4⟩:=Option.bind_eq_some_iff.1 hd3
 have hlen1 : q.ops1.size = tr.length + 1:=by
  rw [← Array.length_toList,hops1,← t1]; simp
 rw [hlen1,List.range_succ,List.range_eq_range']
 refine zQ _ _ ?_
 refine yc (opsA:=q.ops1) rfl tr 0 _ z.st (fun j t0 hj => ?_) t2 t3 hg1 ?_
 ·have hjl:=(G3.1 hj).1
  rw [Nat.zero_add,← Array.getElem?_toList,hops1,← t1,List.getElem?_append_left (by simpa using hjl),List.getElem?_map,hj]
  rfl
 intro g2 a2 w2 hg2
 simp only [Exit.then]
 have hval : ∃ p cap,a2.eval (.tmp e.x) = .slice p l.length cap ∧ l.length ≤ maxLen ∧ ((l = []) ∨ ∃ b,p = some ⟨b,0,none⟩ ∧ g2.ids id = some (some (b,cap,l.length,[]))):=by
  rcases aX (aU (hg2.env _ _ hx)) with ⟨hi,p,hvv⟩ | ⟨b,cap,n',hi,h1,h2,hvv⟩
  ·rcases hg2.mem.ok id _ hrow with ⟨r1,r2⟩ | ⟨b',cap',cur,ee,r1,_⟩
   ·subst r2
    exact ⟨p,_,hvv,Nat.zero_le _,.inl rfl⟩
   ·rw [hi] at r1; cases r1
  ·rcases hg2.mem.ok id _ hrow with ⟨r1,_⟩ | ⟨b',cap',cur,ee,r1,_⟩
   ·rw [hi] at r1; cases r1
   ·rw [hi] at r1
    cases r1
    exact ⟨_,_,hvv,Nat.le_trans h1 h2,.inr ⟨_,rfl,hi⟩⟩
 obtain ⟨p,cap,hval,hmax,hpl2⟩:=hval
 have hilast : q.ops1[tr.length]? = some oB:=by
  rw [← Array.getElem?_toList,hops1,← t1]; simp
 rw [wpOps_cons]
 unfold wpOp
 rw [hilast]
 dsimp only
 rw [show Region.wanted oB (yielded q.ops1 a2.tmps) = true by simp [Region.wanted,og],if_pos rfl]
 left
 unfold Oper.wp
 have hcr:=uB (P:=P) (a:=a2) (w:=w2) (f:=fB) (fs:=[]) (cs:=[]) oo (by rw [← hc2]; rfl) hentB
 rw [hcr]
 simp only [Oper.upon,List.map_cons,List.map_nil,List.nil_append,List.append_nil,hval]
 refine (hB p l.length cap w2).mono ?_
 rintro e3' w3 ⟨rfl,rfl⟩
 simp only [wpOps,od]
 generalize hw3 : w2.alloc (.cells #[.slice p l.length cap] tsl (0,0)) = w3
 have hs3 : w3.heap.size = w2.heap.size + 1:=by rw [← hw3,World.size_alloc]
 have hb3 : w3.heap[w2.heap.size]? = some (.cells #[.slice p l.length cap] tsl (0,0)):=by rw [← hw3]; exact heap_alloc_new w2 _
 have hold3 : ∀ b,b < w2.heap.size → w3.heap[b]? = w2.heap[b]?:=fun b hb => by rw [← hw3]; exact heap_alloc_old w2 _ hb
 generalize ha3 : a2.put (some e.t) (.func (.func fC) #[] #[.pointer (some ⟨w2.heap.size,0,none⟩)]) = a3
 have hd3' : a3.defers = []:=by rw [← ha3]; exact hg2.dfr
 have ht3' : a3.tmps.size = fn.ntmps:=by rw [← ha3]; simp [Act.put,hg2.tsz]
 simp only [Exit.then]
 refine wp_block ((wpIn_wide (n:=1)).1 (wpIn_rangeFunc ?_))
 intro fnn _
 have hga : a3.eval (.tmp q.t) = .func (.func fC) #[] #[.pointer (some ⟨w2.heap.size,0,none⟩)]:=by
  rw [← ha3,hc1,qZ (by rw [hg2.tsz]; exact hlt)]
 obtain ⟨rec,hrec⟩ : ∃ rec : LoopState → Loop,rec = fun st => { state:=st,pending:=none,fn:=fnn,tmps:=a3.tmps,params:=#[q.pi,q.px],assign:=q.assign,body:=q.body,defers:=w3.heap.size }:=⟨_,rfl⟩
 obtain ⟨W1,hW1⟩ : ∃ W1,(w3.alloc (.deferred (some []))).alloc (.loop (rec .ready)) = W1:=⟨_,rfl⟩
 have hsW : W1.heap.size = w3.heap.size + 2:=by rw [← hW1,World.size_alloc,World.size_alloc]
 have hL1 : W1.heap[w3.heap.size + 1]? = some (.loop (rec .ready)):=by
  rw [← hW1]
  have:=heap_alloc_new (w3.alloc (.deferred (some []))) (.loop (rec .ready))
  rwa [World.size_alloc] at this
 have hD1 : W1.heap[w3.heap.size]? = some (.deferred (some [])):=by
  rw [← hW1,heap_alloc_old _ _ (by rw [World.size_alloc]; omega)]
  exact heap_alloc_new w3 _
 have holdW : ∀ b,b < w3.heap.size → W1.heap[b]? = w3.heap[b]?:=by
  intro b hb
  rw [← hW1,heap_alloc_old _ _ (by rw [World.size_alloc]; omega)]
  exact heap_alloc_old w3 _ hb
 refine ⟨w3.heap.size + 1,[{ target:=.collected w3.heap.size,args:=#[] }],W1,{ target:=.fn (.func fC) #[.pointer (some ⟨w2.heap.size,0,none⟩)],args:=#[.func (.yield (w3.heap.size + 1)) #[] #[]] },W1,fC,
  #[.func (.yield (w3.heap.size + 1)) #[] #[]] ++ #[.pointer (some ⟨w2.heap.size,0,none⟩)],W1,?_,?_,?_,?_,?_,?_⟩
 ·rw [← hW1,hrec]; exact run_enterLoop_outer _ _ _ _ _
 ·simp only [resolve,hga]
  simp [go_sem]
 ·intro f' _; trivial
 ·simp [invoke,go_sem,z3 hentC]
 ·intro h; cases h
 have hfz:=mc hg2.mem (fun _ _ h => h) (ids:=[id]) (fun id' hid' => by rw [G5] at hid'; subst hid'; exact .inl ⟨tt,l,.inl hrow⟩)
 have hpE : ∀ x d,look sB.E x = some d → ∃ i off,d = .c (.ptr i off):=fun x d hxd => by
  rw [← hsB] at hxd
  exact (oj hxd).2.2
 have hidM : look sB.M id = some (.fro tt l):=by rw [← hsB]; simp [rfB,aw]
 have hgB : Good P own w fn.ntmps sB.st (g2.fzs [id]).noLen a3 w2:=by
  have h1 : Good P own w fn.ntmps sB.st (g2.fzs [id]) a3 w2:=by
   refine ⟨hd3',ht3',fun x d hxd => ?_,hfz.sub fun y B hy => ?_,fun y hy => hg2.dom y (by simp only [TS.st,hcB] at hy; exact hy),fun b hb => .inl (hg2.ini b hb),hg2.frm,hg2.nam⟩
   ·rw [← hsB] at hxd
    obtain ⟨h1,h2,_⟩:=oj hxd
    rw [← ha3,putD,if_neg (fun e' => h1 (by rw [← e',hc1]))]
    exact (hg2.env x d h2).le (po _ _ _)
   ·rw [← hsB] at hy
    simp only [TS.st,rfB,aw] at hy
    rw [jv]
    by_cases hyi : id = y
    ·subst hyi
     rw [aV] at hy
     simp only [if_true,Option.some.injEq] at hy
     rw [if_pos (by simp),show frzB z.st.m id = some (.fro tt l) from xG hrow,hy]
    ·rw [ap hyi,az (fun y => !(Nat.beq id y))] at hy
     simp only [Bool.false_eq_true,if_false] at hy
     rw [if_neg (by simp; exact fun e => hyi e.symm)]
     split at hy
     ·exact hy
     ·cases hy
  exact h1.noLen (fun x d hxd => Bh hpE hxd) (qO e7)
 have hfrm1 : Frm own w W1:=hg2.frm.foreign (by rw [← hW1,← hw3]; rfl) (by rw [← hW1,← hw3]; rfl) (by rw [← hW1,← hw3]; rfl) (by rw [← hW1,← hw3]; exact Nat.le_refl _) (by omega) (fun _ => False) (fun _ h => h.elim) (fun b hb _ => by rw [holdW b (by omega),hold3 b hb])
 have hgB1 : Good P own W1 fn.ntmps sB.st (g2.fzs [id]).noLen a3 W1:=hgB.world (fun _ h => h) (by omega) (by rw [← hW1,← hw3]; exact Nat.le_refl _) (fun _ => False) (fun _ h => h.elim) (fun b hb _ => by rw [holdW b (by omega),hold3 b hb]) (fun b hb => hg2.frm.fresh b (Nat.le_trans hg2.frm.size (by omega)))
 generalize hXd : (fun b => b = w2.heap.size ∨ b = w3.heap.size ∨ b = w3.heap.size + 1) = X
 have hXge : ∀ b,X b → w2.heap.size ≤ b ∧ b < W1.heap.size:=fun b hb => by
  rw [← hXd] at hb
  rcases hb with rfl | rfl | rfl <;> omega
 have himmlt : ∀ b,(g2.fzs [id]).noLen.imm b → b < w2.heap.size:=fun b hb => hgB.mem.imm b hb
 have hbase : Good P (own.aside (g2.fzs [id]).noLen X) W1 fn.ntmps sB.st (g2.fzs [id]).noLen a3 W1:=hgB1.aside (fun _ h => h) X (fun b hb => ⟨fun id' B hB ho hbb => by
   have:=(hgB.mem.ok id' B hB).place hgB.mem.imm (Blk.noAls ho) hbb
   have:=(hXge b hb).1
   omega,fun hh => by have:=himmlt b hh; have:=(hXge b hb).1; omega⟩) (fun b hb => (hXge b hb).2)
 have hiX : ∀ b,X b → ¬ own.i b:=fun b hb hi => by
  have:=himmlt b (.inl (hg2.ini b hi)); have:=(hXge b hb).1; omega
 have hoX : ∀ b,X b → own.o b:=fun b hb => hg2.frm.fresh b (Nat.le_trans hg2.frm.size (hXge b hb).1)
 have hXb : X w2.heap.size:=by rw [← hXd]; exact .inl rfl
 have hXD : X w3.heap.size:=by rw [← hXd]; exact .inr (.inl rfl)
 have hXL : X (w3.heap.size + 1):=by rw [← hXd]; exact .inr (.inr rfl)
 have hI0 : RfI P own w fn.ntmps nv (g2.fzs [id]).noLen X a3 sB dra kill ks0 t0 W1:=by
  refine Cm hΓ hbase hd3' ht3' hpE e3 hkd hbase (fun _ _ _ _ => rfl) (fun _ _ _ _ => rfl) (by rw [hcB]; exact ht0) hnl0 (Nat.le_refl _) (Nat.le_refl _) (fun _ => False) (fun _ h => h.elim) (fun _ _ _ => rfl) (fun b hb => hbase.frm.fresh b hb) hfrm1
 have hcapt : W1.heap[w2.heap.size]? = some (.cells #[.slice p l.length cap] tsl (0,0)):=by rw [holdW _ (by omega)]; exact hb3
 refine callsIn_wide.2 ((callsIn_wide (n:=1)).1 ((hC ti hti (w3.heap.size + 1) w2.heap.size l.length cap p (fun k wk => ∃ t,rgB (yC T Γ nv fn.ntmps q h te sB dra kill ks0 tt) (l.take k) t = some v ∧ RfI P own w fn.ntmps nv (g2.fzs [id]).noLen X a3 sB dra kill ks0 t wk ∧ wk.heap[w3.heap.size + 1]? = some (.loop (rec .ready)) ∧ (∀ y,X y → y ≠ w3.heap.size + 1 → wk.heap[y]? = W1.heap[y]?)) W1 hmax ?_ ?_ ?_ ?_ ?_).mono ?_))
 ·rcases hpl2 with hh | ⟨b,hh,_⟩
  ·left; rw [hh]; rfl
  ·exact .inr ⟨b,hh⟩
 ·rintro k wk ⟨t,_,_,_,hx4⟩
  exact hx4 _ hXb (by omega)
 ·simp [World.cell?,hcapt]
 ·rintro k wk ⟨t,hr1,hI,hLk,hXk⟩ hkl b hpb
  have hlk : l[k]? = some l[k]:=G2 hkl
  rw [← List.take_append_getElem hkl,Ba,Option.bind_eq_some_iff] at hr1
  obtain ⟨t',hst,hr2⟩:=hr1
  have hidn : g2.ids id = some (some (b,cap,l.length,[])):=by
   rcases hpl2 with hh | ⟨b',hh,hi⟩
   ·rw [hh] at hkl; simp at hkl
   ·rw [hpb] at hh; cases hh; exact hi
  obtain ⟨xv,q1,fq,tq,aq,bq,q2,q3⟩:=Fp (k:=k) hT hΓ hmix hbase hd3' ht3' hpE e3 hkd hti e9 hlk hst hdA hdB hhN e4 e5 hpd hpne hltx hidM hidk (by rw [hcB]; exact e6) (b:=b) (cap:=cap) (nn:=(l.length,[])) hidn hszT hrec hXL (hiX _ hXL) hoX hI hLk
  refine ⟨xv,by rw [← hszT] at q1 ⊢; exact q1,fq,tq,aq,bq,q2,q3.mono ?_⟩
  rintro e' w' ⟨h1,h2,h3,h5⟩
  refine ⟨h1,t',hr2,h2,h3,fun y hy hn => ?_⟩
  rw [h5 y hy hn ?_,hXk y hy hn]
  obtain ⟨⟨gg,hgg,_⟩,_⟩:=hI
  have h7 : wk.heap[y]? = W1.heap[y]?:=hXk y hy hn
  have h8:=(hXge y hy).2
  rw [Array.getElem?_eq_getElem h8] at h7
  exact (Array.getElem?_eq_some_iff.1 h7).1
 ·exact ⟨t0,by rw [List.take_length]; exact hv,hI0,hL1,fun _ _ _ => rfl⟩
 rintro e4' w4' ⟨⟨v4,rfl⟩,t,hr1,hI,hLk,hXk⟩
 have htv : t = v:=by simpa [rgB] using hr1
 subst htv
 refine ⟨none,_,by have:=run_endLoop (P:=P) hLk (by rw [hrec]; simp); rw [hrec] at this; exact this,?_⟩
 simp only [Exit.inBlock,Exit.then,List.cons_append,List.nil_append]
 generalize hw4 : w4'.putObj (w3.heap.size + 1) _ = w4
 have hs4 : w4.heap.size = w4'.heap.size:=by rw [← hw4]; simp only [World.putObj,Array.size_setIfInBounds]
 have hot4 : ∀ y,y ≠ w3.heap.size + 1 → w4.heap[y]? = w4'.heap[y]?:=fun y hy => by rw [← hw4,World.putObj_heap_other hy]
 obtain ⟨⟨g4,hg4,hgl4⟩,hfrm4',_,_,_⟩:=hI
 have hfrm4 : Frm own w w4:=hfrm4'.foreign (by rw [← hw4]; rfl) (by rw [← hw4]; rfl) (by rw [← hw4]; rfl) (by rw [← hw4]; exact Nat.le_refl _) (Nat.le_of_eq hs4.symm) (fun y => y = w3.heap.size + 1) (fun y hy => by rw [hy]; exact hoX _ hXL) (fun y _ hn => hot4 y hn)
 have hoo : ∀ y,X y → ¬ (own.aside (g2.fzs [id]).noLen X).o y:=fun y hy hh => hh.2 hy
 have hg4w : Good P (own.aside (g2.fzs [id]).noLen X) w4 fn.ntmps (merge nv dra kill sB ks0 t).st g4 a3 w4:=hg4.world hgl4 (Nat.le_of_eq hs4.symm) (by rw [← hw4]; exact Nat.le_refl _) (fun y => y = w3.heap.size + 1) (fun y hy => ⟨by rw [hy]; exact hoo _ hXL,by rw [hy]; exact hiX _ hXL⟩) (fun y _ hn => hot4 y hn) (fun y hy => hg4.frm.fresh y (by rw [← hs4]; exact hy))
 have hD4 : w4.heap[w3.heap.size]? = some (.deferred (some [])):=by rw [hot4 _ (by omega),hXk _ hXD (by omega)]; exact hD1
 have hadd : ({ tmps:=a3.tmps,defers:={ target:=.collected w3.heap.size,args:=#[] } :: a3.defers } : Act) = Act.addD a3 [{ target:=.collected w3.heap.size,args:=#[] }]:=by
  unfold Act.addD
  rw [hd3']
  rfl
 rw [hadd]
 refine wp_seq (wp_region ?_)
 refine qs (Q:=fun e a w' => match e with | .normal => ∃ s8 g8,(if noLnM s8 then packR T Γ fn sp.ks sp.rs _ (rfZ s8) else none) = some r ∧ Good P (own.aside (g2.fzs [id]).noLen X) w4 fn.ntmps s8.st g8 a w' | _ => False) ?_ _ (Cn (Q:=fun e a w' => match e with | .normal => ∃ s8 g8,(if noLnM s8 then packR T Γ fn sp.ks sp.rs _ (rfZ s8) else none) = some r ∧ Good P (own.aside (g2.fzs [id]).noLen X) w4 fn.ntmps s8.st g8 a w' | _ => False) hT hΓ hd4 hg4w (fun s' g' a' w' h1 h2 h3 => ⟨s',g',h1,h3⟩))
 intro e8 a8 w8 h8
 cases e8 with
 | normal =>
  obtain ⟨s8,g8,hd8,hg8⟩:=h8
  obtain ⟨hnl8,hd8⟩:=aG hd8
  simp only [Exit.then]
  refine wp_ret ?_
  have hD8 : w8.heap[w3.heap.size]? = some (.deferred (some [])):=by
   rw [hg8.frm.block _ ?_ (hoo _ hXD)]
   ·exact hD4
   ·exact (Array.getElem?_eq_some_iff.1 hD4).1
  have hDs8 : w3.heap.size < w8.heap.size:=(Array.getElem?_eq_some_iff.1 hD8).1
  have hot9 : ∀ y,y ≠ w3.heap.size → (stO w8 w3.heap.size (.deferred none)).heap[y]? = w8.heap[y]?:=fun y hy => wc _ _ _ hy
  have hs9 : (stO w8 w3.heap.size (.deferred none)).heap.size = w8.heap.size:=by simp [stO]
  have hg8z : Good P (own.aside (g2.fzs [id]).noLen X) w4 fn.ntmps (rfZ s8).st g8 a8 w8:=hg8.sub (fun x d hxd => (oj hxd).2.1) (fun _ _ h => h) (fun _ h => h)
  have hg8n:=hg8z.noLen (fun x d hxd => by obtain ⟨_,_,i,off,rfl⟩:=oj hxd; rfl) (qO (s:=rfZ s8) hnl8)
  have hg9:=hg8n.world (w':=stO w8 w3.heap.size (.deferred none)) (fun _ h => h) (Nat.le_of_eq hs9.symm) (Nat.le_refl _) (fun y => y = w3.heap.size) (fun y hy => ⟨by rw [hy]; exact hoo _ hXD,by rw [hy]; exact hiX _ hXD⟩) (fun y _ hn => hot9 y hn) (fun y hy => hg8.frm.fresh y (Nat.le_trans hg8.frm.size (by rw [← hs9]; exact hy)))
  have hf9 : Frm own w (stO w8 w3.heap.size (.deferred none)):=(hfrm4.aside hg8.frm).foreign rfl rfl rfl (Nat.le_refl _) (Nat.le_of_eq hs9.symm) (fun y => y = w3.heap.size) (fun y hy => by rw [hy]; exact hoX _ hXD) (fun y _ hn => hot9 y hn)
  have hg10:=hg9.back (fun _ h => h) hf9 (fun id' p' hp' => hg2.nam id' p' hp')
  rw [← hown] at hg10
  obtain ⟨rvs,hres,imm',pls',hrest⟩:=Ei hT hΓ hrs h4 hg10 hd8
  have hdf : (Act.addD a8 [{ target:=.collected w3.heap.size,args:=#[] }]).defers = [{ target:=.collected w3.heap.size,args:=#[] }]:=by
   unfold Act.addD
   rw [hg8.dfr]
   rfl
  show LeavesInM Fence.wide 1 P fn _ _ (Act.addD a8 _).defers .returning w8
  rw [hdf]
  refine ⟨by simp,.inl ⟨w3.heap.size,_,rfl,run_takeDeferred hD8,?_⟩⟩
  exact ⟨tupV rvs,hres,rvs,imm',pls',rfl,hrest⟩
 | _ => exact h8.elim
theorem fnOkR (hT : TblOk P T) (hΓ : CtxOk P Γ) (hmix : P.follows .mixedOrders = true) {f fB fC : FuncId} {fn : Func} {sp : Spec F} {te tsl : TypeId} {ks0 : Ks} {dr0 : List Nat} {h : Hint} (hf : P.funcs[f]? = some fn) (hnm : (fn.name == "runtime.NumGoroutine") = false) (hbn : fn.body.isNone = false) (hlen : Nat.ble sp.ks.length fn.ntmps = true)
  (hrs : sp.rs.all (fun k => !k.isBox) = true) (hentB : jI P fB) (hentC : jI P fC)
  (hB : ∀ (p : Option Addr) (n cap : Nat) (w : World),Calls P fB #[.slice p n cap] w fun e w' => e = .returned (.func (.func fC) #[] #[.pointer (some ⟨w.heap.size,0,none⟩)]) ∧ w' = w.alloc (.cells #[.slice p n cap] tsl (0,0)))
  (hC : ∀ ti,T te = some ti → AW P fC te ti.size)
  (hD : (fun a => A3 T Γ nv fn fB te ks0 dr0 h sp.ks sp.rs a) = sp.D) : FnOk P f sp :=
 GC hT hΓ hmix hf hnm hbn hlen hrs hentB hentC hB hC (fun a r h => by rw [← hD] at h; exact h)
end
end Go.Fx
