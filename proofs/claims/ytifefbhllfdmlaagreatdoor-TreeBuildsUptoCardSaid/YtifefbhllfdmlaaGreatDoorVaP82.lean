/-
  What functions of the chapter return, as plain functions of what they are given; no condition beyond those that each theorem names.
-/
import Derived.Test.YtifefbhllfdmlaaGreatDoorVaP81
import Derived.Test.YtifefbhllfdmlaaGreatDoorTeP84
import Derived.Test.YtifefbhllfdmlaaGreatDoorTeP83
set_option maxRecDepth 100000
set_option linter.unusedSimpArgs false
set_option linter.unusedVariables false
set_option maxHeartbeats 4000000
namespace Go.Proofs.YtifefbhllfdmlaaGreatDoor
open Go Go.Vo
open Nat (reduceAdd reduceSub reduceMul reduceLeDiff reduceLT reduceEqDiff)
open Int (reduceNeg)

theorem aFc (u:Nat):Lib.decDigits u=if u < 10 then [UInt8.ofNat (48+u)] else Lib.decDigits (u / 10)++[UInt8.ofNat (48+u % 10)]:=by
 rw [Lib.decDigits]; split <;> rfl
theorem aFb {a b:Nat} (ha:a < 10) (hb:b < 10) (h:UInt8.ofNat (48+a)=UInt8.ofNat (48+b)):a=b:=by
 have:=congrArg UInt8.toNat h
 simp only [UInt8.toNat_ofNat'] at this
 omega
theorem bIt (u:Nat):Lib.decDigits u ≠ []:=by
 rw [aFc]; split <;> simp
theorem bDe:∀ (n:Nat) (u v:Nat),u≤n→Lib.decDigits u=Lib.decDigits v→u=v:=by
 intro n
 induction n with
 | zero=>
   intro u v hu h
   have hu0:u=0:=by omega
   subst hu0
   rw [aFc 0,if_pos (by omega),aFc v] at h
   split at h
   · rename_i hv
     exact aFb (by omega) hv (fF h).1
   · have:=congrArg List.length h
     have h2:=bIt (v / 10)
     have h3:0 < (Lib.decDigits (v / 10)).length:=yC.2 h2
     simp only [aE,aI,aX] at this; omega
 | succ n ih=>
   intro u v hu h
   rw [aFc u,aFc v] at h
   split at h <;> split at h
   · exact aFb (by assumption) (by assumption) (fF h).1
   · have:=congrArg List.length h
     have h3:0 < (Lib.decDigits (v / 10)).length:=yC.2 (bIt _)
     simp only [aE,aI,aX] at this; omega
   · have:=congrArg List.length h
     have h3:0 < (Lib.decDigits (u / 10)).length:=yC.2 (bIt _)
     simp only [aE,aI,aX] at this; omega
   · obtain ⟨e1,e2⟩:=List.append_inj' h rfl
     have i1:=ih (u / 10) (v / 10) (by omega) e1
     have i2:=aFb (Nat.mod_lt _ (by decide)) (Nat.mod_lt _ (by decide)) (fF e2).1
     omega
theorem T3:∀ (n u:Nat),u≤n→∀ c ∈ Lib.decDigits u,48≤c.toNat∧c.toNat≤57:=by
 have one:∀ a,a < 10→48≤(UInt8.ofNat (48+a)).toNat∧(UInt8.ofNat (48+a)).toNat≤57:=fun a h=>by
   simp only [UInt8.toNat_ofNat']; omega
 intro n
 induction n with
 | zero=>
   intro u hu c hc
   rw [aFc,if_pos (by omega)] at hc
   rw [aS.1 hc]; exact one _ (by omega)
 | succ n ih=>
   intro u hu c hc
   rw [aFc] at hc
   split at hc
   · rw [aS.1 hc]; exact one _ (by assumption)
   · rcases bA.1 hc with hc | hc
     · exact ih (u / 10) (by omega) c hc
     · rw [aS.1 hc]; exact one _ (Nat.mod_lt _ (by decide))
theorem aBh {n:Int} {c:UInt8} (h:c ∈ Lib.itoa n):c.toNat=45∨(48≤c.toNat∧c.toNat≤57):=by
 unfold Lib.itoa at h
 split at h
 · rcases bT.1 h with rfl | h
   · exact .inl rfl
   · exact .inr (T3 _ _ (aZ _) c h)
 · exact .inr (T3 _ _ (aZ _) c h)
theorem vZ {n m:Int} (h:Lib.itoa n=Lib.itoa m):n=m:=by
 unfold Lib.itoa at h
 have no:∀ u:Nat,∀ l,Lib.decDigits u=45::l→False:=fun u l e=>by
   have:=T3 u u (aZ _) 45 (by rw [e]; simp)
   exact absurd this.1 (by decide)
 split at h <;> split at h
 · have:=bDe _ _ _ (aZ _) (fF h).2
   omega
 · exact (no _ _ h.symm).elim
 · exact (no _ _ h).elim
 · have:=bDe _ _ _ (aZ _) h
   omega
def tokc (c:UInt8):Bool := !([32,34,40,41,44,58,91,93,123,124,125]:List UInt8).contains c
def Ends (u:Str):Prop:=∀ c v,u=c::v→tokc c=false
theorem oT:∀ {x y u v:Str},x.all tokc=true→y.all tokc=true→Ends u→Ends v→x++u=y++v→x=y∧u=v
 | [],[],u,v,_,_,_,_,h=>⟨rfl,h⟩
 | [],d::y,u,v,_,hy,hu,_,h=>by
   have:=hu d (y++v) h
   rw [eC,aA] at hy
   rw [hy.1] at this; cases this
 | c::x,[],u,v,hx,_,_,hv,h=>by
   have:=hv c (x++u) h.symm
   rw [eC,aA] at hx
   rw [hx.1] at this; cases this
 | c::x,d::y,u,v,hx,hy,hu,hv,h=>by
   rw [eC,aA] at hx hy
   rw [bR,bR,gM] at h
   have:=oT hx.2 hy.2 hu hv h.2
   exact ⟨by rw [h.1,this.1],this.2⟩
theorem aSj {c:UInt8} {v:Str} (h:tokc c=false):Ends (c::v):=fun d w e=>by cases e; exact h
theorem aVn {c:UInt8} (h:part c.toNat=true):tokc c=true:=by
 have key:∀ c:Fin 256,part (c.val:Int)=true→tokc (UInt8.ofNat c.val)=true:=by decide +kernel
 have:=key ⟨c.toNat,c.toNat_lt⟩ h
 simpa using this
theorem bFe {c:UInt8} (h:c.toNat=45∨(48≤c.toNat∧c.toNat≤57)):tokc c=true:=by
 have key:∀ c:Fin 256,(c.val=45∨(48≤c.val∧c.val≤57))→tokc (UInt8.ofNat c.val)=true:=by decide +kernel
 have:=key ⟨c.toNat,c.toNat_lt⟩ h
 simpa using this
theorem aHq {s:Str} (h:dN s=true):s.all tokc=true:=by
 simp only [dN,aA,aN] at h
 exact aN.2 fun c hc=>aVn (h.2 c hc)
theorem aRq {s:Str}:(frame s).all tokc=true:=by
 unfold frame
 split
 · rename_i h
   simp only [nG,aA,decide_eq_true_eq] at h
   obtain ⟨⟨⟨h1,h2⟩,h3⟩,h4⟩:=h
   have e:s.drop (s.length - 2)=[s.getD (s.length - 2) 0,s.getD (s.length - 1) 0]:=by
     rw [bH (by omega),bH (by omega),aY (by omega)]
     simp [List.getD,show s.length - 2 < s.length by omega,show s.length - 1 < s.length by omega,show s.length - 2+1=s.length - 1 by omega]
   rw [e]
   unfold at_ at h2 h3 h4
   generalize s.getD (s.length - 2) 0=a at *
   generalize s.getD (s.length - 1) 0=b at *
   have k1:∀ c:Fin 256,(c.val:Int)=39→tokc (UInt8.ofNat c.val)=true:=by decide +kernel
   have k2:∀ c:Fin 256,49≤(c.val:Int)→(c.val:Int)≤56→tokc (UInt8.ofNat c.val)=true:=by decide +kernel
   have r1:=k1 ⟨a.toNat,a.toNat_lt⟩ h2
   have r2:=k2 ⟨b.toNat,b.toNat_lt⟩ h3 h4
   simp only [UInt8.ofNat_toNat] at r1 r2
   simp [r1,r2]
 · rfl
theorem bMg {s:Str} (h:yM s=true):s.all tokc=true:=by
 have e:=P2 s
 rw [← e,iY,aHq (by exact h),aRq]; rfl
end Go.Proofs.YtifefbhllfdmlaaGreatDoor
