/-
  What functions of the chapter return, as plain functions of what they are given; no condition beyond those that each theorem names.
-/
import Derived.Test.YtifefbhllfdmlaaGreatDoorVaP121
import Derived.Test.YtifefbhllfdmlaaGreatDoorTeP124
import Derived.Test.YtifefbhllfdmlaaGreatDoorTeP123
set_option maxRecDepth 100000
set_option linter.unusedSimpArgs false
set_option linter.unusedVariables false
set_option maxHeartbeats 4000000
namespace Go.Proofs.YtifefbhllfdmlaaGreatDoor
open Go Go.Vo
open Nat (reduceAdd reduceSub reduceMul reduceLeDiff reduceLT reduceEqDiff)
open Int (reduceNeg)

theorem aAl (u:Nat):Lib.decDigits u=if u < 10 then [UInt8.ofNat (48+u)] else Lib.decDigits (u / 10)++[UInt8.ofNat (48+u % 10)]:=by
 rw [Lib.decDigits]; split <;> rfl
theorem aAk {a b:Nat} (ha:a < 10) (hb:b < 10) (h:UInt8.ofNat (48+a)=UInt8.ofNat (48+b)):a=b:=by
 have:=congrArg UInt8.toNat h
 simp only [UInt8.toNat_ofNat'] at this
 omega
theorem bAq (u:Nat):Lib.decDigits u ≠ []:=by
 rw [aAl]; split <;> simp
theorem aVz:∀ (n:Nat) (u v:Nat),u≤n→Lib.decDigits u=Lib.decDigits v→u=v:=by
 intro n
 induction n with
 | zero=>
   intro u v hu h
   have hu0:u=0:=by omega
   subst hu0
   rw [aAl 0,if_pos (by omega),aAl v] at h
   split at h
   · rename_i hv
     exact aAk (by omega) hv (eU h).1
   · have:=congrArg List.length h
     have h2:=bAq (v / 10)
     have h3:0 < (Lib.decDigits (v / 10)).length:=aOp.2 h2
     simp only [aG,aD,aY] at this; omega
 | succ n ih=>
   intro u v hu h
   rw [aAl u,aAl v] at h
   split at h <;> split at h
   · exact aAk (by assumption) (by assumption) (eU h).1
   · have:=congrArg List.length h
     have h3:0 < (Lib.decDigits (v / 10)).length:=aOp.2 (bAq _)
     simp only [aG,aD,aY] at this; omega
   · have:=congrArg List.length h
     have h3:0 < (Lib.decDigits (u / 10)).length:=aOp.2 (bAq _)
     simp only [aG,aD,aY] at this; omega
   · obtain ⟨e1,e2⟩:=List.append_inj' h rfl
     have i1:=ih (u / 10) (v / 10) (by omega) e1
     have i2:=aAk (Nat.mod_lt _ (by decide)) (Nat.mod_lt _ (by decide)) (eU e2).1
     omega
theorem I9:∀ (n u:Nat),u≤n→∀ c ∈ Lib.decDigits u,48≤c.toNat∧c.toNat≤57:=by
 have one:∀ a,a < 10→48≤(UInt8.ofNat (48+a)).toNat∧(UInt8.ofNat (48+a)).toNat≤57:=fun a h=>by
   simp only [UInt8.toNat_ofNat']; omega
 intro n
 induction n with
 | zero=>
   intro u hu c hc
   rw [aAl,if_pos (by omega)] at hc
   rw [bA.1 hc]; exact one _ (by omega)
 | succ n ih=>
   intro u hu c hc
   rw [aAl] at hc
   split at hc
   · rw [bA.1 hc]; exact one _ (by assumption)
   · rcases bN.1 hc with hc | hc
     · exact ih (u / 10) (by omega) c hc
     · rw [bA.1 hc]; exact one _ (Nat.mod_lt _ (by decide))
theorem S1 {n:Int} {c:UInt8} (h:c ∈ Lib.itoa n):c.toNat=45∨(48≤c.toNat∧c.toNat≤57):=by
 unfold Lib.itoa at h
 split at h
 · rcases cH.1 h with rfl | h
   · exact .inl rfl
   · exact .inr (I9 _ _ (aX _) c h)
 · exact .inr (I9 _ _ (aX _) c h)
theorem tG {n m:Int} (h:Lib.itoa n=Lib.itoa m):n=m:=by
 unfold Lib.itoa at h
 have no:∀ u:Nat,∀ l,Lib.decDigits u=45::l→False:=fun u l e=>by
   have:=I9 u u (aX _) 45 (by rw [e]; simp)
   exact absurd this.1 (by decide)
 split at h <;> split at h
 · have:=aVz _ _ _ (aX _) (eU h).2
   omega
 · exact (no _ _ h.symm).elim
 · exact (no _ _ h).elim
 · have:=aVz _ _ _ (aX _) h
   omega
def tokc (c:UInt8):Bool := !([32,34,40,41,44,58,91,93,123,124,125]:List UInt8).contains c
def Ends (u:Str):Prop:=∀ c v,u=c::v→tokc c=false
theorem nF:∀ {x y u v:Str},x.all tokc=true→y.all tokc=true→Ends u→Ends v→x++u=y++v→x=y∧u=v
 | [],[],u,v,_,_,_,_,h=>⟨rfl,h⟩
 | [],d::y,u,v,_,hy,hu,_,h=>by
   have:=hu d (y++v) h
   rw [hY,aB] at hy
   rw [hy.1] at this; cases this
 | c::x,[],u,v,hx,_,_,hv,h=>by
   have:=hv c (x++u) h.symm
   rw [hY,aB] at hx
   rw [hx.1] at this; cases this
 | c::x,d::y,u,v,hx,hy,hu,hv,h=>by
   rw [hY,aB] at hx hy
   rw [aU,aU,gE] at h
   have:=nF hx.2 hy.2 hu hv h.2
   exact ⟨by rw [h.1,this.1],this.2⟩
theorem aMc {c:UInt8} {v:Str} (h:tokc c=false):Ends (c::v):=fun d w e=>by cases e; exact h
theorem aPb {c:UInt8} (h:part c.toNat=true):tokc c=true:=by
 have key:∀ c:Fin 256,part (c.val:Int)=true→tokc (UInt8.ofNat c.val)=true:=by decide +kernel
 have:=key ⟨c.toNat,c.toNat_lt⟩ h
 simpa using this
theorem aXi {c:UInt8} (h:c.toNat=45∨(48≤c.toNat∧c.toNat≤57)):tokc c=true:=by
 have key:∀ c:Fin 256,(c.val=45∨(48≤c.val∧c.val≤57))→tokc (UInt8.ofNat c.val)=true:=by decide +kernel
 have:=key ⟨c.toNat,c.toNat_lt⟩ h
 simpa using this
theorem aCh {s:Str} (h:gG s=true):s.all tokc=true:=by
 simp only [gG,aB,aV] at h
 exact aV.2 fun c hc=>aPb (h.2 c hc)
theorem aLo {s:Str}:(frame s).all tokc=true:=by
 unfold frame
 split
 · rename_i h
   simp only [rT,aB,decide_eq_true_eq] at h
   obtain ⟨⟨⟨h1,h2⟩,h3⟩,h4⟩:=h
   have e:s.drop (s.length - 2)=[s.getD (s.length - 2) 0,s.getD (s.length - 1) 0]:=by
     rw [cP (by omega),cP (by omega),cK (by omega)]
     simp [List.getD,show s.length - 2 < s.length by omega,show s.length - 1 < s.length by omega,show s.length - 2+1=s.length - 1 by omega]
   rw [e]
   unfold at_ at h2 h3 h4
   generalize s.getD (s.length - 2) 0=a at *
   generalize s.getD (s.length - 1) 0=b at *
   have k1:∀ c:Fin 256,(c.val:Int)=39→tokc (UInt8.ofNat c.val)=true:=by decide +kernel
   have k2:∀ c:Fin 256,49≤(c.val:Int)→(c.val:Int)≤56→tokc (UInt8.ofNat c.val)=true:=by decide +kernel
   have r1:=k1 ⟨a.toNat,a.toNat_lt⟩ h2
   have r2:=k2 ⟨b.toNat,b.toNat_lt⟩ h3 h4
   simp only [UInt8.ofNat_toNat] at r1 r2
   simp [r1,r2]
 · rfl
theorem bDv {s:Str} (h:D8 s=true):s.all tokc=true:=by
 have e:=F9 s
 rw [← e,jZ,aCh (by exact h),aLo]; rfl
end Go.Proofs.YtifefbhllfdmlaaGreatDoor
