/-
  What functions of the chapter return, as plain functions of what they are given; no condition beyond those that each theorem names.
-/
import Derived.Test.YtifefbhllfdmlaaGreatDoorTeP103
import Derived.Test.YtifefbhllfdmlaaGreatDoorSoP103
import Derived.Test.YtifefbhllfdmlaaGreatDoorVoP106
set_option maxRecDepth 100000
set_option linter.unusedSimpArgs false
set_option linter.unusedVariables false
set_option maxHeartbeats 4000000
namespace Go.Proofs.YtifefbhllfdmlaaGreatDoor
open Go Go.Vo
open Nat (reduceAdd reduceSub reduceMul reduceLeDiff reduceLT reduceEqDiff)
open Int (reduceNeg)

theorem aAg (n:Int) (h0 : -9223372036854775808≤n) (h1:n≤9223372036854775807):CT 178 [.i .i64 n] (.s (Lib.itoa n)):=by
 refine ⟨by kernel_rfl,g0,?_⟩
 intro F w vs hF hgl hl hr
 obtain ⟨v0,rfl⟩:=aZh hl
 have e0:=tG (hr 0 _ v0 rfl rfl)
 subst e0
 refine (Tryz.strconv_Itoa n h0 h1 w (bGh (by kernel_rfl) (hgl 2 (.box M8 0) rfl))).mono ?_
 rintro e w' ⟨rfl,k,os,rfl⟩
 have hgr:yP w (Sort.grow (w.drewN k) os):=by
   refine ⟨fun b hb=>?_,?_,rfl,rfl,rfl⟩
   · simp only [Sort.grow,World.drewN]; rw [fL hb]
   · simp only [Sort.grow,World.drewN,Array.size_append]; omega
 exact ⟨_,F,[],rfl,hgr,fun _ h=>h,fun _ h=>.inl h,fun b hb=>eF (hF b hb) hgr.size,RR.val (.s _),eS,by simp⟩



theorem bQw:(28:Nat) ≠ 3:=by decide
theorem bYm {h:List AObj}:jB Tryz.prog h .cap #[28] [.e0]=some (.i .i64 0,h):=aQz bVx
theorem bTq {dr:Option DR} {d:Option Nat} {os:List fR} {K:List AV→List AObj→Prop} {env:List AV} {h:List AObj} {s x:Operand}:dS Tryz.prog G0 dr (.call ⟨.builtin .append,#[s,x],#[28,3]⟩) d os K env h=S1 Tryz.prog G0 dr (Tryz.prog.underlying 3) (pT Tryz.prog h 28 (aev G0 env s) (aev G0 env x)) d os K env:=uV bQw
attribute [go_sem] bYm
attribute [go_sem ↓] bTq
theorem bMd (n:Nat) (hn:n≤1000000): CT 227 [.e0,.i .i64 n] (.own 6 [] 0):=by
 refine aE mixed Tryz.func227 g0 ?_
 · skip
   (refine zs0 ?_; repeat' first | exact trivial | refine zJ ?_ ?_ | refine zH fun hc=>?_)
   · exfalso; omega
   · rw [if_pos (by omega),if_neg (by omega)]
     refine zg ?_
     refine ⟨by simp [List.length_flatten],?_⟩
     exact .inr ⟨⟨rfl,rfl,_,rfl,by simp,by simp,rfl⟩,by simp [bY],by simp [bY,jA]⟩
   · exact .inr ⟨⟨rfl,rfl⟩,by simp [bY],by simp [bY]⟩
theorem aCh {l:List (List LTerm)} {k:Nat} (h:k < l.length):(l.map avt)[k]? = some (avt (l.getD k [])):=by simp [h]
attribute [go_sem] aCh
def R4 (l:List (List LTerm)):Nat:=l.flatten.length
@[simp] theorem bPi:R4 []=0:=rfl
theorem zQ {l:List (List LTerm)} {k:Nat} (h:k < l.length):R4 (l.take (k+1))=R4 (l.take k)+(l.getD k []).length:=by
 rw [eH (d:=[]) h]; simp [R4]
theorem aLp {l:List (List LTerm)} {k:Nat}:R4 (l.take k)≤R4 l:=by
 have h:(l.take k++l.drop k).flatten.length=l.flatten.length:=by rw [eL]
 unfold R4
 rw [kP,List.length_append] at h
 omega
theorem aLq {l:List (List LTerm)} {k:Nat} (h:k < l.length):R4 (l.take k)+(l.getD k []).length≤R4 l:=by
 rw [← zQ h]; exact aLp
theorem bMi (l:List (List LTerm)) (hl:l.length≤1000) (hs:R4 l≤1000000): CT 189 [.sl (l.map avt) l.length] (avt l.flatten):=by
 refine aE mixed Tryz.func189 g0 ?_
 · skip
   refine bQ (fun (k:Nat)=>[.k,.k,.k,.v (.i .i64 (R4 (l.take k):Nat)),.k,.j,.k,.k,.k,.k,.k,.v (.i .i64 k),.j,.j,.j,.j,.j,.j,.j,.j,.j,.j,.j,.k,.k,.k,.k,.k,.k,.k,.k,.k,.k,.k,.k,.k]) (fun k=>[]) (fun k=>k≤l.length) (fun k=>l.length - k) (0) (aF _) rfl (by simp [fD]) ?_
   rintro k j hk
   have hat:k < l.length→R4 (l.take k)+(l.getD k []).length≤R4 l:=aLq
   have hkk:=aLp (l:=l) (k:=k)
   refine zg ?_
   (refine zs0 ?_; repeat' first | exact trivial | refine zJ ?_ ?_ | refine zH fun hc=>?_)
   · exfalso; omega
   · refine ⟨k+1,by omega,by omega,?_,by simp⟩
     rw [zQ (by omega)]; simp
   · have h1:k=l.length:=by omega
     subst h1
     refine aRb (bMd (R4 l) (by omega)) (by simp -implicitDefEqProofs (disch:=omega) only [aTj,go_sem,simprocAttr]) ?_
     refine zg ?_
     refine bQ (fun (t:Nat × AV × List AObj)=>[.k,.k,.k,.k,.k,.k,.v (t.2.1),.k,.j,.k,.k,.k,.k,.k,.k,.k,.k,.k,.k,.k,.k,.k,.k,.k,.k,.k,.k,.v (.i .i64 (t.1:Nat)),.j,.j,.j,.j,.j,.j,.j,.k]) (fun t=>t.2.2) (fun t=>t.1≤l.length∧eP 6 0 t.2.2 t.2.1 ((l.take t.1).flatten.flatMap aA) (R4 (l.take t.1))) (fun t=>l.length - t.1) ((0,.hs 0 0 0 false,[.arr false 6 []])) ⟨aF _,.inr ⟨0,rfl,rfl,rfl⟩⟩ rfl (by simp [fD]) ?_
     rintro ⟨k,out,g⟩ j ⟨hk,ho⟩
     dsimp only at hk ho
     have hat:k < l.length→R4 (l.take k)+(l.getD k []).length≤R4 l:=aLq
     refine zg ?_
     (refine zs0 ?_; repeat' first | exact trivial | refine zJ ?_ ?_ | refine zH fun hc=>?_)
     · refine eD (more:=[]) (pre:=[]) (news:=(l.getD k []).flatMap aA) (m:=(l.getD k []).length) ho rfl (by simp) bVc bTw bTy bVg rfl (by decide) (by simp -implicitDefEqProofs (disch:=omega) only [go_sem,simprocAttr]) (by simp -implicitDefEqProofs (disch:=omega) only [go_sem,simprocAttr]) ⟨by omega,by omega⟩ ?_
       intro out' g' ho' _
       refine zg ?_
       refine ⟨(k+1,out',g'),⟨by omega,?_⟩,by simp; omega,rfl,by simp⟩
       dsimp only
       rw [zQ (by omega),eH (d:=[]) (by omega),kP,dN]
       simpa using ho'
     · have h1:k=l.length:=by omega
       subst h1
       rw [iJ] at ho
       exact aZv (aZd ho rfl)
end Go.Proofs.YtifefbhllfdmlaaGreatDoor
