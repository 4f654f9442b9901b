/-
  What functions of the chapter return, as plain functions of what they are given; no condition beyond those that each theorem names.
-/
import Derived.Test.YtifefbhllfdmlaaGreatDoorTeP124
set_option maxRecDepth 100000
set_option linter.unusedSimpArgs false
set_option linter.unusedVariables false
set_option maxHeartbeats 4000000
namespace Go.Proofs.YtifefbhllfdmlaaGreatDoor
open Go Go.Vo
open Nat (reduceAdd reduceSub reduceMul reduceLeDiff reduceLT reduceEqDiff)
open Int (reduceNeg)



theorem bKk:(28:Nat) ≠ 3:=by decide
theorem bRo {h:List AObj}:iX Tryz.prog h .cap #[28] [.e0]=some (.i .i64 0,h):=aNb bPf
theorem bMu {dr:Option DR} {d:Option Nat} {os:List fI} {K:List AV→List AObj→Prop} {env:List AV} {h:List AObj} {s x:Operand}:dW Tryz.prog G0 dr (.call ⟨.builtin .append,#[s,x],#[28,3]⟩) d os K env h=N4 Tryz.prog G0 dr (Tryz.prog.underlying 3) (nR Tryz.prog h 28 (aev G0 env s) (aev G0 env x)) d os K env:=sV bKk
attribute [go_sem] bRo
attribute [go_sem ↓] bMu
theorem bGi (n:Nat) (hn:n≤1000000): CT 227 [.e0,.i .i64 n] (.own 6 [] 0):=by
 refine aQ mixed Tryz.func227 g0 ?_
 · skip
   (refine zs0 ?_; repeat' first | exact trivial | refine zJ ?_ ?_ | refine zH fun hc=>?_)
   · exfalso; omega
   · rw [if_pos (by omega),if_neg (by omega)]
     refine zg ?_
     refine ⟨by simp [List.length_flatten],?_⟩
     exact .inr ⟨⟨rfl,rfl,_,rfl,by simp,by simp,rfl⟩,by simp [cD],by simp [cD,iW]⟩
   · exact .inr ⟨⟨rfl,rfl⟩,by simp [cD],by simp [cD]⟩
theorem Z5 {l:List (List LTerm)} {k:Nat} (h:k < l.length):(l.map avt)[k]? = some (avt (l.getD k [])):=by simp [h]
attribute [go_sem] Z5
def M0 (l:List (List LTerm)):Nat:=l.flatten.length
@[simp] theorem bIv:M0 []=0:=rfl
theorem xH {l:List (List LTerm)} {k:Nat} (h:k < l.length):M0 (l.take (k+1))=M0 (l.take k)+(l.getD k []).length:=by
 rw [fZ (d:=[]) h]; simp [M0]
theorem aIg {l:List (List LTerm)} {k:Nat}:M0 (l.take k)≤M0 l:=by
 have h:(l.take k++l.drop k).flatten.length=l.flatten.length:=by rw [eV]
 unfold M0
 rw [kO,aG] at h
 omega
theorem aIh {l:List (List LTerm)} {k:Nat} (h:k < l.length):M0 (l.take k)+(l.getD k []).length≤M0 l:=by
 rw [← xH h]; exact aIg
theorem bGm (l:List (List LTerm)) (hl:l.length≤1000) (hs:M0 l≤1000000): CT 189 [.sl (l.map avt) l.length] (avt l.flatten):=by
 refine aQ mixed Tryz.func189 g0 ?_
 · skip
   refine dD (fun (k:Nat)=>[.k,.k,.k,.v (.i .i64 (M0 (l.take k):Nat)),.k,.j,.k,.k,.k,.k,.k,.v (.i .i64 k),.j,.j,.j,.j,.j,.j,.j,.j,.j,.j,.j,.k,.k,.k,.k,.k,.k,.k,.k,.k,.k,.k,.k,.k]) (fun k=>[]) (fun k=>k≤l.length) (fun k=>l.length - k) (0) (aT _) rfl (by simp [iL]) ?_
   rintro k j hk
   have hat:k < l.length→M0 (l.take k)+(l.getD k []).length≤M0 l:=aIh
   have hkk:=aIg (l:=l) (k:=k)
   refine zg ?_
   (refine zs0 ?_; repeat' first | exact trivial | refine zJ ?_ ?_ | refine zH fun hc=>?_)
   · exfalso; omega
   · refine ⟨k+1,by omega,by omega,?_,by simp⟩
     rw [xH (by omega)]; simp
   · have h1:k=l.length:=by omega
     subst h1
     refine aNd (bGi (M0 l) (by omega)) (by simp -implicitDefEqProofs (disch:=omega) only [aPo,go_sem,simprocAttr]) ?_
     refine zg ?_
     refine dD (fun (t:Nat × AV × List AObj)=>[.k,.k,.k,.k,.k,.k,.v (t.2.1),.k,.j,.k,.k,.k,.k,.k,.k,.k,.k,.k,.k,.k,.k,.k,.k,.k,.k,.k,.k,.v (.i .i64 (t.1:Nat)),.j,.j,.j,.j,.j,.j,.j,.k]) (fun t=>t.2.2) (fun t=>t.1≤l.length∧fD 6 0 t.2.2 t.2.1 ((l.take t.1).flatten.flatMap aE) (M0 (l.take t.1))) (fun t=>l.length - t.1) ((0,.hs 0 0 0 false,[.arr false 6 []])) ⟨aT _,.inr ⟨0,rfl,rfl,rfl⟩⟩ rfl (by simp [iL]) ?_
     rintro ⟨k,out,g⟩ j ⟨hk,ho⟩
     dsimp only at hk ho
     have hat:k < l.length→M0 (l.take k)+(l.getD k []).length≤M0 l:=aIh
     refine zg ?_
     (refine zs0 ?_; repeat' first | exact trivial | refine zJ ?_ ?_ | refine zH fun hc=>?_)
     · refine fE (more:=[]) (pre:=[]) (news:=(l.getD k []).flatMap aE) (m:=(l.getD k []).length) ho rfl (by simp) bLy bJl bJw bMo rfl (by decide) (by simp -implicitDefEqProofs (disch:=omega) only [go_sem,simprocAttr]) (by simp -implicitDefEqProofs (disch:=omega) only [go_sem,simprocAttr]) ⟨by omega,by omega⟩ ?_
       intro out' g' ho' _
       refine zg ?_
       refine ⟨(k+1,out',g'),⟨by omega,?_⟩,by simp; omega,rfl,by simp⟩
       dsimp only
       rw [xH (by omega),fZ (d:=[]) (by omega),kO,eJ]
       simpa using ho'
     · have h1:k=l.length:=by omega
       subst h1
       rw [jB] at ho
       exact aVu (aVf ho rfl)
end Go.Proofs.YtifefbhllfdmlaaGreatDoor
