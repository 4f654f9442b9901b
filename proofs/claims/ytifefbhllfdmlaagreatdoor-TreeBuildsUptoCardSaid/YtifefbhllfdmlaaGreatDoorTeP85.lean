/-
  What functions of the chapter return, as plain functions of what they are given; no condition beyond those that each theorem names.
-/
import Derived.Test.YtifefbhllfdmlaaGreatDoorTeP84
set_option maxRecDepth 100000
set_option linter.unusedSimpArgs false
set_option linter.unusedVariables false
set_option maxHeartbeats 4000000
namespace Go.Proofs.YtifefbhllfdmlaaGreatDoor
open Go Go.Vo
open Nat (reduceAdd reduceSub reduceMul reduceLeDiff reduceLT reduceEqDiff)
open Int (reduceNeg)

abbrev Res:=LTerm × Int
def bFx (p:Res):AV:=bKm p.1 p.2
attribute [go_sem] bFx
theorem aSb {H:List AObj} {p:Res} {k n e:Int} {t s:Str} {ks rs:List LTerm} {v4 v5:AV} (h:p=(.mk k n t s ks rs,e)) (r4:Rd6 H v4 ks) (r5:Rd6 H v5 rs):Fin H (.tup [.agg [.i .i64 k,.i .i64 n,.s t,.s s,v4,v5],.i .i64 e]) (bFx p):=by
 subst h
 exact bCy (t:=.mk k n t s ks rs) r4 r5
theorem aYv {H:List AObj} {p q:Res} (h:p=q):Fin H (.tup [.agg [.i .i64 q.1.kind,.i .i64 q.1.n,.s q.1.text,.s q.1.sort,.sl (q.1.kids.flatMap aC) q.1.kids.length,.sl (q.1.rest.flatMap aC) q.1.rest.length],.i .i64 q.2]) (bFx p):=by
 subst h
 exact bCy (t:=p.1) aGy aGy

theorem bUg:(28:Nat) ≠ 3:=by decide
theorem cBu {h:List AObj}:jF Tryz.prog h .cap #[28] [.e0]=some (.i .i64 0,h):=aTo bZi
theorem bWz {dr:Option DR} {d:Option Nat} {os:List fZ} {K:List AV→List AObj→Prop} {env:List AV} {h:List AObj} {s x:Operand}:dW Tryz.prog G0 dr (.call ⟨.builtin .append,#[s,x],#[28,3]⟩) d os K env h=X7 Tryz.prog G0 dr (Tryz.prog.underlying 3) (pO Tryz.prog h 28 (aev G0 env s) (aev G0 env x)) d os K env:=vH bUg
attribute [go_sem] cBu
attribute [go_sem ↓] bWz
theorem bPz (n:Nat) (hn:n≤1000000): CT 227 [.e0,.i .i64 n] (.own 6 [] 0):=by
 refine aL mixed Tryz.func227 g0 ?_
 · skip
   (refine zs0 ?_; repeat' first | exact trivial | refine zJ ?_ ?_ | refine zH fun hc=>?_)
   · exfalso; omega
   · rw [if_pos (by omega),if_neg (by omega)]
     refine zg ?_
     refine ⟨by simp [List.length_flatten],?_⟩
     exact .inr ⟨⟨rfl,rfl,_,rfl,by simp,by simp,rfl⟩,by simp [bW],by simp [bW,jD]⟩
   · exact .inr ⟨⟨rfl,rfl⟩,by simp [bW],by simp [bW]⟩
theorem aEk {l:List (List LTerm)} {k:Nat} (h:k < l.length):(l.map avt)[k]? = some (avt (l.getD k [])):=by simp [h]
attribute [go_sem] aEk
def W4 (l:List (List LTerm)):Nat:=l.flatten.length
@[simp] theorem bSy:W4 []=0:=rfl
theorem B7 {l:List (List LTerm)} {k:Nat} (h:k < l.length):W4 (l.take (k+1))=W4 (l.take k)+(l.getD k []).length:=by
 rw [fY (d:=[]) h]; simp [W4]
theorem aOg {l:List (List LTerm)} {k:Nat}:W4 (l.take k)≤W4 l:=by
 have h:(l.take k++l.drop k).flatten.length=l.flatten.length:=by rw [fJ]
 unfold W4
 rw [kX,aE] at h
 omega
theorem aOh {l:List (List LTerm)} {k:Nat} (h:k < l.length):W4 (l.take k)+(l.getD k []).length≤W4 l:=by
 rw [← B7 h]; exact aOg
theorem bQe (l:List (List LTerm)) (hl:l.length≤1000) (hs:W4 l≤1000000): CT 189 [.sl (l.map avt) l.length] (avt l.flatten):=by
 refine aL mixed Tryz.func189 g0 ?_
 · skip
   refine bP (fun (k:Nat)=>[.k,.k,.k,.v (.i .i64 (W4 (l.take k):Nat)),.k,.j,.k,.k,.k,.k,.k,.v (.i .i64 k),.j,.j,.j,.j,.j,.j,.j,.j,.j,.j,.j,.k,.k,.k,.k,.k,.k,.k,.k,.k,.k,.k,.k,.k]) (fun k=>[]) (fun k=>k≤l.length) (fun k=>l.length - k) (0) (aG _) rfl (by simp [eN]) ?_
   rintro k j hk
   have hat:k < l.length→W4 (l.take k)+(l.getD k []).length≤W4 l:=aOh
   have hkk:=aOg (l:=l) (k:=k)
   refine zg ?_
   (refine zs0 ?_; repeat' first | exact trivial | refine zJ ?_ ?_ | refine zH fun hc=>?_)
   · exfalso; omega
   · refine ⟨k+1,by omega,by omega,?_,by simp⟩
     rw [B7 (by omega)]; simp
   · have h1:k=l.length:=by omega
     subst h1
     refine aTq (bPz (W4 l) (by omega)) (by simp -implicitDefEqProofs (disch:=omega) only [aWc,go_sem,simprocAttr]) ?_
     refine zg ?_
     refine bP (fun (t:Nat × AV × List AObj)=>[.k,.k,.k,.k,.k,.k,.v (t.2.1),.k,.j,.k,.k,.k,.k,.k,.k,.k,.k,.k,.k,.k,.k,.k,.k,.k,.k,.k,.k,.v (.i .i64 (t.1:Nat)),.j,.j,.j,.j,.j,.j,.j,.k]) (fun t=>t.2.2) (fun t=>t.1≤l.length∧dV 6 0 t.2.2 t.2.1 ((l.take t.1).flatten.flatMap aC) (W4 (l.take t.1))) (fun t=>l.length - t.1) ((0,.hs 0 0 0 false,[.arr false 6 []])) ⟨aG _,.inr ⟨0,rfl,rfl,rfl⟩⟩ rfl (by simp [eN]) ?_
     rintro ⟨k,out,g⟩ j ⟨hk,ho⟩
     dsimp only at hk ho
     have hat:k < l.length→W4 (l.take k)+(l.getD k []).length≤W4 l:=aOh
     refine zg ?_
     (refine zs0 ?_; repeat' first | exact trivial | refine zJ ?_ ?_ | refine zH fun hc=>?_)
     · refine dU (more:=[]) (pre:=[]) (news:=(l.getD k []).flatMap aC) (m:=(l.getD k []).length) ho rfl (by simp) bYp bXf bXh bYu rfl (by decide) (by simp -implicitDefEqProofs (disch:=omega) only [go_sem,simprocAttr]) (by simp -implicitDefEqProofs (disch:=omega) only [go_sem,simprocAttr]) ⟨by omega,by omega⟩ ?_
       intro out' g' ho' _
       refine zg ?_
       refine ⟨(k+1,out',g'),⟨by omega,?_⟩,by simp; omega,rfl,by simp⟩
       dsimp only
       rw [B7 (by omega),fY (d:=[]) (by omega),kX,dP]
       simpa using ho'
     · have h1:k=l.length:=by omega
       subst h1
       rw [jK] at ho
       exact bCz (bCh ho rfl)
end Go.Proofs.YtifefbhllfdmlaaGreatDoor
