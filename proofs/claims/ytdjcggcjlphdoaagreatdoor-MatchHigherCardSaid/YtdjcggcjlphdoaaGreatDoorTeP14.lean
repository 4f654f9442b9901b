/-
  Functions of the chapter, as plain functions of what they are given; no condition.
-/
import Derived.Test.YtdjcggcjlphdoaaGreatDoorTeP13
import Derived.Test.YtdjcggcjlphdoaaGreatDoorSoP13
import Derived.Test.YtdjcggcjlphdoaaGreatDoorVoP17
set_option maxRecDepth 100000
set_option linter.unusedSimpArgs false
set_option linter.unusedVariables false
set_option maxHeartbeats 4000000
namespace Go.Proofs.YtdjcggcjlphdoaaGreatDoor
open Go Go.Vo
open Nat (reduceAdd reduceSub reduceMul reduceLeDiff reduceLT reduceEqDiff)
open Int (reduceNeg)




theorem bOq:(28:Nat) ≠ 3:=by decide
theorem bVz {h:List AObj}:iU Tryz.prog h .cap #[28] [.e0]=some (.i .i64 0,h):=aZv bTl
theorem bQx {dr:Option DR} {d:Option Nat} {os:List fE} {K:List AV→List AObj→Prop} {env:List AV} {h:List AObj} {s x:Operand}:eB Tryz.prog G0 dr (.call ⟨.builtin .append,#[s,x],#[28,3]⟩) d os K env h=aDu Tryz.prog G0 dr (Tryz.prog.underlying 3) (qD Tryz.prog h 28 (aev G0 env s) (aev G0 env x)) d os K env:=zG bOq
attribute [go_sem] bVz
attribute [go_sem ↓] bQx
theorem bKk (n:Nat) (hn:n≤1000000): CT 220 [.e0,.i .i64 n] (.own 6 [] 0):=by
 refine bY cU Tryz.func220 g0 ?_
 · skip
   (refine zs0 ?_; repeat' first | exact trivial | refine zJ ?_ ?_ | refine zH fun hc=>?_)
   · exfalso; omega
   · rw [if_pos (by omega),if_neg (by omega)]
     refine zg ?_
     refine ⟨by simp [List.length_flatten],?_⟩
     exact .inr ⟨⟨rfl,rfl,_,rfl,by simp,by simp,rfl⟩,by simp [cV],by simp [cV,jJ]⟩
   · exact .inr ⟨⟨rfl,rfl⟩,by simp [cV],by simp [cV]⟩
theorem aCj {l:List (List LTerm)} {k:Nat} (h:k < l.length):(l.map avt)[k]? = some (avt (l.getD k [])):=by simp [h]
attribute [go_sem] aCj
def R4 (l:List (List LTerm)):Nat:=l.flatten.length
@[simp] theorem bNa:R4 []=0:=rfl
theorem yP {l:List (List LTerm)} {k:Nat} (h:k < l.length):R4 (l.take (k+1))=R4 (l.take k)+(l.getD k []).length:=by
 rw [eN (d:=[]) h]; simp [R4]
theorem aKy {l:List (List LTerm)} {k:Nat}:R4 (l.take k)≤R4 l:=by
 have h:(l.take k++l.drop k).flatten.length=l.flatten.length:=by rw [eF]
 unfold R4
 rw [wT,List.length_append] at h
 omega
theorem aKz {l:List (List LTerm)} {k:Nat} (h:k < l.length):R4 (l.take k)+(l.getD k []).length≤R4 l:=by
 rw [← yP h]; exact aKy
theorem bKo (l:List (List LTerm)) (hl:l.length≤1000) (hs:R4 l≤1000000): CT 164 [.sl (l.map avt) l.length] (avt l.flatten):=by
 refine bY cU Tryz.func164 g0 ?_
 · skip
   refine dB (fun (k:Nat)=>(.k::.k::.k::.v (.i .i64 (R4 (l.take k):Nat))::.k::.j::(rp 5 .k (.v (.i .i64 k)::(rp 11 .j (rp 13 .k [])))))) (fun k=>[]) (fun k=>k≤l.length) (fun k=>l.length - k) (0) (bJ _) rfl (by simp [gX]) ?_
   rintro k j hk
   have hat:k < l.length→R4 (l.take k)+(l.getD k []).length≤R4 l:=aKz
   have hkk:=aKy (l:=l) (k:=k)
   refine zg ?_
   (refine zs0 ?_; repeat' first | exact trivial | refine zJ ?_ ?_ | refine zH fun hc=>?_)
   · exfalso; omega
   · refine ⟨k+1,by omega,by omega,?_,by simp⟩
     rw [yP (by omega)]; simp
   · have h1:k=l.length:=by omega
     subst h1
     refine aZw (bKk (R4 l) (by omega)) (by simp -implicitDefEqProofs (disch:=omega) only [bAx,go_sem,simprocAttr]) ?_
     refine zg ?_
     refine dB (fun (t:Nat × AV × List AObj)=>(rp 6 .k (.v (t.2.1)::.k::.j::(rp 18 .k (.v (.i .i64 (t.1:Nat))::(rp 7 .j [.k])))))) (fun t=>t.2.2) (fun t=>t.1≤l.length∧gW 6 0 t.2.2 t.2.1 ((l.take t.1).flatten.flatMap aV) (R4 (l.take t.1))) (fun t=>l.length - t.1) ((0,.hs 0 0 0 false,[.arr false 6 []])) ⟨bJ _,.inr ⟨0,rfl,rfl,rfl⟩⟩ rfl (by simp [gX]) ?_
     rintro ⟨k,out,g⟩ j ⟨hk,ho⟩
     dsimp only at hk ho
     have hat:k < l.length→R4 (l.take k)+(l.getD k []).length≤R4 l:=aKz
     refine zg ?_
     (refine zs0 ?_; repeat' first | exact trivial | refine zJ ?_ ?_ | refine zH fun hc=>?_)
     · refine eK (more:=[]) (pre:=[]) (news:=(l.getD k []).flatMap aV) (m:=(l.getD k []).length) ho rfl (by simp) aZb aXm aXq aZx rfl (by decide) (by simp -implicitDefEqProofs (disch:=omega) only [go_sem,simprocAttr]) (by simp -implicitDefEqProofs (disch:=omega) only [go_sem,simprocAttr]) ⟨by omega,by omega⟩ ?_
       intro out' g' ho' _
       refine zg ?_
       refine ⟨(k+1,out',g'),⟨by omega,?_⟩,by simp; omega,rfl,by simp⟩
       dsimp only
       rw [yP (by omega),eN (d:=[]) (by omega),wT,List.flatMap_append]
       simpa using ho'
     · have h1:k=l.length:=by omega
       subst h1
       rw [gY] at ho
       exact aYw (aYc ho rfl)
end Go.Proofs.YtdjcggcjlphdoaaGreatDoor
