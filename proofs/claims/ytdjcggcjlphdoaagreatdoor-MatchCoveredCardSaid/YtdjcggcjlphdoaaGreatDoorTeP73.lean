/-
  Functions of the chapter, as plain functions of what they are given; no condition.
-/
import Derived.Test.YtdjcggcjlphdoaaGreatDoorTeP72
import Derived.Test.YtdjcggcjlphdoaaGreatDoorSoP73
import Derived.Test.YtdjcggcjlphdoaaGreatDoorVoP77
set_option maxRecDepth 100000
set_option linter.unusedSimpArgs false
set_option linter.unusedVariables false
set_option maxHeartbeats 4000000
namespace Go.Proofs.YtdjcggcjlphdoaaGreatDoor
open Go Go.Vo
open Nat (reduceAdd reduceSub reduceMul reduceLeDiff reduceLT reduceEqDiff)
open Int (reduceNeg)
theorem bUj(n:Int)(h0 : -9223372036854775808≤n)(h1:n≤9223372036854775807):CT 139 [.i .i64 n] (.s (Lib.itoa n)):=by
 refine⟨by kernel_rfl,g0,?_⟩;intro F w vs hF hgl hl hr;obtain⟨v0,rfl⟩:=bGa hl;have e0:=qI (hr 0 _ v0 rfl rfl);subst e0;refine(Tryz.strconv_Itoa n h0 h1 w (bOg (by kernel_rfl) (hgl 2 (.box Y0 0) rfl))).mono ?_;rintro e w' ⟨rfl,k,os,rfl⟩;have hgr:F9 w (Sort.grow (w.drewN k) os):=by
  refine⟨fun b hb=>?_,?_,rfl,rfl,rfl⟩
  ·simp only[Sort.grow,World.drewN];rw[dT hb]
  ·simp only[Sort.grow,World.drewN,jD];omega
 exact⟨_,F,[],rfl,hgr,fun _ h=>h,fun _ h=>.inl h,fun b hb=>gD (hF b hb) hgr.size,RR.val (.s _),fL,by simp⟩
theorem bYx:(28:Nat)≠3:=by decide
theorem cGo{h:List AObj}:iK Tryz.prog h .cap #[28] [.e0]=some (.i .i64 0,h):=bIa cDz
theorem cBe{dr:Option DR}{d:Option Nat}{os:List fZ}{K:List AV→List AObj→Prop}{env:List AV}{h:List AObj}{s x:Operand}:fB Tryz.prog G0 dr (.call ⟨.builtin .append,#[s,x],#[28,3]⟩) d os K env h=aJd Tryz.prog G0 dr (Tryz.prog.underlying 3) (rS Tryz.prog h 28 (aev G0 env s) (aev G0 env x)) d os K env:=I8 bYx
attribute [go_sem] cGo
attribute [go_sem ↓] cBe
theorem bUf(n:Nat)(hn:n≤1000000): CT 220 [.e0,.i .i64 n] (.own 6 [] 0):=by
 refine cI dE Tryz.func220 g0 ?_
 ·skip;(refine zs0 ?_;repeat' first|exact trivial|refine zJ ?_ ?_|refine zH fun hc=>?_)
  ·exfalso;omega
  ·rw[if_pos (by omega),if_neg (by omega)];refine zg ?_;refine⟨by simp[List.length_flatten],?_⟩;exact .inr ⟨⟨rfl,rfl,_,rfl,by simp,by simp,rfl⟩,by simp[dN],by simp[dN,kC]⟩
  ·exact .inr ⟨⟨rfl,rfl⟩,by simp[dN],by simp[dN]⟩
theorem aHj{l:List (List LTerm)}{k:Nat}(h:k<l.length):(l.map avt)[k]? = some (avt (l.getD k [])):=by simp[h]
attribute [go_sem] aHj
def aBn(l:List (List LTerm)):Nat:=l.flatten.length
@[simp] theorem bWy:aBn []=0:=rfl
theorem G9{l:List (List LTerm)}{k:Nat}(h:k<l.length):aBn (l.take (k+1))=aBn (l.take k)+(l.getD k []).length:=by
 rw[fI (d:=[]) h];simp[aBn]
theorem aQr{l:List (List LTerm)}{k:Nat}:aBn (l.take k)≤aBn l:=by
 have h:(l.take k++l.drop k).flatten.length=l.flatten.length:=by rw[dU]
 unfold aBn;rw[zW,List.length_append]at h;omega
theorem aQs{l:List (List LTerm)}{k:Nat}(h:k<l.length):aBn (l.take k)+(l.getD k []).length≤aBn l:=by
 rw[← G9 h];exact aQr
theorem bUk(l:List (List LTerm))(hl:l.length≤1000)(hs:aBn l≤1000000): CT 164 [.sl (l.map avt) l.length] (avt l.flatten):=by
 refine cI dE Tryz.func164 g0 ?_
 ·skip;refine dV (fun(k:Nat)=>(.k::.k::.k::.v (.i .i64 (aBn (l.take k):Nat))::.k::.j::(rp 5 .k (.v (.i .i64 k)::(rp 11 .j (rp 13 .k [])))))) (fun k=>[]) (fun k=>k≤l.length) (fun k=>l.length-k) (0) (bX _) rfl (by simp[iS]) ?_;rintro k j hk;have hat:k<l.length→aBn (l.take k)+(l.getD k []).length≤aBn l:=aQs;have hkk:=aQr (l:=l) (k:=k);refine zg ?_;(refine zs0 ?_;repeat' first|exact trivial|refine zJ ?_ ?_|refine zH fun hc=>?_)
  ·exfalso;omega
  ·refine⟨k+1,by omega,by omega,?_,by simp⟩;rw[G9 (by omega)];simp
  ·have h1:k=l.length:=by omega
   subst h1;refine bIb (bUf (aBn l) (by omega)) (by simp -implicitDefEqProofs (disch:=omega) only[bJp,go_sem,simprocAttr]) ?_;refine zg ?_;refine dV (fun(t:Nat×AV×List AObj)=>(rp 6 .k (.v (t.2.1)::.k::.j::(rp 18 .k (.v (.i .i64 (t.1:Nat))::(rp 7 .j [.k])))))) (fun t=>t.2.2) (fun t=>t.1≤l.length∧jU 6 0 t.2.2 t.2.1 ((l.take t.1).flatten.flatMap aU) (aBn (l.take t.1))) (fun t=>l.length-t.1) ((0,.hs 0 0 0 false,[.arr false 6 []])) ⟨bX _,.inr ⟨0,rfl,rfl,rfl⟩⟩ rfl (by simp[iS]) ?_;rintro⟨k,out,g⟩ j ⟨hk,ho⟩;dsimp only at hk ho;have hat:k<l.length→aBn (l.take k)+(l.getD k []).length≤aBn l:=aQs;refine zg ?_;(refine zs0 ?_;repeat' first|exact trivial|refine zJ ?_ ?_|refine zH fun hc=>?_)
   ·refine fN (more:=[]) (pre:=[]) (news:=(l.getD k []).flatMap aU) (m:=(l.getD k []).length) ho rfl (by simp) bHb bFe bFj bIc rfl (by decide) (by simp -implicitDefEqProofs (disch:=omega) only[go_sem,simprocAttr]) (by simp -implicitDefEqProofs (disch:=omega) only[go_sem,simprocAttr]) ⟨by omega,by omega⟩ ?_;intro out' g' ho' _;refine zg ?_;refine⟨(k+1,out',g'),⟨by omega,?_⟩,by simp;omega,rfl,by simp⟩;dsimp only;rw[G9 (by omega),fI (d:=[]) (by omega),zW,List.flatMap_append];simpa using ho'
   ·have h1:k=l.length:=by omega
    subst h1;rw[fH]at ho;exact bGu (bFx ho rfl)
end Go.Proofs.YtdjcggcjlphdoaaGreatDoor
