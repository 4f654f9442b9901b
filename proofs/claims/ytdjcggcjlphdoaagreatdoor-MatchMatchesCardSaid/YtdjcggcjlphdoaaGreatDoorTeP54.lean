/-
  Functions of the chapter, as plain functions of what they are given; no condition.
-/
import Derived.Test.YtdjcggcjlphdoaaGreatDoorTeP53
import Derived.Test.YtdjcggcjlphdoaaGreatDoorSoP53
import Derived.Test.YtdjcggcjlphdoaaGreatDoorVoP57
set_option maxRecDepth 100000
set_option linter.unusedSimpArgs false
set_option linter.unusedVariables false
set_option maxHeartbeats 4000000
namespace Go.Proofs.YtdjcggcjlphdoaaGreatDoor
open Go Go.Vo
open Nat (reduceAdd reduceSub reduceMul reduceLeDiff reduceLT reduceEqDiff)
open Int (reduceNeg)
theorem bXh:(28:Nat)≠3:=by decide
theorem cFm{h:List AObj}:jP Tryz.prog h .cap #[28] [.e0]=some (.i .i64 0,h):=bGp cCv
theorem cAa{dr:Option DR}{d:Option Nat}{os:List fK}{K:List AV→List AObj→Prop}{env:List AV}{h:List AObj}{s x:Operand}:eN Tryz.prog G0 dr (.call ⟨.builtin .append,#[s,x],#[28,3]⟩) d os K env h=aIp Tryz.prog G0 dr (Tryz.prog.underlying 3) (sT Tryz.prog h 28 (aev G0 env s) (aev G0 env x)) d os K env:=I0 bXh
attribute [go_sem] cFm
attribute [go_sem ↓] cAa
theorem bSv(n:Nat)(hn:n≤1000000): CT 220 [.e0,.i .i64 n] (.own 6 [] 0):=by
 refine aZ cI Tryz.func220 g0 ?_
 ·skip;(refine zs0 ?_;repeat' first|exact trivial|refine zJ ?_ ?_|refine zH fun hc=>?_)
  ·exfalso;omega
  ·rw[if_pos (by omega),if_neg (by omega)];refine zg ?_;refine⟨by simp[List.length_flatten],?_⟩;exact .inr ⟨⟨rfl,rfl,_,rfl,by simp,by simp,rfl⟩,by simp[cX],by simp[cX,kI]⟩
  ·exact .inr ⟨⟨rfl,rfl⟩,by simp[cX],by simp[cX]⟩
theorem aHb{l:List (List LTerm)}{k:Nat}(h:k<l.length):(l.map avt)[k]? = some (avt (l.getD k [])):=by simp[h]
attribute [go_sem] aHb
def aBg(l:List (List LTerm)):Nat:=l.flatten.length
@[simp] theorem bVq:aBg []=0:=rfl
theorem G5{l:List (List LTerm)}{k:Nat}(h:k<l.length):aBg (l.take (k+1))=aBg (l.take k)+(l.getD k []).length:=by
 rw[eZ (d:=[]) h];simp[aBg]
theorem aQg{l:List (List LTerm)}{k:Nat}:aBg (l.take k)≤aBg l:=by
 have h:(l.take k++l.drop k).flatten.length=l.flatten.length:=by rw[eQ]
 unfold aBg;rw[A4,List.length_append]at h;omega
theorem aQh{l:List (List LTerm)}{k:Nat}(h:k<l.length):aBg (l.take k)+(l.getD k []).length≤aBg l:=by
 rw[← G5 h];exact aQg
theorem bTa(l:List (List LTerm))(hl:l.length≤1000)(hs:aBg l≤1000000): CT 164 [.sl (l.map avt) l.length] (avt l.flatten):=by
 refine aZ cI Tryz.func164 g0 ?_
 ·skip;refine cO (fun(k:Nat)=>(.k::.k::.k::.v (.i .i64 (aBg (l.take k):Nat))::.k::.j::(rp 5 .k (.v (.i .i64 k)::(rp 11 .j (rp 13 .k [])))))) (fun k=>[]) (fun k=>k≤l.length) (fun k=>l.length-k) (0) (aR _) rfl (by simp[fO]) ?_;rintro k j hk;have hat:k<l.length→aBg (l.take k)+(l.getD k []).length≤aBg l:=aQh;have hkk:=aQg (l:=l) (k:=k);refine zg ?_;(refine zs0 ?_;repeat' first|exact trivial|refine zJ ?_ ?_|refine zH fun hc=>?_)
  ·exfalso;omega
  ·refine⟨k+1,by omega,by omega,?_,by simp⟩;rw[G5 (by omega)];simp
  ·have h1:k=l.length:=by omega
   subst h1;refine bGq (bSv (aBg l) (by omega)) (by simp -implicitDefEqProofs (disch:=omega) only[bHx,go_sem,simprocAttr]) ?_;refine zg ?_;refine cO (fun(t:Nat×AV×List AObj)=>(rp 6 .k (.v (t.2.1)::.k::.j::(rp 18 .k (.v (.i .i64 (t.1:Nat))::(rp 7 .j [.k])))))) (fun t=>t.2.2) (fun t=>t.1≤l.length∧gD 6 0 t.2.2 t.2.1 ((l.take t.1).flatten.flatMap aM) (aBg (l.take t.1))) (fun t=>l.length-t.1) ((0,.hs 0 0 0 false,[.arr false 6 []])) ⟨aR _,.inr ⟨0,rfl,rfl,rfl⟩⟩ rfl (by simp[fO]) ?_;rintro⟨k,out,g⟩ j ⟨hk,ho⟩;dsimp only at hk ho;have hat:k<l.length→aBg (l.take k)+(l.getD k []).length≤aBg l:=aQh;refine zg ?_;(refine zs0 ?_;repeat' first|exact trivial|refine zJ ?_ ?_|refine zH fun hc=>?_)
   ·refine eI (more:=[]) (pre:=[]) (news:=(l.getD k []).flatMap aM) (m:=(l.getD k []).length) ho rfl (by simp) bQt bNm bOk bUs rfl (by decide) (by simp -implicitDefEqProofs (disch:=omega) only[go_sem,simprocAttr]) (by simp -implicitDefEqProofs (disch:=omega) only[go_sem,simprocAttr]) ⟨by omega,by omega⟩ ?_;intro out' g' ho' _;refine zg ?_;refine⟨(k+1,out',g'),⟨by omega,?_⟩,by simp;omega,rfl,by simp⟩;dsimp only;rw[G5 (by omega),eZ (d:=[]) (by omega),A4,List.flatMap_append];simpa using ho'
   ·have h1:k=l.length:=by omega
    subst h1;rw[fR]at ho;exact bFe (bEj ho rfl)
end Go.Proofs.YtdjcggcjlphdoaaGreatDoor
