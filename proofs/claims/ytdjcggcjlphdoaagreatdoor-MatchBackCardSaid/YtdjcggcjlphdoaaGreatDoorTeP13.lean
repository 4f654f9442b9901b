/-
  Functions of the chapter, as plain functions of what they are given; no condition.
-/
import Derived.Test.YtdjcggcjlphdoaaGreatDoorTeP12
import Derived.Test.YtdjcggcjlphdoaaGreatDoorSoP13
import Derived.Test.YtdjcggcjlphdoaaGreatDoorVoP17
set_option maxRecDepth 100000
set_option linter.unusedSimpArgs false
set_option linter.unusedVariables false
set_option maxHeartbeats 4000000
namespace Go.Proofs.YtdjcggcjlphdoaaGreatDoor
open Go Go.Vo
open Nat (reduceAdd reduceSub reduceMul reduceLeDiff reduceLT reduceEqDiff)
open Int (reduceNeg)
theorem cDk:(28:Nat)≠3:=by decide
theorem cLf{h:List AObj}:jZ Tryz.prog h .cap #[28] [.e0]=some (.i .i64 0,h):=bLc cIt
theorem cFu{dr:Option DR}{d:Option Nat}{os:List gA}{K:List AV→List AObj→Prop}{env:List AV}{h:List AObj}{s x:Operand}:fG Tryz.prog G0 dr (.call ⟨.builtin .append,#[s,x],#[28,3]⟩) d os K env h=aKr Tryz.prog G0 dr (Tryz.prog.underlying 3) (sX Tryz.prog h 28 (aev G0 env s) (aev G0 env x)) d os K env:=M4 cDk
attribute [go_sem] cLf
attribute [go_sem ↓] cFu
theorem bYm(n:Nat)(hn:n≤1000000): CT 220 [.e0,.i .i64 n] (.own 6 [] 0):=by
 refine bQ cZ Tryz.func220 g0 ?_
 ·skip;(refine zs0 ?_;repeat' first|exact trivial|refine zJ ?_ ?_|refine zH fun hc=>?_)
  ·exfalso;omega
  ·rw[if_pos (by omega),if_neg (by omega)];refine zg ?_;refine⟨by simp[List.length_flatten],?_⟩;exact .inr ⟨⟨rfl,rfl,_,rfl,by simp,by simp,rfl⟩,by simp[dJ],by simp[dJ,kH]⟩
  ·exact .inr ⟨⟨rfl,rfl⟩,by simp[dJ],by simp[dJ]⟩
theorem aIu{l:List (List LTerm)}{k:Nat}(h:k<l.length):(l.map avt)[k]? = some (avt (l.getD k [])):=by simp[h]
attribute [go_sem] aIu
def aAf(l:List (List LTerm)):Nat:=l.flatten.length
@[simp] theorem cBi:aAf []=0:=rfl
theorem K5{l:List (List LTerm)}{k:Nat}(h:k<l.length):aAf (l.take (k+1))=aAf (l.take k)+(l.getD k []).length:=by
 rw[fO (d:=[]) h];simp[aAf]
theorem aTf{l:List (List LTerm)}{k:Nat}:aAf (l.take k)≤aAf l:=by
 have h:(l.take k++l.drop k).flatten.length=l.flatten.length:=by rw[cI]
 unfold aAf;rw[jM,List.length_append]at h;omega
theorem aTg{l:List (List LTerm)}{k:Nat}(h:k<l.length):aAf (l.take k)+(l.getD k []).length≤aAf l:=by
 rw[← K5 h];exact aTf
theorem bKx(l:List (List LTerm))(hl:l.length≤1000000)(hs:aAf l≤1000000): CT 164 [.sl (l.map avt) l.length] (avt l.flatten):=by
 refine bQ cZ Tryz.func164 g0 ?_
 ·skip;refine dF (fun(k:Nat)=>(.k::.k::.k::.v (.i .i64 (aAf (l.take k):Nat))::.k::.j::(rp 5 .k (.v (.i .i64 k)::(rp 11 .j (rp 13 .k [])))))) (fun k=>[]) (fun k=>k≤l.length) (fun k=>l.length-k) (0) (bJ _) rfl (by simp[hZ]) ?_;rintro k j hk;have hat:k<l.length→aAf (l.take k)+(l.getD k []).length≤aAf l:=aTg;have hkk:=aTf (l:=l) (k:=k);refine zg ?_;(refine zs0 ?_;repeat' first|exact trivial|refine zJ ?_ ?_|refine zH fun hc=>?_)
  ·exfalso;omega
  ·refine⟨k+1,by omega,by omega,?_,by simp⟩;rw[K5 (by omega)];simp
  ·have h1:k=l.length:=by omega
   subst h1;refine bLd (bYm (aAf l) (by omega)) (by simp -implicitDefEqProofs (disch:=omega) only[bMm,go_sem,simprocAttr]) ?_;refine zg ?_;refine dF (fun(t:Nat×AV×List AObj)=>(rp 6 .k (.v (t.2.1)::.k::.j::(rp 18 .k (.v (.i .i64 (t.1:Nat))::(rp 7 .j [.k])))))) (fun t=>t.2.2) (fun t=>t.1≤l.length∧jI 6 0 t.2.2 t.2.1 ((l.take t.1).flatten.flatMap aP) (aAf (l.take t.1))) (fun t=>l.length-t.1) ((0,.hs 0 0 0 false,[.arr false 6 []])) ⟨bJ _,.inr ⟨0,rfl,rfl,rfl⟩⟩ rfl (by simp[hZ]) ?_;rintro⟨k,out,g⟩ j ⟨hk,ho⟩;dsimp only at hk ho;have hat:k<l.length→aAf (l.take k)+(l.getD k []).length≤aAf l:=aTg;refine zg ?_;(refine zs0 ?_;repeat' first|exact trivial|refine zJ ?_ ?_|refine zH fun hc=>?_)
   ·refine gM (more:=[]) (pre:=[]) (news:=(l.getD k []).flatMap aP) (m:=(l.getD k []).length) ho rfl (by simp) bWm bSq bUa cAg rfl (by decide) (by simp -implicitDefEqProofs (disch:=omega) only[go_sem,simprocAttr]) (by simp -implicitDefEqProofs (disch:=omega) only[go_sem,simprocAttr]) ⟨by omega,by omega⟩ ?_;intro out' g' ho' _;refine zg ?_;refine⟨(k+1,out',g'),⟨by omega,?_⟩,by simp;omega,rfl,by simp⟩;dsimp only;rw[K5 (by omega),fO (d:=[]) (by omega),jM,List.flatMap_append];simpa using ho'
   ·have h1:k=l.length:=by omega
    subst h1;rw[gD]at ho;exact bJz (bJc ho rfl)
mutual
def vis:LTerm→Int→List (LTerm×Int)
 | .mk k n x s ks rs,d=>(.mk k n x s ks rs,d)::(visL ks (d+1)++visL rs (d+1))
def visL:List LTerm→Int→List (LTerm×Int)
 | [],_=>[]
 |t::l,d=>vis t d++visL l d
end
theorem oW:∀{l m:List LTerm} {d:Int},visL (l++m) d=visL l d++visL m d
 | [],m,d=>rfl
 |t::l,m,d=>by rw[aH,visL,visL,oW,bU]
theorem pW(t:LTerm)(d:Int):vis t d=(t,d)::visL (t.kids++t.rest) (d+1):=by cases t;rw[vis,oW];rfl
theorem J5{l:List LTerm}{k:Nat}{d:Int}(h:k<l.length):visL (l.drop k) d=vis (l.getD k default) d++visL (l.drop (k+1)) d:=by
 rw[eA h,visL];simp[List.getD,h]
def oB{α:Type}(φ:LTerm×Int→α→α)(a:α)(l:List (LTerm×Int)):α:=l.foldl (fun a v=>φ v a) a
theorem rL{α:Type}{φ:LTerm×Int→α→α}{a:α}{l m:List (LTerm×Int)}:oB φ a (l++m)=oB φ (oB φ a l) m:=by simp[oB,List.foldl_append]
theorem bTf:∀(t:LTerm),OkT t→∀(d:Int),∀v∈vis t d,OkT v.1:=
 fH fun t hk hr ht d v hv=>by
  have L:∀(l:List LTerm),(∀x∈l,OkT x∧∀(d:Int),∀v∈vis x d,OkT v.1)→∀v∈visL l (d+1),OkT v.1:=by
   intro l;induction l with
   |nil=>intro _ v hv;simp[visL]at hv
   |cons x l ih=>
    intro h v hv;rw[visL,bM]at hv;rcases hv with hv|hv
    ·exact(h x (by simp)).2 _ v hv
    ·exact ih (fun y hy=>h y (by simp[hy])) v hv
  rw[pW,cH]at hv;rcases hv with rfl|hv
  ·exact ht
  ·refine L _ (fun x hx=>?_) v hv;rcases bM.1 hx with hx|hx
   ·exact⟨ht.kid x hx,hk x hx (ht.kid x hx)⟩
   ·exact⟨ht.rst x hx,hr x hx (ht.rst x hx)⟩
end Go.Proofs.YtdjcggcjlphdoaaGreatDoor
