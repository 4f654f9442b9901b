/-
  Functions of the chapter, as plain functions of what they are given; no condition.
-/
import Derived.Test.YtdjcggcjlphdoaaGreatDoorVcP52
set_option maxRecDepth 100000
set_option linter.unusedSimpArgs false
set_option linter.unusedVariables false
set_option maxHeartbeats 4000000
namespace Go.Proofs.YtdjcggcjlphdoaaGreatDoor
open Go Go.Vo
open Nat (reduceAdd reduceSub reduceMul reduceLeDiff reduceLT reduceEqDiff)
open Int (reduceNeg)
theorem bPv(s:dF)(b:Bool)(p t:LTerm)(l:List LSub)(m:Nat)(hm:Small s)(hs:OkS s)(hl:l.length≤1000)(hu:tD m l)(hmm:m≤1000000)(op:OkT p)(ht:OkT t)(hq:yW s t) :
 ACalls Tryz.prog G0 106 [.ptr 0 0,elT p,elT t,avw l] [.box false [.sl (s.sorts.map .s) s.sorts.length,.sl (s.below.flatMap bZ) s.below.length,.sl (s.ops.flatMap bG) s.ops.length,.sl (s.funs.flatMap bG) s.funs.length,.sl (s.values.map .s) s.values.length,.b (b)]] (fun r h'=>r=avw (D6 s p t l b).1∧h'=[.box false [.sl (s.sorts.map .s) s.sorts.length,.sl (s.below.flatMap bZ) s.below.length,.sl (s.ops.flatMap bG) s.ops.length,.sl (s.funs.flatMap bG) s.funs.length,.sl (s.values.map .s) s.values.length,.b ((D6 s p t l b).2)]]):=
 jI g0 (bYv s b p t l m hm hs hl hu hmm op ht hq) (gS _) (by rw[fJ,wH];rfl) (bT _)
def bGv(s:dF)(n:Nat)(p:LTerm):Prop:=
 ∀(t:LTerm) (l:List LSub) (b:Bool) (m:Nat),OkN t→fN s t=true→nodesT t≤1000000→tD m l→l.length≤1000→m+nodesT p≤1000000 →
  ACalls Tryz.prog G0 54 [.ptr 0 0,elT p,elT t,avw l] [.box false [.sl (s.sorts.map .s) s.sorts.length,.sl (s.below.flatMap bZ) s.below.length,.sl (s.ops.flatMap bG) s.ops.length,.sl (s.funs.flatMap bG) s.funs.length,.sl (s.values.map .s) s.values.length,.b (b)]] (fun r h'=>r=avw (dX s n p t l b).1∧h'=[.box false [.sl (s.sorts.map .s) s.sorts.length,.sl (s.below.flatMap bZ) s.below.length,.sl (s.ops.flatMap bG) s.ops.length,.sl (s.funs.flatMap bG) s.funs.length,.sl (s.values.map .s) s.values.length,.b ((dX s n p t l b).2)]])
@[simp] theorem H5{A:LTerm→LTerm→List LSub→Bool→MR}{ts:List LTerm}{l:List LSub}{b:Bool}:jH A [] ts l b=(l,b):=by cases ts<;>rfl
theorem xH{A:LTerm→LTerm→List LSub→Bool→MR}:∀{ps ts:List LTerm} {l:List LSub} {b:Bool} {k:Nat},k<ps.length→k<ts.length →
 jH A (ps.take (k+1)) (ts.take (k+1)) l b=A (ps.getD k default) (ts.getD k default) (jH A (ps.take k) (ts.take k) l b).1 (jH A (ps.take k) (ts.take k) l b).2
 |p::ps,t::ts,l,b,0,_,_=>by simp[jH]
 |p::ps,t::ts,l,b,k+1,h1,h2=>by
  rw[aL,aL,jH,xH (by simpa using h1) (by simpa using h2),aL,aL,jH];rfl
 | [],_,_,_,_,h,_=>by simp at h
 |_::_,[],_,_,_,_,h=>by simp at h
theorem W4{A:LTerm→LTerm→List LSub→Bool→MR}:∀{ps ts:List LTerm} {l:List LSub} {b:Bool},jH A ps (ts.take ps.length) l b=jH A ps ts l b
 | [],ts,l,b=>by rw[H5,H5]
 |p::ps,[],l,b=>by simp[jH]
 |p::ps,t::ts,l,b=>by rw[bB,aL,jH,jH,W4]
theorem cDv(s:dF)(n:Nat)(b:Bool)(ps ts:List LTerm)(l:List LSub)(m:Nat)(hA:∀p∈ps,bGv s n p)(ht:∀t∈ts,OkN t∧fN s t=true∧nodesT t≤1000000)(hlen:ps.length≤ts.length)(hp1:ps.length≤1000000)(hu:tD m l)(hl:l.length≤1000)(hmm:m+nodesL ps≤1000000): ACalls Tryz.prog G0 105 [.ptr 0 0,avt ps,avt ts,avw l] [.box false [.sl (s.sorts.map .s) s.sorts.length,.sl (s.below.flatMap bZ) s.below.length,.sl (s.ops.flatMap bG) s.ops.length,.sl (s.funs.flatMap bG) s.funs.length,.sl (s.values.map .s) s.values.length,.b (b)]] (MK s (jH (dX s n) ps ts l b)):=by
 refine jD (rx:=true) (th:=fun i=>if i=4 then some ⟨none,[],false,false,true,[],[],10⟩else none) cI Tryz.func105 ?_
 ·simp -implicitDefEqProofs (disch:=omega) only[Tryz.f105,go_sem,List.replicate,simprocAttr,avt];refine cO (fun(q:Nat×List AObj)=>(.k::.k::.k::.v (avw (jH (dX s n) (ps.take q.1) (ts.take q.1) l b).1)::(rp 5 .k (.j::.k::.k::.v (.i .i64 (q.1:Nat))::(rp 14 .j [.k]))))) (fun q=>(.box false [.sl (s.sorts.map .s) s.sorts.length,.sl (s.below.flatMap bZ) s.below.length,.sl (s.ops.flatMap bG) s.ops.length,.sl (s.funs.flatMap bG) s.funs.length,.sl (s.values.map .s) s.values.length,.b ((jH (dX s n) (ps.take q.1) (ts.take q.1) l b).2)]::q.2)) (fun q=>q.1≤ps.length) (fun q=>ps.length-q.1) ((0,[])) (aR _) rfl (by simp[fO]) ?_;rintro⟨k,g⟩ j hk;dsimp only at hk;by_cases hlt:k<ps.length
  ·have hki:(k:Int)<((ps.length:Nat):Int):=by omega
   have hkt:k<ts.length:=by omega
   have hpk:=cC (d:=default) hlt;have htk:=cC (d:=default) hkt;have e:=xH (A:=dX s n) (l:=l) (b:=b) hlt hkt;obtain⟨r1,r2⟩:=xI (A:=dX s n) (ps:=ps.take k) (ts:=ts.take k) (b:=b) (fun p _=>mQ n p) (fun t h=>(ht t (dS h)).1) hu hl;have hn1:=mU hlt;have hn2:=iC (l:=ps) (k:=k+1);have c:=hA _ hpk (ts.getD k default) _ (jH (dX s n) (ps.take k) (ts.take k) l b).2 (m+nodesL (ps.take k)) (ht _ htk).1 (ht _ htk).2.1 (ht _ htk).2.2 r1 r2 (by omega);refine zh (zt hki) ?_;(refine zx0 (zt hki) ?_;repeat' first|exact trivial|refine zJ ?_ ?_|refine zH fun hc=>?_);refine aLn c (gS _) (by simp only[elT,avw,renL,ren,aI,avt,renL_pers _ _ iW,renL_pers _ _ eW,mY]) ?_;refine zg ?_;exact⟨(k+1,g),by dsimp only;omega,by dsimp only;omega,by dsimp only;rw[e],by dsimp only;rw[e],by simp⟩
  ·have hki:¬(k:Int)<((ps.length:Nat):Int):=by omega
   obtain rfl:k=ps.length:=by omega
   have e:jH (dX s n) (ps.take ps.length) (ts.take ps.length) l b=jH (dX s n) ps ts l b:=by
    rw[fR,W4]
   rw[e];refine zh (zf hki) ?_;exact vX
end Go.Proofs.YtdjcggcjlphdoaaGreatDoor
