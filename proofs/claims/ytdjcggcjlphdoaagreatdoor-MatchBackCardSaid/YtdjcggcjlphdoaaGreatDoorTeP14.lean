/-
  Functions of the chapter, as plain functions of what they are given; no condition.
-/
import Derived.Test.YtdjcggcjlphdoaaGreatDoorTeP12
import Derived.Test.YtdjcggcjlphdoaaGreatDoorSoP13
set_option maxRecDepth 100000
set_option linter.unusedSimpArgs false
set_option linter.unusedVariables false
set_option maxHeartbeats 4000000
namespace Go.Proofs.YtdjcggcjlphdoaaGreatDoor
open Go Go.Vo
open Nat (reduceAdd reduceSub reduceMul reduceLeDiff reduceLT reduceEqDiff)
open Int (reduceNeg)
mutual
def qG:LTerm→Int→Int→Int
 | .mk k n t s ks rs,left,deep=>
   if left-(1+Int.tdiv (t.length+s.length) 50)<0 then -1 else
   (if deep+1>80 then -1 else partsL rs (if deep+1>80 then -1 else partsL ks (left-(1+Int.tdiv (t.length+s.length) 50)) (deep+1)) (deep+1))
def partsL:List LTerm→Int→Int→Int
 | [],left,deep=>left
 |t::l,left,deep=>if qG t left deep<0 then -1 else partsL l (qG t left deep) deep
end
def mO(l:List LTerm)(left deep:Int):Int:=if deep>80 then -1 else partsL l left deep
theorem aUt(t:LTerm)(left deep:Int):qG t left deep=if left-(1+Int.tdiv (t.text.length+t.sort.length) 50)<0 then -1 else mO t.rest (mO t.kids (left-(1+Int.tdiv (t.text.length+t.sort.length) 50)) (deep+1)) (deep+1):=by
 cases t;rw[qG];rfl
theorem aUu{l:List LTerm}{k:Nat}{d m:Int}(h:k<l.length):partsL (l.drop k) m d=if qG (l.getD k default) m d<0 then -1 else partsL (l.drop (k+1)) (qG (l.getD k default) m d) d:=by
 rw[eA h,partsL];simp[List.getD,h]
theorem i50:((50:Int)=0)=False:=by decide
theorem aSx(a:Nat):0≤Int.tdiv (a:Int) 50∧Int.tdiv (a:Int) 50≤a:=by
 rw[Int.tdiv_eq_ediv_of_nonneg (by omega)];omega
mutual
theorem aEb:∀(t:LTerm) (m d:Int),-1≤m → -1≤qG t m d∧qG t m d≤m
 | .mk k n t s ks rs,m,d,hm=>by
   have h:=aSx (t.length+s.length);rw[Int.natCast_add]at h;rw[qG];split
   ·omega
   ·split
    ·omega
    ·have h1:=partsL_le ks (m-(1+Int.tdiv (t.length+s.length) 50)) (d+1) (by omega);have h2:=partsL_le rs (partsL ks (m-(1+Int.tdiv (t.length+s.length) 50)) (d+1)) (d+1) h1.1;omega
theorem partsL_le:∀(l:List LTerm) (m d:Int),-1≤m → -1≤partsL l m d∧partsL l m d≤m
 | [],m,d,hm=>by rw[partsL];omega
 |t::l,m,d,hm=>by
  have h1:=aEb t m d hm;have h2:=partsL_le l (qG t m d) d h1.1;rw[partsL];split<;>omega
end
theorem aEc(l:List LTerm){m d:Int}(hm : -1≤m) : -1≤mO l m d∧mO l m d≤m:=by
 rw[mO];split
 ·omega
 ·exact partsL_le l m d hm
theorem aBm(l:List LTerm)(m d:Int)(hl:l.length≤1466015503701)(ho:∀t∈l,OkT t)(hm0 : -1≤m)(hm:m≤1000000)(hd0:0≤d)(hd:d≤100)(ihk:∀t∈l,∀(m d:Int),-1≤m→m≤1000000→0≤d→d≤100→CT 73 [avt t.kids,.i .i64 m,.i .i64 d] (.i .i64 (mO t.kids m d)))(ihr:∀t∈l,∀(m d:Int),-1≤m→m≤1000000→0≤d→d≤100→CT 73 [avt t.rest,.i .i64 m,.i .i64 d] (.i .i64 (mO t.rest m d))): CT 73 [avt l,.i .i64 m,.i .i64 d] (.i .i64 (mO l m d)):=by
 refine eG cZ Tryz.func73 g0 ?_
 ·simp -implicitDefEqProofs (disch:=omega) only[Tryz.f73,go_sem,List.replicate,↓reduceIte,reduceAdd,reduceSub,reduceMul,reduceLeDiff,reduceLT,reduceEqDiff,reduceNeg,Nat.reduceBEq,avt];(repeat'(first|refine gT ?_ ?_|refine gF ?_ ?_|refine gC ?_ ?_|refine bX (by omega) ?_|(intro hr;have hc:=hr;(try simp only[zdz]at hc);simp -implicitDefEqProofs (disch:=omega) only[hr,go_sem,↓reduceIte,reduceAdd,reduceSub,reduceMul,reduceLeDiff,reduceLT,reduceEqDiff,reduceNeg,Nat.reduceBEq];(try clear hr))))
  ·exact bV (by rw[mO,if_pos (by omega)]) rfl
  rw[mO,if_neg (by omega)];refine kI (fun(s:Nat×Int)=>(.k::.v (.i .i64 s.2)::.k::.k::.k::.k::.j::.k::.j::.k::.k::.k::.k::.v (.i .i64 (s.1:Nat))::(rp 31 .j [.k]))) (fun s=>[]) (fun s=>s.1≤l.length ∧ -1≤s.2∧s.2≤1000000∧partsL l m d=partsL (l.drop s.1) s.2 d) (fun s=>l.length-s.1) ((0,m)) _ ⟨bJ _,hm0,hm,rfl⟩ rfl (by simp[hZ]) ?_;rintro⟨k,m2⟩ g j ⟨hk,h20,h2,he⟩;dsimp only at hk h20 h2 he;simp -implicitDefEqProofs (disch:=omega) only[go_sem,↓reduceIte,reduceAdd,reduceSub,reduceMul,reduceLeDiff,reduceLT,reduceEqDiff,reduceNeg,Nat.reduceBEq];(repeat'(first|refine gT ?_ ?_|refine gF ?_ ?_|refine gC ?_ ?_|refine bX (by omega) ?_|(intro hr;have hc:=hr;(try simp only[zdz]at hc);simp -implicitDefEqProofs (disch:=omega) only[hr,go_sem,↓reduceIte,reduceAdd,reduceSub,reduceMul,reduceLeDiff,reduceLT,reduceEqDiff,reduceNeg,Nat.reduceBEq];(try clear hr))))
  ·have hlt:k<l.length:=by omega
   have ot:=ho _ (cT (d:=default) hlt);have b1:=ot.text;have b2:=ot.sort;have b3:=aSx ((l.getD k default).text.length+(l.getD k default).sort.length);rw[Int.natCast_add]at b3;rw[aUu hlt,aUt]at he;obtain⟨q,hq⟩:∃q,q=m2-(1+Int.tdiv ((l.getD k default).text.length+(l.getD k default).sort.length) 50):=⟨_,rfl⟩;rw[← hq]at he;simp -implicitDefEqProofs (disch:=omega) only[i50,← hq,go_sem,↓reduceIte,reduceAdd,reduceSub,reduceMul,reduceLeDiff,reduceLT,reduceEqDiff,reduceNeg,Nat.reduceBEq];(repeat'(first|refine gT ?_ ?_|refine gF ?_ ?_|refine gC ?_ ?_|refine bX (by omega) ?_|(intro hr;have hc:=hr;(try simp only[zdz]at hc);simp -implicitDefEqProofs (disch:=omega) only[hr,go_sem,↓reduceIte,reduceAdd,reduceSub,reduceMul,reduceLeDiff,reduceLT,reduceEqDiff,reduceNeg,Nat.reduceBEq];(try clear hr))))
   ·exact bV (by rw[he,if_pos hc];rfl) rfl
   have b4:=aEc (l.getD k default).kids (m:=q) (d:=d+1) (by omega);have b5:=aEc (l.getD k default).rest (m:=mO (l.getD k default).kids q (d+1)) (d:=d+1) b4.1;have c1:=ihk _ (cT (d:=default) hlt) q (d+1) (by omega) (by omega) (by omega) (by omega);have c2:=ihr _ (cT (d:=default) hlt) (mO (l.getD k default).kids q (d+1)) (d+1) (by omega) (by omega) (by omega) (by omega);rw[if_neg (by omega:¬q<0)]at he;(repeat'(first|refine gT ?_ ?_|refine gF ?_ ?_|refine gC ?_ ?_|((first|(refine dA (c1) ?_ ?_;(focus(simp -implicitDefEqProofs (disch:=omega) only[zdB,go_sem,↓reduceIte,reduceAdd,reduceSub,reduceMul,reduceLeDiff,reduceLT,reduceEqDiff,reduceNeg,Nat.reduceBEq];done)))|(refine dA (c2) ?_ ?_;(focus(simp -implicitDefEqProofs (disch:=omega) only[zdB,go_sem,↓reduceIte,reduceAdd,reduceSub,reduceMul,reduceLeDiff,reduceLT,reduceEqDiff,reduceNeg,Nat.reduceBEq];done))));simp -implicitDefEqProofs (disch:=omega) only[go_sem,↓reduceIte,reduceAdd,reduceSub,reduceMul,reduceLeDiff,reduceLT,reduceEqDiff,reduceNeg,Nat.reduceBEq])|refine bX (by omega) ?_|(intro hr;have hc:=hr;(try simp only[zdz]at hc);simp -implicitDefEqProofs (disch:=omega) only[hr,go_sem,↓reduceIte,reduceAdd,reduceSub,reduceMul,reduceLeDiff,reduceLT,reduceEqDiff,reduceNeg,Nat.reduceBEq];(try clear hr))))
   ·exact bV (by rw[he,if_pos hc]) rfl
   ·rw[if_neg hc]at he;exact⟨(k+1,mO (l.getD k default).rest (mO (l.getD k default).kids q (d+1)) (d+1)),_,⟨by dsimp only;omega,b5.1,by dsimp only;omega,he⟩,by dsimp only;omega,rfl,rfl,by simp⟩
  ·rw[cV (by omega),partsL]at he;exact bV (by rw[he]) rfl
theorem aNs:∀(t:LTerm),OkT t→(∀(m d:Int),-1≤m→m≤1000000→0≤d→d≤100→CT 73 [avt t.kids,.i .i64 m,.i .i64 d] (.i .i64 (mO t.kids m d)))∧(∀(m d:Int),-1≤m→m≤1000000→0≤d→d≤100→CT 73 [avt t.rest,.i .i64 m,.i .i64 d] (.i .i64 (mO t.rest m d))):=
 fH fun t hk hr ht=>⟨fun m d h1 h2 h3 h4=>aBm t.kids m d ht.kids ht.kid h1 h2 h3 h4 (fun u hu=>(hk u hu (ht.kid u hu)).1) (fun u hu=>(hk u hu (ht.kid u hu)).2),fun m d h1 h2 h3 h4=>aBm t.rest m d ht.rest ht.rst h1 h2 h3 h4 (fun u hu=>(hr u hu (ht.rst u hu)).1) (fun u hu=>(hr u hu (ht.rst u hu)).2)⟩
theorem bYv(l:List LTerm)(m d:Int)(hl:l.length≤1466015503701)(ho:∀t∈l,OkT t)(h1 : -1≤m)(h2:m≤1000000)(h3:0≤d)(h4:d≤100):CT 73 [avt l,.i .i64 m,.i .i64 d] (.i .i64 (mO l m d)):=
 aBm l m d hl ho h1 h2 h3 h4 (fun u hu=>(aNs u (ho u hu)).1) (fun u hu=>(aNs u (ho u hu)).2)
def bSl(most:Int)(l:List LTerm):Bool:=decide (0≤mO l most 0)
theorem bKz(m:Int)(l:List LTerm)(hl:l.length≤1466015503701)(ho:∀t∈l,OkT t)(h1:0≤m)(h2:m≤1000000): CT 29 [.i .i64 m,avt l] (.b (bSl m l)):=by
 refine eG cZ Tryz.func29 g0 ?_
 ·simp -implicitDefEqProofs (disch:=omega) only[Tryz.f29,go_sem,List.replicate,↓reduceIte,reduceAdd,reduceSub,reduceMul,reduceLeDiff,reduceLT,reduceEqDiff,reduceNeg,Nat.reduceBEq,avt];(refine zt1 (bYv l m 0 hl ho (by omega) h2 (by decide) (by decide)) ?_;repeat' first|exact trivial|refine zJ ?_ ?_|refine zH fun hc=>?_);all_goals exact bV rfl rfl
end Go.Proofs.YtdjcggcjlphdoaaGreatDoor
