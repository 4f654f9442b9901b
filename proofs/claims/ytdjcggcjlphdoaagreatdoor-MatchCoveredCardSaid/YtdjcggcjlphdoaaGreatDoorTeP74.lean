/-
  Functions of the chapter, as plain functions of what they are given; no condition.
-/
import Derived.Test.YtdjcggcjlphdoaaGreatDoorTeP72
import Derived.Test.YtdjcggcjlphdoaaGreatDoorSoP73
set_option maxRecDepth 100000
set_option linter.unusedSimpArgs false
set_option linter.unusedVariables false
set_option maxHeartbeats 4000000
namespace Go.Proofs.YtdjcggcjlphdoaaGreatDoor
open Go Go.Vo
open Nat (reduceAdd reduceSub reduceMul reduceLeDiff reduceLT reduceEqDiff)
open Int (reduceNeg)
mutual
def pG:LTerm→Int→Int→Int
 | .mk k n t s ks rs,left,deep=>
   if left-(1+Int.tdiv (t.length+s.length) 50)<0 then -1 else
   (if deep+1>80 then -1 else partsL rs (if deep+1>80 then -1 else partsL ks (left-(1+Int.tdiv (t.length+s.length) 50)) (deep+1)) (deep+1))
def partsL:List LTerm→Int→Int→Int
 | [],left,deep=>left
 |t::l,left,deep=>if pG t left deep<0 then -1 else partsL l (pG t left deep) deep
end
def lV(l:List LTerm)(left deep:Int):Int:=if deep>80 then -1 else partsL l left deep
theorem aSk(t:LTerm)(left deep:Int):pG t left deep=if left-(1+Int.tdiv (t.text.length+t.sort.length) 50)<0 then -1 else lV t.rest (lV t.kids (left-(1+Int.tdiv (t.text.length+t.sort.length) 50)) (deep+1)) (deep+1):=by
 cases t;rw[pG];rfl
theorem aSl{l:List LTerm}{k:Nat}{d m:Int}(h:k<l.length):partsL (l.drop k) m d=if pG (l.getD k default) m d<0 then -1 else partsL (l.drop (k+1)) (pG (l.getD k default) m d) d:=by
 rw[eV h,partsL];simp[List.getD,h]
theorem i50:((50:Int)=0)=False:=by decide
theorem aQj(a:Nat):0≤Int.tdiv (a:Int) 50∧Int.tdiv (a:Int) 50≤a:=by
 rw[Int.tdiv_eq_ediv_of_nonneg (by omega)];omega
mutual
theorem aCy:∀(t:LTerm) (m d:Int),-1≤m → -1≤pG t m d∧pG t m d≤m
 | .mk k n t s ks rs,m,d,hm=>by
   have h:=aQj (t.length+s.length);rw[Int.natCast_add]at h;rw[pG];split
   ·omega
   ·split
    ·omega
    ·have h1:=partsL_le ks (m-(1+Int.tdiv (t.length+s.length) 50)) (d+1) (by omega);have h2:=partsL_le rs (partsL ks (m-(1+Int.tdiv (t.length+s.length) 50)) (d+1)) (d+1) h1.1;omega
theorem partsL_le:∀(l:List LTerm) (m d:Int),-1≤m → -1≤partsL l m d∧partsL l m d≤m
 | [],m,d,hm=>by rw[partsL];omega
 |t::l,m,d,hm=>by
  have h1:=aCy t m d hm;have h2:=partsL_le l (pG t m d) d h1.1;rw[partsL];split<;>omega
end
theorem aCz(l:List LTerm){m d:Int}(hm : -1≤m) : -1≤lV l m d∧lV l m d≤m:=by
 rw[lV];split
 ·omega
 ·exact partsL_le l m d hm
theorem aAl(l:List LTerm)(m d:Int)(hl:l.length≤1466015503701)(ho:∀t∈l,OkT t)(hm0 : -1≤m)(hm:m≤1000000)(hd0:0≤d)(hd:d≤100)(ihk:∀t∈l,∀(m d:Int),-1≤m→m≤1000000→0≤d→d≤100→CT 73 [avt t.kids,.i .i64 m,.i .i64 d] (.i .i64 (lV t.kids m d)))(ihr:∀t∈l,∀(m d:Int),-1≤m→m≤1000000→0≤d→d≤100→CT 73 [avt t.rest,.i .i64 m,.i .i64 d] (.i .i64 (lV t.rest m d))): CT 73 [avt l,.i .i64 m,.i .i64 d] (.i .i64 (lV l m d)):=by
 refine dO dE Tryz.func73 g0 ?_
 ·simp -implicitDefEqProofs (disch:=omega) only[Tryz.f73,go_sem,List.replicate,↓reduceIte,reduceAdd,reduceSub,reduceMul,reduceLeDiff,reduceLT,reduceEqDiff,reduceNeg,Nat.reduceBEq,avt];(repeat'(first|refine gT ?_ ?_|refine gF ?_ ?_|refine gC ?_ ?_|refine bE (by omega) ?_|(intro hr;have hc:=hr;(try simp only[zdz]at hc);simp -implicitDefEqProofs (disch:=omega) only[hr,go_sem,↓reduceIte,reduceAdd,reduceSub,reduceMul,reduceLeDiff,reduceLT,reduceEqDiff,reduceNeg,Nat.reduceBEq];(try clear hr))))
  ·exact bR (by rw[lV,if_pos (by omega)]) rfl
  rw[lV,if_neg (by omega)];refine lJ (fun(s:Nat×Int)=>(.k::.v (.i .i64 s.2)::.k::.k::.k::.k::.j::.k::.j::.k::.k::.k::.k::.v (.i .i64 (s.1:Nat))::(rp 31 .j [.k]))) (fun s=>[]) (fun s=>s.1≤l.length ∧ -1≤s.2∧s.2≤1000000∧partsL l m d=partsL (l.drop s.1) s.2 d) (fun s=>l.length-s.1) ((0,m)) _ ⟨bX _,hm0,hm,rfl⟩ rfl (by simp[iS]) ?_;rintro⟨k,m2⟩ g j ⟨hk,h20,h2,he⟩;dsimp only at hk h20 h2 he;simp -implicitDefEqProofs (disch:=omega) only[go_sem,↓reduceIte,reduceAdd,reduceSub,reduceMul,reduceLeDiff,reduceLT,reduceEqDiff,reduceNeg,Nat.reduceBEq];(repeat'(first|refine gT ?_ ?_|refine gF ?_ ?_|refine gC ?_ ?_|refine bE (by omega) ?_|(intro hr;have hc:=hr;(try simp only[zdz]at hc);simp -implicitDefEqProofs (disch:=omega) only[hr,go_sem,↓reduceIte,reduceAdd,reduceSub,reduceMul,reduceLeDiff,reduceLT,reduceEqDiff,reduceNeg,Nat.reduceBEq];(try clear hr))))
  ·have hlt:k<l.length:=by omega
   have ot:=ho _ (cS (d:=default) hlt);have b1:=ot.text;have b2:=ot.sort;have b3:=aQj ((l.getD k default).text.length+(l.getD k default).sort.length);rw[Int.natCast_add]at b3;rw[aSl hlt,aSk]at he;obtain⟨q,hq⟩:∃q,q=m2-(1+Int.tdiv ((l.getD k default).text.length+(l.getD k default).sort.length) 50):=⟨_,rfl⟩;rw[← hq]at he;simp -implicitDefEqProofs (disch:=omega) only[i50,← hq,go_sem,↓reduceIte,reduceAdd,reduceSub,reduceMul,reduceLeDiff,reduceLT,reduceEqDiff,reduceNeg,Nat.reduceBEq];(repeat'(first|refine gT ?_ ?_|refine gF ?_ ?_|refine gC ?_ ?_|refine bE (by omega) ?_|(intro hr;have hc:=hr;(try simp only[zdz]at hc);simp -implicitDefEqProofs (disch:=omega) only[hr,go_sem,↓reduceIte,reduceAdd,reduceSub,reduceMul,reduceLeDiff,reduceLT,reduceEqDiff,reduceNeg,Nat.reduceBEq];(try clear hr))))
   ·exact bR (by rw[he,if_pos hc];rfl) rfl
   have b4:=aCz (l.getD k default).kids (m:=q) (d:=d+1) (by omega);have b5:=aCz (l.getD k default).rest (m:=lV (l.getD k default).kids q (d+1)) (d:=d+1) b4.1;have c1:=ihk _ (cS (d:=default) hlt) q (d+1) (by omega) (by omega) (by omega) (by omega);have c2:=ihr _ (cS (d:=default) hlt) (lV (l.getD k default).kids q (d+1)) (d+1) (by omega) (by omega) (by omega) (by omega);rw[if_neg (by omega:¬q<0)]at he;(repeat'(first|refine gT ?_ ?_|refine gF ?_ ?_|refine gC ?_ ?_|((first|(refine bJ (c1) ?_ ?_;(focus(simp -implicitDefEqProofs (disch:=omega) only[zdB,go_sem,↓reduceIte,reduceAdd,reduceSub,reduceMul,reduceLeDiff,reduceLT,reduceEqDiff,reduceNeg,Nat.reduceBEq];done)))|(refine bJ (c2) ?_ ?_;(focus(simp -implicitDefEqProofs (disch:=omega) only[zdB,go_sem,↓reduceIte,reduceAdd,reduceSub,reduceMul,reduceLeDiff,reduceLT,reduceEqDiff,reduceNeg,Nat.reduceBEq];done))));simp -implicitDefEqProofs (disch:=omega) only[go_sem,↓reduceIte,reduceAdd,reduceSub,reduceMul,reduceLeDiff,reduceLT,reduceEqDiff,reduceNeg,Nat.reduceBEq])|refine bE (by omega) ?_|(intro hr;have hc:=hr;(try simp only[zdz]at hc);simp -implicitDefEqProofs (disch:=omega) only[hr,go_sem,↓reduceIte,reduceAdd,reduceSub,reduceMul,reduceLeDiff,reduceLT,reduceEqDiff,reduceNeg,Nat.reduceBEq];(try clear hr))))
   ·exact bR (by rw[he,if_pos hc]) rfl
   ·rw[if_neg hc]at he;exact⟨(k+1,lV (l.getD k default).rest (lV (l.getD k default).kids q (d+1)) (d+1)),_,⟨by dsimp only;omega,b5.1,by dsimp only;omega,he⟩,by dsimp only;omega,rfl,rfl,by simp⟩
  ·rw[dQ (by omega),partsL]at he;exact bR (by rw[he]) rfl
theorem aLn:∀(t:LTerm),OkT t→(∀(m d:Int),-1≤m→m≤1000000→0≤d→d≤100→CT 73 [avt t.kids,.i .i64 m,.i .i64 d] (.i .i64 (lV t.kids m d)))∧(∀(m d:Int),-1≤m→m≤1000000→0≤d→d≤100→CT 73 [avt t.rest,.i .i64 m,.i .i64 d] (.i .i64 (lV t.rest m d))):=
 fW fun t hk hr ht=>⟨fun m d h1 h2 h3 h4=>aAl t.kids m d ht.kids ht.kid h1 h2 h3 h4 (fun u hu=>(hk u hu (ht.kid u hu)).1) (fun u hu=>(hk u hu (ht.kid u hu)).2),fun m d h1 h2 h3 h4=>aAl t.rest m d ht.rest ht.rst h1 h2 h3 h4 (fun u hu=>(hr u hu (ht.rst u hu)).1) (fun u hu=>(hr u hu (ht.rst u hu)).2)⟩
theorem bUq(l:List LTerm)(m d:Int)(hl:l.length≤1466015503701)(ho:∀t∈l,OkT t)(h1 : -1≤m)(h2:m≤1000000)(h3:0≤d)(h4:d≤100):CT 73 [avt l,.i .i64 m,.i .i64 d] (.i .i64 (lV l m d)):=
 aAl l m d hl ho h1 h2 h3 h4 (fun u hu=>(aLn u (ho u hu)).1) (fun u hu=>(aLn u (ho u hu)).2)
def bMv(most:Int)(l:List LTerm):Bool:=decide (0≤lV l most 0)
theorem aWf(m:Int)(l:List LTerm)(hl:l.length≤1466015503701)(ho:∀t∈l,OkT t)(h1:0≤m)(h2:m≤1000000): CT 29 [.i .i64 m,avt l] (.b (bMv m l)):=by
 refine dO dE Tryz.func29 g0 ?_
 ·simp -implicitDefEqProofs (disch:=omega) only[Tryz.f29,go_sem,List.replicate,↓reduceIte,reduceAdd,reduceSub,reduceMul,reduceLeDiff,reduceLT,reduceEqDiff,reduceNeg,Nat.reduceBEq,avt];(refine zt1 (bUq l m 0 hl ho (by omega) h2 (by decide) (by decide)) ?_;repeat' first|exact trivial|refine zJ ?_ ?_|refine zH fun hc=>?_);all_goals exact bR rfl rfl
end Go.Proofs.YtdjcggcjlphdoaaGreatDoor
