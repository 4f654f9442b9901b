/-
  Functions of the chapter, as plain functions of what they are given; no condition.
-/
import Derived.Test.YtdjcggcjlphdoaaGreatDoorVaP16
import Derived.Test.YtdjcggcjlphdoaaGreatDoorTeP12
import Derived.Test.YtdjcggcjlphdoaaGreatDoorTeP13
import Derived.Lib.ItoaLen
import Derived.Test.YtdjcggcjlphdoaaGreatDoorVaP13
import Derived.Test.YtdjcggcjlphdoaaGreatDoorVoP20
import Derived.Test.YtdjcggcjlphdoaaGreatDoorVaP14
set_option maxRecDepth 100000
set_option linter.unusedSimpArgs false
set_option linter.unusedVariables false
set_option maxHeartbeats 4000000
namespace Go.Proofs.YtdjcggcjlphdoaaGreatDoor
open Go Go.Vo
open Nat (reduceAdd reduceSub reduceMul reduceLeDiff reduceLT reduceEqDiff)
open Int (reduceNeg)
theorem aWa{x y:Str}(h:x<y):x≤y:=List.le_of_lt h
theorem X7{x:Str}:¬x<x:=lO x
theorem B6{x y z:Str}(h:x<y)(k:y≤z):x<z:=by
 rw[← List.not_le]at h ⊢;exact fun q=>h (List.le_trans k q)
theorem cDj{x y:Str}(h:x≤y)(k:x≠y):x<y:=by
 rw[← List.not_le];exact fun q=>k (List.le_antisymm h q)
theorem bWe{H:List AObj}{e:Int}:Fin H (.tup [.e0,.i .i64 e]) (.tup [avs [],.i .i64 e]):=.inr ⟨⟨rfl,rfl,trivial⟩,by simp[avs,dJ,finIdsL],by simp[avs,dJ,finIdsL]⟩
def aKf(l:List Str)(s:Str):List Str:=if s∈l then l else l.filter (fun x=>decide (x<s))++s::l.filter (fun x=>decide (s<x))
theorem bHv{l:List Str}{s x:Str}:x∈aKf l s↔x∈l∨x=s:=by
 unfold aKf;split
 ·rename_i h;constructor
  ·exact .inl
  ·rintro(h|rfl)<;>assumption
 ·rename_i h;simp only[bM,jV,cH,decide_eq_true_eq];constructor
  ·rintro(⟨a,_⟩|rfl|⟨a,_⟩)
   ·exact .inl a
   ·exact .inr rfl
   ·exact .inl a
  ·rintro(a|rfl)
   ·by_cases h1:x<s
    ·exact .inl ⟨a,h1⟩
    ·by_cases h2:s<x
     ·exact .inr (.inr ⟨a,h2⟩)
     ·exact .inr (.inl (List.le_antisymm (List.not_lt.1 h2) (List.not_lt.1 h1)))
   ·exact .inr (.inl rfl)
theorem bAx{l:List Str}{s:Str}(h:l.Pairwise (· < ·)):(aKf l s).Pairwise (· < ·):=by
 unfold aKf;split
 ·exact h
 ·rw[eC,gH];refine⟨h.filter _,⟨fun y hy=>?_,h.filter _⟩,fun x hx y hy=>?_⟩
  ·simpa using(jV.1 hy).2
  ·have h1:x<s:=by simpa using(jV.1 hx).2
   rcases cH.1 hy with rfl|hy
   ·exact h1
   ·exact B6 h1 (aWa (by simpa using(jV.1 hy).2))
theorem aOu{l:List Str}{s:Str}:(aKf l s).length≤l.length+1:=by
 unfold aKf;split
 ·omega
 ·rename_i hn;have:∀l:List Str,(l.filter fun x=>decide (x<s)).length+(l.filter fun x=>decide (s<x)).length≤l.length:=by
   intro l;induction l with
   |nil=>simp
   |cons x l ih=>
    rw[bB,bB];by_cases h1:x<s
    ·have h2:¬s<x:=fun h=>X7 (B6 h (aWa h1));simp[h1,h2];omega
    ·by_cases h2:s<x
     ·simp[h1,h2];omega
     ·simp[h1,h2];omega
  have:=this l;simp;omega
theorem bRx{l:List Str}{s:Str}{k:Nat}(hk:k≤l.length)(h1:∀j,j<k→l.getD j []<s)(h2:∀j,k≤j→j<l.length→s≤l.getD j [])(h3:¬(k<l.length∧l.getD k []=s))(hu:l.Pairwise (· < ·)):aKf l s=l.take k++s::l.drop k:=by
 have g:∀j (h:j<l.length),l.getD j []=l[j]:=fun j h=>by simp[List.getD,h]
 have h2':∀j,k≤j→j<l.length→s<l.getD j []:=fun j a b=>by
  refine cDj (h2 j a b) fun e=>?_;by_cases hj:j=k
  ·subst hj;exact h3 ⟨b,e.symm⟩
  ·have hlt:=dQ.1 hu k j (by omega) b (by omega);rw[← g k (by omega),← g j b,← e]at hlt;exact X7 (B6 hlt (h2 k (bK _) (by omega)))
 have hn:s∉l:=fun hm=>by
  obtain⟨j,hj,e⟩:=dC.1 hm;rw[← g j hj]at e;by_cases hjk:j<k
  ·have:=h1 j hjk;rw[e]at this;exact X7 this
  ·have:=h2' j (by omega) hj;rw[e]at this;exact X7 this
 have a1:(l.take k).filter (fun x=>decide (x<s))=l.take k:=bBe.2 fun x hx=>by
  obtain⟨j,hj,e⟩:=dC.1 hx;rw[List.length_take]at hj;rw[List.getElem_take]at e;rw[← e,← g j (by omega)];exact zt (h1 j (by omega))
 have a2:(l.drop k).filter (fun x=>decide (x<s))=[]:=List.filter_eq_nil_iff.2 fun x hx=>by
  obtain⟨j,hj,e⟩:=dC.1 hx;rw[dI]at hj;rw[List.getElem_drop]at e;rw[← e,← g (k+j) (by omega)];have:=h2' (k+j) (by omega) (by omega);simp only[decide_eq_true_eq];exact fun h=>X7 (B6 h (aWa this))
 have b1:(l.take k).filter (fun x=>decide (s<x))=[]:=List.filter_eq_nil_iff.2 fun x hx=>by
  obtain⟨j,hj,e⟩:=dC.1 hx;rw[List.length_take]at hj;rw[List.getElem_take]at e;rw[← e,← g j (by omega)];have:=h1 j (by omega);simp only[decide_eq_true_eq];exact fun h=>X7 (B6 h (aWa this))
 have b2:(l.drop k).filter (fun x=>decide (s<x))=l.drop k:=bBe.2 fun x hx=>by
  obtain⟨j,hj,e⟩:=dC.1 hx;rw[dI]at hj;rw[List.getElem_drop]at e;rw[← e,← g (k+j) (by omega)];exact zt (h2' (k+j) (by omega) (by omega))
 have c1:l.filter (fun x=>decide (x<s))=l.take k:=by
  conv=>lhs;rw[← cI k l]
  rw[List.filter_append,a1,a2,List.append_nil]
 have c2:l.filter (fun x=>decide (s<x))=l.drop k:=by
  conv=>lhs;rw[← cI k l]
  rw[List.filter_append,b1,b2,aJ]
 rw[aKf,if_neg hn,c1,c2]
def aCg(g g':List AObj):Prop:=∀(i:Nat) (o:AObj),g[i]? = some o→(∀c:List AV,o ≠ .arr false 1 c)→g'[i]? = some o
theorem aCg.refl(g:List AObj):aCg g g:=fun _ _ h _=>h
theorem aCg.trans{a b c:List AObj}(h:aCg a b)(k:aCg b c):aCg a c:=fun i o x y=>k i o (h i o x y) y
theorem aCg.app(g m:List AObj):aCg g (g++m):=fun i o x _=>by rw[aG (bP x)];exact x
abbrev bSg(l':List Str)(h:List AObj):AV→List AObj→Prop:=fun r h'=>jI 1 0 h' r (l'.map .s) l'.length∧aCg h h'
theorem bTk(s:Str)(h:List AObj): ACalls Tryz.prog G0 145 [.e0,.s s] h (bSg [s] h):=by
 refine eJ (rx:=true) (th:=fun _=>none) cZ Tryz.func145 ?_
 ·simp -implicitDefEqProofs (disch:=omega) only[Tryz.f145,go_sem,List.replicate,↓reduceIte,reduceAdd,reduceSub,reduceMul,reduceLeDiff,reduceLT,reduceEqDiff,reduceNeg,Nat.reduceBEq];(refine zs0 ?_;repeat' first|exact trivial|refine zJ ?_ ?_|refine zH fun hc=>?_);refine dF (fun(k:Nat)=>(rp 5 .k (.v (.i .i64 (k:Nat))::.k::.k::(rp 13 .j (rp 24 .k []))))) (fun k=>h) (fun k=>k=0) (fun k=>k) (0) rfl rfl (by simp[hZ]) ?_;rintro k j rfl;simp -implicitDefEqProofs (disch:=omega) only[go_sem,↓reduceIte,reduceAdd,reduceSub,reduceMul,reduceLeDiff,reduceLT,reduceEqDiff,reduceNeg,Nat.reduceBEq];(repeat'(first|refine gT ?_ ?_|refine gF ?_ ?_|refine gC ?_ ?_|refine bX (by omega) ?_|(intro hr;have hc:=hr;(try simp only[zdz]at hc);simp -implicitDefEqProofs (disch:=omega) only[hr,go_sem,↓reduceIte,reduceAdd,reduceSub,reduceMul,reduceLeDiff,reduceLT,reduceEqDiff,reduceNeg,Nat.reduceBEq];(try clear hr))))
  ·exact absurd hc (by decide)
  ·exact⟨.inr ⟨h.length+2,rfl,by simp,rfl⟩,.app _ _⟩
theorem bTj(l:List Str)(s:Str)(i:Nat)(h:List AObj)(hl:l.length≤1000000)(hu:l.Pairwise (· < ·))(hi:h[i]? = some (.arr false 1 (l.map .s))): ACalls Tryz.prog G0 145 [.hs i 0 l.length false,.s s] h (bSg (aKf l s) h):=by
 refine eJ (rx:=true) (th:=fun _=>none) cZ Tryz.func145 ?_
 ·simp -implicitDefEqProofs (disch:=omega) only[Tryz.f145,go_sem,List.replicate,↓reduceIte,reduceAdd,reduceSub,reduceMul,reduceLeDiff,reduceLT,reduceEqDiff,reduceNeg,Nat.reduceBEq,hi];have hlt:=bP hi;have hi2:∀m:List AObj,(h++m)[i]? = some (.arr false 1 (l.map .s)):=fun m=>by rw[aG hlt];exact hi
  refine dF (fun(k:Nat)=>(rp 5 .k (.v (.i .i64 (k:Nat))::.k::.k::(rp 13 .j (rp 24 .k []))))) (fun k=>h) (fun k=>k≤l.length∧∀j,k≤j→j<l.length→s≤l.getD j []) (fun k=>k) (l.length) ⟨bK _,fun j a b=>by omega⟩ rfl (by simp[hZ]) ?_;rintro k j ⟨hk,ha⟩;have q1:(k+(l.length-k)≤l.length)=True:=eq_true (by omega);have q2:((1+(l.length-k))*16≤140737488355328)=True:=eq_true (by omega);have q3:(1+(l.length-k)≤140737488355328)=True:=eq_true (by omega);have q4:((k+(1+(l.length-k)))*16≤140737488355328)=True:=eq_true (by omega);have q5:(k+(1+(l.length-k))≤140737488355328)=True:=eq_true (by omega);have q6:(0<1+(l.length-k))=True:=eq_true (by omega);have q7:(1+(l.length-k)≤l.length-k+1)=True:=eq_true (by omega);have q8:(k≤l.length)=True:=eq_true hk;have q9:(l.drop k).take (l.length-k)=l.drop k:=bE (by simp);have q10:List.take (1+(l.length-k)) (AV.s s::List.map AV.s (List.drop k l))=AV.s s::List.map AV.s (List.drop k l):=bE (by simp;omega);have g:∀j (h:j<l.length),l.getD j []=l[j]:=fun j h=>by simp[List.getD,h]
  have hb:(0<k→l.getD (k-1) []<s)→∀j,j<k→l.getD j []<s:=fun h j hj=>by
   have h:=h (by omega);by_cases e:j=k-1
   ·rw[e];exact h
   ·have:=dQ.1 hu j (k-1) (by omega) (by omega) (by omega);rw[← g j (by omega),← g (k-1) (by omega)]at this;exact B6 this (aWa h)
  have yes:k<l.length→l.getD k []=s→aKf l s=l:=fun h e=>by
   rw[aKf,if_pos];rw[← e,g k h];exact qK h
  refine zh hi ?_;(refine zx0 (zA2 hi (zA2 hi2 (zA2 q1 (zA2 q2 (zA2 q3 (zA2 q4 (zA2 q5 (zA2 q6 (zA2 q7 (zA2 q8 (zA2 q9 q10))))))))))) ?_;repeat' first|exact trivial|refine zJ ?_ ?_|refine zH fun hc=>?_)
  ·refine⟨k-1,⟨by omega,fun j a b=>?_⟩,by omega,by congr 1;omega⟩;by_cases e:j=k-1
   ·rw[e];rw[bytesLess_eq,decide_eq_false_iff_not]at hc;exact List.not_lt.1 hc
   ·exact ha j (by omega) b
  all_goals first
   |(rw[yes (by omega) (by assumption)];exact⟨.inr ⟨i,rfl,hi,by simp⟩,.refl _⟩)
   |skip
  all_goals
   have hb1:∀j,j<k→l.getD j []<s:=hb (fun h=>by first|(exfalso;omega)|(simp only[bytesLess_eq,decide_eq_true_eq]at *;assumption))
   have hx:=bRx hk hb1 ha (by first|exact fun h=>absurd h.1 (by omega)|exact fun h=>absurd h.2 (by assumption)) hu
   rw[hx]
   refine⟨.inr ⟨h.length+2,?_,?_,?_⟩,.app _ _⟩
   ·rw[List.length_append,List.length_take,aQ,dI,Nat.min_eq_left hk];congr 1;omega
   ·first|(simp;done)|(simp[bE (show l.length≤k by omega)];done)
   ·simp
theorem cIs(l:List Str)(s:Str)(out:AV)(h:List AObj)(hl:l.length≤1000000)(hu:l.Pairwise (· < ·))(ho:jI 1 0 h out (l.map .s) l.length):ACalls Tryz.prog G0 145 [out,.s s] h (bSg (aKf l s) h):=by
 rcases ho with⟨rfl,e1,e2⟩|⟨i,rfl,hi,hil⟩
 ·have:l=[]:=eB.1 e2;subst this;exact bTk s h
 ·exact bTj l s i h hl hu hi
def tC(v:LTerm×Int)(l:List Str):List Str:=if v.1.kind=6∧¬v.1.text=[95]then aKf l v.1.text else l
theorem bRy{v:LTerm×Int}{l:List Str}(h:l.Pairwise (· < ·)):(tC v l).Pairwise (· < ·):=by
 unfold tC;split
 ·exact bAx h
 ·exact h
theorem bHw{v:LTerm×Int}{l:List Str}:(tC v l).length≤l.length+1:=by
 unfold tC;split
 ·exact aOu
 ·omega
theorem aAd:∀{vs:List (LTerm×Int)} {l:List Str},l.Pairwise (· < ·)→(oB tC l vs).Pairwise (· < ·)
 | [],l,h=>h
 |v::vs,l,h=>aAd (vs:=vs) (bRy h)
theorem xU:∀{vs:List (LTerm×Int)} {l:List Str},(oB tC l vs).length≤l.length+vs.length
 | [],l=>by simp[oB]
 |v::vs,l=>by
  have:=xU (vs:=vs) (l:=tC v l);have h2:=bHw (v:=v) (l:=l);show(oB tC (tC v l) vs).length≤_;rw[aQ];omega
theorem bTh(t:LTerm)(d:Int)(l:List Str)(out:AV)(h:List AObj)(ht:OkT t)(hlen:t.kids.length+t.rest.length≤1000000)(hu:l.Pairwise (· < ·))(hl:l.length+(vis t d).length≤1000000)(ho:jI 1 0 h out (l.map .s) l.length)(ih:∀k∈t.kids++t.rest,∀(l:List Str) (out:AV) (h:List AObj),l.Pairwise (· < ·)→l.length+(vis k (d+1)).length≤1000000→jI 1 0 h out (l.map .s) l.length→ACalls Tryz.prog G0 79 [out,elT k] h (bSg (oB tC l (vis k (d+1))) h)): ACalls Tryz.prog G0 79 [out,elT t] h (bSg (oB tC l (vis t d)) h):=by
 refine eJ (rx:=true) (th:=fun _=>none) cZ Tryz.func79 ?_
 ·simp -implicitDefEqProofs (disch:=omega) only[Tryz.f79,go_sem,List.replicate,↓reduceIte,reduceAdd,reduceSub,reduceMul,reduceLeDiff,reduceLT,reduceEqDiff,reduceNeg,Nat.reduceBEq];have hvl:(vis t d).length=1+(visL (t.kids++t.rest) (d+1)).length:=by rw[pW,aQ];omega
  have hr:oB tC l (vis t d)=oB tC (tC (t,d) l) (visL (t.kids++t.rest) (d+1)):=by rw[pW];rfl
  rw[hr];have cv:=cIs l t.text out (h++[.box false (tmC t)]) (by omega) hu (ho.more _);have hoL:∀x∈t.kids++t.rest,OkT x:=fun x hx=>by
   rcases bM.1 hx with hx|hx
   ·exact ht.kid x hx
   ·exact ht.rst x hx
  have hfl:t.kids.flatMap aP++t.rest.flatMap aP=(t.kids++t.rest).flatMap aP:=List.flatMap_append.symm;have hfn:t.kids.length+t.rest.length=(t.kids++t.rest).length:=List.length_append.symm;have f1:∀l:List LTerm,(l.flatMap aP).length=l.length*6:=fun l=>mJ;have q1:=f1 t.kids;have q2:=f1 t.rest;have b1:(t.kids.length*96≤140737488355328)=True:=eq_true (by omega);have b2:(t.kids.length≤140737488355328)=True:=eq_true (by omega);have b3:((t.kids.length+t.rest.length)*96≤140737488355328)=True:=eq_true (by omega);have b4:(t.kids.length+t.rest.length≤140737488355328)=True:=eq_true (by omega);have tl1:List.take (t.rest.length*6) (t.rest.flatMap aP)=t.rest.flatMap aP:=bE (by rw[f1];exact bK _);have key:∀(P:Prop),P→P:=fun _ h=>h;by_cases h6:t.kind=6
  ·by_cases h95:t.text=[95]
   ·have he:tC (t,d) l=l:=by rw[tC,if_neg (by simp[h95])]
    rw[he];refine zh (zA2 (zt h6) (zA2 (zt h95) (zA2 b1 (zA2 b2 (zA2 b3 b4))))) ?_;(repeat'(first|refine gT ?_ ?_|refine gF ?_ ?_|refine gC ?_ ?_|refine bX (by omega) ?_|(intro hr;have hc:=hr;(try simp only[zdz]at hc);simp -implicitDefEqProofs (disch:=omega) only[hr,zt h6,zt h95,b1,b2,b3,b4,q1,q2,tl1,hfl,hfn,List.length_append,List.append_nil,go_sem,↓reduceIte,reduceAdd,reduceSub,reduceMul,reduceLeDiff,reduceLT,reduceEqDiff,reduceNeg,Nat.reduceBEq];(try clear hr))));rw[hfl,hfn];generalize t.kids++t.rest=L at *
    refine dF (fun(s:Nat×List Str×AV×List AObj)=>[.v (s.2.2.1),.k,.k,.k,.k,.k,.j,.k,.k,.k,.k,.k,.k,.k,.k,.k,.k,.k,.k,.k,.k,.k,.k,.k,.k,.k,.k,.v (.i .i64 (s.1:Nat)),.j,.j,.j,.j,.j,.j,.j,.k]) (fun s=>s.2.2.2) (fun s=>s.1≤L.length∧s.2.1.Pairwise (· < ·)∧s.2.1.length+(visL (L.drop s.1) (d+1)).length≤1000000∧oB tC l (visL L (d+1))=oB tC s.2.1 (visL (L.drop s.1) (d+1))∧jI 1 0 s.2.2.2 s.2.2.1 (s.2.1.map .s) s.2.1.length∧aCg h s.2.2.2∧s.2.2.2[h.length+2]? = some (.arr false 6 (L.flatMap aP))) (fun s=>L.length-s.1) ((0,l,out,h++[.box false (tmC t),.dead,.arr false 6 (L.flatMap aP)])) ⟨bJ _,hu,(show l.length+(visL L (d+1)).length≤1000000 by omega),rfl,ho.more _,(aCg.app _ _),by simp⟩ rfl (by simp[hZ]) ?_;rintro⟨k,l2,out2,H2⟩ j ⟨hk,hu2,hl2,he2,ho2,hs3,hc2⟩;dsimp only at hk hu2 hl2 he2 ho2 hs3 hc2;have hlt2:=bP hc2;have hc3:∀m:List AObj,(H2++m)[h.length+2]? = some (.arr false 6 (L.flatMap aP)):=fun m=>by rw[aG hlt2];exact hc2
    by_cases hkl:k<L.length
    ·have hki:(k:Int)<((L.length:Nat):Int):=by omega
     rw[J5 hkl]at he2 hl2;rw[rL]at he2;rw[List.length_append]at hl2;have hm:=cT (d:=default) hkl;have ci:=ih _ hm l2 out2 (H2++[.box false (tmC (L.getD k default))]) hu2 (by omega) (ho2.more _);simp only[elT,aW,avt]at ci;have hln:=xU (vs:=vis (L.getD k default) (d+1)) (l:=l2);refine zh (zA2 (zt hki) (zA2 hc2 hc3)) ?_;(refine zx0 (zA2 (zt hki) (zA2 hc2 hc3)) ?_;repeat' first|exact trivial|refine zJ ?_ ?_|refine zH fun hc=>?_);refine fM ci ?_;rintro out3 H3 ⟨ho3,hs4⟩;refine zg ?_;have hc4:H3[h.length+2]? = some (.arr false 6 (L.flatMap aP)):=hs4 _ _ (hc3 _) (fun c h=>by cases h);exact⟨(k+1,oB tC l2 (vis (L.getD k default) (d+1)),out3,H3),⟨by dsimp only;omega,aAd hu2,by dsimp only;omega,he2,ho3,hs3.trans ((aCg.app _ _).trans hs4),hc4⟩,by dsimp only;omega,rfl,by simp⟩
    ·have hki:¬(k:Int)<((L.length:Nat):Int):=by omega
     refine zh (zA2 (zf hki) hc2) ?_;(refine zx0 (zA2 (zf hki) hc2) ?_;repeat' first|exact trivial|refine zJ ?_ ?_|refine zH fun hc=>?_);rw[cV (by omega)]at he2;rw[he2];exact⟨ho2,hs3⟩
   ·have he:tC (t,d) l=aKf l t.text:=by rw[tC,if_pos ⟨h6,h95⟩]
    rw[he];have hu1:=bAx (s:=t.text) hu;have hl1:=aOu (l:=l) (s:=t.text);refine zh (zA2 (zt h6) (zf h95)) ?_;(refine zx0 (zA2 (zt h6) (zf h95)) ?_;repeat' first|exact trivial|refine zJ ?_ ?_|refine zH fun hc=>?_);refine fM cv ?_;rintro out1 H1 ⟨ho1,hs1⟩;have hb:H1[h.length]? = some (.box false (tmC t)):=hs1 _ _ (by simp) (fun c h=>by cases h);have hs2:aCg h H1:=(aCg.app h _).trans hs1;generalize aKf l t.text=l1 at *
    have hlt:=bP hb;have hb2:∀m:List AObj,(H1++m)[h.length]? = some (.box false (tmC t)):=fun m=>by rw[aG hlt];exact hb
    refine zh (zA2 hb (zA2 hb2 (zA2 b1 (zA2 b2 (zA2 b3 b4))))) ?_;(repeat'(first|refine gT ?_ ?_|refine gF ?_ ?_|refine gC ?_ ?_|refine bX (by omega) ?_|(intro hr;have hc:=hr;(try simp only[zdz]at hc);simp -implicitDefEqProofs (disch:=omega) only[hr,hb,hb2,b1,b2,b3,b4,q1,q2,tl1,hfl,hfn,List.length_append,List.append_nil,go_sem,↓reduceIte,reduceAdd,reduceSub,reduceMul,reduceLeDiff,reduceLT,reduceEqDiff,reduceNeg,Nat.reduceBEq];(try clear hr))));rw[hfl,hfn];generalize t.kids++t.rest=L at *
    refine dF (fun(s:Nat×List Str×AV×List AObj)=>[.v (s.2.2.1),.k,.k,.k,.k,.k,.j,.k,.k,.k,.k,.k,.k,.k,.k,.k,.k,.k,.k,.k,.k,.k,.k,.k,.k,.k,.k,.v (.i .i64 (s.1:Nat)),.j,.j,.j,.j,.j,.j,.j,.k]) (fun s=>s.2.2.2) (fun s=>s.1≤L.length∧s.2.1.Pairwise (· < ·)∧s.2.1.length+(visL (L.drop s.1) (d+1)).length≤1000000∧oB tC l1 (visL L (d+1))=oB tC s.2.1 (visL (L.drop s.1) (d+1))∧jI 1 0 s.2.2.2 s.2.2.1 (s.2.1.map .s) s.2.1.length∧aCg h s.2.2.2∧s.2.2.2[H1.length+1]? = some (.arr false 6 (L.flatMap aP))) (fun s=>L.length-s.1) ((0,l1,out1,H1++[.dead,.arr false 6 (L.flatMap aP)])) ⟨bJ _,hu1,(show l1.length+(visL L (d+1)).length≤1000000 by omega),rfl,ho1.more _,(hs2.trans (.app _ _)),by simp⟩ rfl (by simp[hZ]) ?_;rintro⟨k,l2,out2,H2⟩ j ⟨hk,hu2,hl2,he2,ho2,hs3,hc2⟩;dsimp only at hk hu2 hl2 he2 ho2 hs3 hc2;have hlt2:=bP hc2;have hc3:∀m:List AObj,(H2++m)[H1.length+1]? = some (.arr false 6 (L.flatMap aP)):=fun m=>by rw[aG hlt2];exact hc2
    by_cases hkl:k<L.length
    ·have hki:(k:Int)<((L.length:Nat):Int):=by omega
     rw[J5 hkl]at he2 hl2;rw[rL]at he2;rw[List.length_append]at hl2;have hm:=cT (d:=default) hkl;have ci:=ih _ hm l2 out2 (H2++[.box false (tmC (L.getD k default))]) hu2 (by omega) (ho2.more _);simp only[elT,aW,avt]at ci;have hln:=xU (vs:=vis (L.getD k default) (d+1)) (l:=l2);refine zh (zA2 (zt hki) (zA2 hc2 hc3)) ?_;(refine zx0 (zA2 (zt hki) (zA2 hc2 hc3)) ?_;repeat' first|exact trivial|refine zJ ?_ ?_|refine zH fun hc=>?_);refine fM ci ?_;rintro out3 H3 ⟨ho3,hs4⟩;refine zg ?_;have hc4:H3[H1.length+1]? = some (.arr false 6 (L.flatMap aP)):=hs4 _ _ (hc3 _) (fun c h=>by cases h);exact⟨(k+1,oB tC l2 (vis (L.getD k default) (d+1)),out3,H3),⟨by dsimp only;omega,aAd hu2,by dsimp only;omega,he2,ho3,hs3.trans ((aCg.app _ _).trans hs4),hc4⟩,by dsimp only;omega,rfl,by simp⟩
    ·have hki:¬(k:Int)<((L.length:Nat):Int):=by omega
     refine zh (zA2 (zf hki) hc2) ?_;(refine zx0 (zA2 (zf hki) hc2) ?_;repeat' first|exact trivial|refine zJ ?_ ?_|refine zH fun hc=>?_);rw[cV (by omega)]at he2;rw[he2];exact⟨ho2,hs3⟩
  ·have he:tC (t,d) l=l:=by rw[tC,if_neg (by simp[h6])]
   rw[he];refine zh (zA2 (zf h6) (zA2 b1 (zA2 b2 (zA2 b3 b4)))) ?_;(repeat'(first|refine gT ?_ ?_|refine gF ?_ ?_|refine gC ?_ ?_|refine bX (by omega) ?_|(intro hr;have hc:=hr;(try simp only[zdz]at hc);simp -implicitDefEqProofs (disch:=omega) only[hr,zf h6,b1,b2,b3,b4,q1,q2,tl1,hfl,hfn,List.length_append,List.append_nil,go_sem,↓reduceIte,reduceAdd,reduceSub,reduceMul,reduceLeDiff,reduceLT,reduceEqDiff,reduceNeg,Nat.reduceBEq];(try clear hr))));rw[hfl,hfn];generalize t.kids++t.rest=L at *
   refine dF (fun(s:Nat×List Str×AV×List AObj)=>[.v (s.2.2.1),.k,.k,.k,.k,.k,.j,.k,.k,.k,.k,.k,.k,.k,.k,.k,.k,.k,.k,.k,.k,.k,.k,.k,.k,.k,.k,.v (.i .i64 (s.1:Nat)),.j,.j,.j,.j,.j,.j,.j,.k]) (fun s=>s.2.2.2) (fun s=>s.1≤L.length∧s.2.1.Pairwise (· < ·)∧s.2.1.length+(visL (L.drop s.1) (d+1)).length≤1000000∧oB tC l (visL L (d+1))=oB tC s.2.1 (visL (L.drop s.1) (d+1))∧jI 1 0 s.2.2.2 s.2.2.1 (s.2.1.map .s) s.2.1.length∧aCg h s.2.2.2∧s.2.2.2[h.length+2]? = some (.arr false 6 (L.flatMap aP))) (fun s=>L.length-s.1) ((0,l,out,h++[.box false (tmC t),.dead,.arr false 6 (L.flatMap aP)])) ⟨bJ _,hu,(show l.length+(visL L (d+1)).length≤1000000 by omega),rfl,ho.more _,(aCg.app _ _),by simp⟩ rfl (by simp[hZ]) ?_;rintro⟨k,l2,out2,H2⟩ j ⟨hk,hu2,hl2,he2,ho2,hs3,hc2⟩;dsimp only at hk hu2 hl2 he2 ho2 hs3 hc2;have hlt2:=bP hc2;have hc3:∀m:List AObj,(H2++m)[h.length+2]? = some (.arr false 6 (L.flatMap aP)):=fun m=>by rw[aG hlt2];exact hc2
   by_cases hkl:k<L.length
   ·have hki:(k:Int)<((L.length:Nat):Int):=by omega
    rw[J5 hkl]at he2 hl2;rw[rL]at he2;rw[List.length_append]at hl2;have hm:=cT (d:=default) hkl;have ci:=ih _ hm l2 out2 (H2++[.box false (tmC (L.getD k default))]) hu2 (by omega) (ho2.more _);simp only[elT,aW,avt]at ci;have hln:=xU (vs:=vis (L.getD k default) (d+1)) (l:=l2);refine zh (zA2 (zt hki) (zA2 hc2 hc3)) ?_;(refine zx0 (zA2 (zt hki) (zA2 hc2 hc3)) ?_;repeat' first|exact trivial|refine zJ ?_ ?_|refine zH fun hc=>?_);refine fM ci ?_;rintro out3 H3 ⟨ho3,hs4⟩;refine zg ?_;have hc4:H3[h.length+2]? = some (.arr false 6 (L.flatMap aP)):=hs4 _ _ (hc3 _) (fun c h=>by cases h);exact⟨(k+1,oB tC l2 (vis (L.getD k default) (d+1)),out3,H3),⟨by dsimp only;omega,aAd hu2,by dsimp only;omega,he2,ho3,hs3.trans ((aCg.app _ _).trans hs4),hc4⟩,by dsimp only;omega,rfl,by simp⟩
   ·have hki:¬(k:Int)<((L.length:Nat):Int):=by omega
    refine zh (zA2 (zf hki) hc2) ?_;(refine zx0 (zA2 (zf hki) hc2) ?_;repeat' first|exact trivial|refine zJ ?_ ?_|refine zH fun hc=>?_);rw[cV (by omega)]at he2;rw[he2];exact⟨ho2,hs3⟩
theorem cCg:∀(t:LTerm),OkT t→(∀d,∀v∈vis t d,v.1.kids.length+v.1.rest.length≤1000000)→∀(d:Int) (l:List Str) (out:AV) (h:List AObj),l.Pairwise (· < ·)→l.length+(vis t d).length≤1000000→jI 1 0 h out (l.map .s) l.length→ACalls Tryz.prog G0 79 [out,elT t] h (bSg (oB tC l (vis t d)) h):=
 fH (Q := fun t=>OkT t→(∀d,∀v∈vis t d,v.1.kids.length+v.1.rest.length≤1000000)→∀(d:Int) (l:List Str) (out:AV) (h:List AObj),l.Pairwise (· < ·)→l.length+(vis t d).length≤1000000→jI 1 0 h out (l.map .s) l.length→ACalls Tryz.prog G0 79 [out,elT t] h (bSg (oB tC l (vis t d)) h)) fun t hk hr ht hw d l out h hu hl ho=>by
  have sub:∀k∈t.kids++t.rest,∀d,∀v∈vis k d,v∈visL (t.kids++t.rest) d:=by
   intro k hkm d v hv;generalize t.kids++t.rest=L at *
   induction L with
   |nil=>cases hkm
   |cons x L ih=>
    rw[visL,bM];rcases cH.1 hkm with rfl|hm
    ·exact .inl hv
    ·exact .inr (ih hm)
  have hwk:∀k∈t.kids++t.rest,∀d,∀v∈vis k d,v.1.kids.length+v.1.rest.length≤1000000:=fun k hkm d v hv=>hw (d-1) v (by
   rw[pW,cH,show d-1+1=d by omega];exact .inr (sub k hkm d v hv))
  refine bTh t d l out h ht (hw d (t,d) (by rw[pW];simp)) hu hl ho fun k hm l out h hu hl ho=>?_;rcases bM.1 hm with hm'|hm'
  ·exact hk k hm' (ht.kid k hm') (hwk k hm) (d+1) l out h hu hl ho
  ·exact hr k hm' (ht.rst k hm') (hwk k hm) (d+1) l out h hu hl ho
theorem bFv{H:List AObj}{i:Nat}{l:List Str}{e:Int}(hid:H[i]? = some (.arr false 1 (l.map .s)))(hl:(l.map AV.s).length=l.length*1):Fin H (.tup [.hs (i+0) 0 l.length false,.i .i64 e]) (.tup [avs l,.i .i64 e]):=by
 have e1:oM H (.hs i 0 l.length false) (.sl (l.map .s) l.length):=by
  show AV.sl _ _=gZ dep H (.hs i 0 l.length false);have hw:0+l.length*1≤(l.map AV.s).length:=by rw[hl];omega
  have hd:((l.map AV.s).drop 0).take (l.length*1)=l.map AV.s:=by rw[bG,bE (by rw[hl];exact bK _)]
  simp only[gE,pers,rQ,hid,hd,mA,if_true,aE,if_false,if_pos hw]
 exact .inr ⟨⟨e1,rfl,trivial⟩,by simp[avs,dJ,finIdsL],by simp[avs,dJ,finIdsL]⟩
def S7(t:LTerm):List Str:=oB tC [] (vis t 1)
theorem bQr(t:LTerm)(ht:OkT t)(hv:iA nodeB t=true): CT 33 [elT t] (.tup [avs (S7 t),.i .i64 0]):=by
 refine eG cZ Tryz.func33 g0 ?_
 ·generalize hR:((.tup [avs (S7 t),.i .i64 0]):AV)=R;simp -implicitDefEqProofs (disch:=omega) only[Tryz.f33,go_sem,List.replicate,↓reduceIte,reduceAdd,reduceSub,reduceMul,reduceLeDiff,reduceLT,reduceEqDiff,reduceNeg,Nat.reduceBEq];have c:=bYt t ht;rw[hv]at c;have hw:=oF hv;have hn:nodesT t≤2000:=by simp only[iA,aA,decide_eq_true_eq]at hv;omega
  have c2:=cCg t ht (fun d v h=>by have:=(aSi t hw d v h).len;omega) 1 [] .e0 [.box false (tmC t)] (by simp) (by rw[aHn t hw];simp;omega) kX;rw[← S7]at c2;simp only[elT,aW,avt]at c2;(refine zt1 c ?_;repeat' first|exact trivial|refine zJ ?_ ?_|refine zH fun hc=>?_);refine fM c2 ?_;rintro r h' ⟨ho,hs⟩;refine zg ?_;subst hR;rcases ho with⟨rfl,e1,e2⟩|⟨i,rfl,hi,hil⟩
  ·rw[eB.1 e2];exact bWe
  ·exact bFv hi hil
end Go.Proofs.YtdjcggcjlphdoaaGreatDoor
