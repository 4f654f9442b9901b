/-
  Functions of the chapter, as plain functions of what they are given; no condition.
-/
import Derived.Test.YtdjcggcjlphdoaaGreatDoorSoP71
import Derived.Test.YtdjcggcjlphdoaaGreatDoorSoP72
import Derived.Sort.Walk0
set_option maxRecDepth 100000
set_option linter.unusedSimpArgs false
set_option linter.unusedVariables false
set_option maxHeartbeats 4000000
namespace Go.Proofs.YtdjcggcjlphdoaaGreatDoor
open Go Go.Vo
open Nat (reduceAdd reduceSub reduceMul reduceLeDiff reduceLT reduceEqDiff)
open Int (reduceNeg)
inductive OkT:LTerm→Prop
 |mk {t:LTerm}:t.text.length≤140737488355328→t.sort.length≤140737488355328 → -9223372036854775808≤t.n→t.n≤9223372036854775807→t.kids.length≤1466015503701→t.rest.length≤1466015503701→(∀k∈t.kids,OkT k)→(∀k∈t.rest,OkT k)→OkT t
section
variable {t:LTerm} (h:OkT t)
include h
theorem OkT.text:t.text.length≤140737488355328:=by cases h;assumption
theorem OkT.sort:t.sort.length≤140737488355328:=by cases h;assumption
theorem OkT.nlo : -9223372036854775808≤t.n:=by cases h;assumption
theorem OkT.nhi:t.n≤9223372036854775807:=by cases h;assumption
theorem OkT.kids:t.kids.length≤1466015503701:=by cases h;assumption
theorem OkT.rest:t.rest.length≤1466015503701:=by cases h;assumption
theorem OkT.kid:∀k∈t.kids,OkT k:=by cases h;assumption
theorem OkT.rst:∀k∈t.rest,OkT k:=by cases h;assumption
end
def elT(t:LTerm):AV:=.agg (aU t)
section
variable (k n:Int) (t s:Str) (ks rs:List LTerm)
theorem bLy:(LTerm.mk k n t s ks rs).kind=k:=rfl
theorem cFt:(LTerm.mk k n t s ks rs).n=n:=rfl
theorem bJc:(LTerm.mk k n t s ks rs).text=t:=rfl
theorem bJn:(LTerm.mk k n t s ks rs).sort=s:=rfl
theorem bLz:(LTerm.mk k n t s ks rs).kids=ks:=rfl
theorem bJy:(LTerm.mk k n t s ks rs).rest=rs:=rfl
end
theorem bZg:((2:Int)=0)=False:=by decide
attribute [go_sem] bZg ite_self elT bLy cFt bJc bJn bLz bJy
theorem zdB:(∀l,avs l=.sl (l.map .s) l.length)∧(∀l,avb l=.sl (l.flatMap fX) l.length)∧(∀l,avi l=.sl (l.map (.i .i64)) l.length)∧(∀l,avo l=.sl (l.flatMap fR) l.length)∧(∀s,dW s=[avs s.sorts,avb s.below,avo s.ops,avo s.funs,avs s.values])∧(∀o,fR o=[.s o.name,avs o.args,.s o.sort,avb o.pieces,.i .i64 o.prec,.i .i64 o.assoc,avi o.strict])∧(∀b,fX b=[.s b.1,.s b.2])∧(∀t,elT t=.agg (aU t))∧(∀l,avt l=.sl (l.flatMap aU) l.length)∧(∀t,aU t=[.i .i64 t.kind,.i .i64 t.n,.s t.text,.s t.sort,avt t.kids,avt t.rest]):=⟨fun _=>rfl,fun _=>rfl,fun _=>rfl,fun _=>rfl,fun _=>rfl,fun _=>rfl,fun _=>rfl,fun _=>rfl,fun _=>rfl,aL⟩
theorem cF{P:Program}{G:Glob}{dr:Option DR}{d:Option Nat}{os:List fZ}{K:List AV→List AObj→Prop}{env:List AV}{h:List AObj}{f:FuncId}{A A':List AV}{r:AV}(s:Ctr P G f A' r)
 (k:dM P G dr os K (iE env d (mat r (gM r h A)).1) (mat r (gM r h A)).2) (hA:A.map (iA dep h)=A':=by(simp -implicitDefEqProofs (disch:=omega) only[zdB,go_sem,↓reduceIte,reduceAdd,reduceSub,reduceMul,reduceLeDiff,reduceLT,reduceEqDiff,reduceNeg,Nat.reduceBEq];done)):zN P G dr f A d os K env h:=bJ s hA k
theorem zt1{K1:Prop}{p q:Prop}(k1:K1)(h:q)(e:K1→Cv q p:=by
 intro k1;repeat' first|with_reducible apply vT|with_reducible apply vF|with_reducible apply vC|((first|((with_reducible apply vE);(focus exact k1);(focus(simp -implicitDefEqProofs (disch:=omega) only[zdB,go_sem,simprocAttr];done)))|((with_reducible apply vE);(focus(apply k1<;>omega));(focus(simp -implicitDefEqProofs (disch:=omega) only[zdB,go_sem,simprocAttr];done)))|((with_reducible apply vR);focus exact k1 ..));simp -implicitDefEqProofs (disch:=omega) only[go_sem,simprocAttr])|((with_reducible apply vA);focus omega)|((with_reducible apply vI);(focus(intro hr;(try simp only[zdz]at hr);exact hr));intro hr;have hc:=hr;(try simp only[zdz]at hc);simp -implicitDefEqProofs (disch:=omega) only[hr,go_sem,simprocAttr];(try clear hr))
 any_goals exact vS):p:=(e k1).1 h
theorem zy1{K1:Prop}{x:Prop}{p q:Prop}(X:x)(k1:K1)(h:q)(e:x→K1→Cv q p:=by
 intro X k1;repeat' first|with_reducible apply vT|with_reducible apply vF|with_reducible apply vC|((first|((with_reducible apply vE);(focus exact k1);(focus(simp -implicitDefEqProofs (disch:=omega) only[X,zdB,go_sem,simprocAttr];done)))|((with_reducible apply vE);(focus(apply k1<;>omega));(focus(simp -implicitDefEqProofs (disch:=omega) only[X,zdB,go_sem,simprocAttr];done)))|((with_reducible apply vR);focus exact k1 ..));simp -implicitDefEqProofs (disch:=omega) only[X,go_sem,simprocAttr])|((with_reducible apply vA);focus omega)|((with_reducible apply vI);(focus(intro hr;(try simp only[zdz]at hr);exact hr));intro hr;have hc:=hr;(try simp only[zdz]at hc);simp -implicitDefEqProofs (disch:=omega) only[hr,X,go_sem,simprocAttr];(try clear hr))
 any_goals exact vS):p:=(e X k1).1 h
theorem zt2{K1:Prop}{K2:Prop}{p q:Prop}(k1:K1)(k2:K2)(h:q)(e:K1→K2→Cv q p:=by
 intro k1 k2;repeat' first|with_reducible apply vT|with_reducible apply vF|with_reducible apply vC|((first|((with_reducible apply vE);(focus exact k1);(focus(simp -implicitDefEqProofs (disch:=omega) only[zdB,go_sem,simprocAttr];done)))|((with_reducible apply vE);(focus(apply k1<;>omega));(focus(simp -implicitDefEqProofs (disch:=omega) only[zdB,go_sem,simprocAttr];done)))|((with_reducible apply vR);focus exact k1 ..)|((with_reducible apply vE);(focus exact k2);(focus(simp -implicitDefEqProofs (disch:=omega) only[zdB,go_sem,simprocAttr];done)))|((with_reducible apply vE);(focus(apply k2<;>omega));(focus(simp -implicitDefEqProofs (disch:=omega) only[zdB,go_sem,simprocAttr];done)))|((with_reducible apply vR);focus exact k2 ..));simp -implicitDefEqProofs (disch:=omega) only[go_sem,simprocAttr])|((with_reducible apply vA);focus omega)|((with_reducible apply vI);(focus(intro hr;(try simp only[zdz]at hr);exact hr));intro hr;have hc:=hr;(try simp only[zdz]at hc);simp -implicitDefEqProofs (disch:=omega) only[hr,go_sem,simprocAttr];(try clear hr))
 any_goals exact vS):p:=(e k1 k2).1 h
theorem zy2{K1:Prop}{K2:Prop}{x:Prop}{p q:Prop}(X:x)(k1:K1)(k2:K2)(h:q)(e:x→K1→K2→Cv q p:=by
 intro X k1 k2;repeat' first|with_reducible apply vT|with_reducible apply vF|with_reducible apply vC|((first|((with_reducible apply vE);(focus exact k1);(focus(simp -implicitDefEqProofs (disch:=omega) only[X,zdB,go_sem,simprocAttr];done)))|((with_reducible apply vE);(focus(apply k1<;>omega));(focus(simp -implicitDefEqProofs (disch:=omega) only[X,zdB,go_sem,simprocAttr];done)))|((with_reducible apply vR);focus exact k1 ..)|((with_reducible apply vE);(focus exact k2);(focus(simp -implicitDefEqProofs (disch:=omega) only[X,zdB,go_sem,simprocAttr];done)))|((with_reducible apply vE);(focus(apply k2<;>omega));(focus(simp -implicitDefEqProofs (disch:=omega) only[X,zdB,go_sem,simprocAttr];done)))|((with_reducible apply vR);focus exact k2 ..));simp -implicitDefEqProofs (disch:=omega) only[X,go_sem,simprocAttr])|((with_reducible apply vA);focus omega)|((with_reducible apply vI);(focus(intro hr;(try simp only[zdz]at hr);exact hr));intro hr;have hc:=hr;(try simp only[zdz]at hc);simp -implicitDefEqProofs (disch:=omega) only[hr,X,go_sem,simprocAttr];(try clear hr))
 any_goals exact vS):p:=(e X k1 k2).1 h
theorem zt3{K1:Prop}{K2:Prop}{K3:Prop}{p q:Prop}(k1:K1)(k2:K2)(k3:K3)(h:q)(e:K1→K2→K3→Cv q p:=by
 intro k1 k2 k3;repeat' first|with_reducible apply vT|with_reducible apply vF|with_reducible apply vC|((first|((with_reducible apply vE);(focus exact k1);(focus(simp -implicitDefEqProofs (disch:=omega) only[zdB,go_sem,simprocAttr];done)))|((with_reducible apply vE);(focus(apply k1<;>omega));(focus(simp -implicitDefEqProofs (disch:=omega) only[zdB,go_sem,simprocAttr];done)))|((with_reducible apply vR);focus exact k1 ..)|((with_reducible apply vE);(focus exact k2);(focus(simp -implicitDefEqProofs (disch:=omega) only[zdB,go_sem,simprocAttr];done)))|((with_reducible apply vE);(focus(apply k2<;>omega));(focus(simp -implicitDefEqProofs (disch:=omega) only[zdB,go_sem,simprocAttr];done)))|((with_reducible apply vR);focus exact k2 ..)|((with_reducible apply vE);(focus exact k3);(focus(simp -implicitDefEqProofs (disch:=omega) only[zdB,go_sem,simprocAttr];done)))|((with_reducible apply vE);(focus(apply k3<;>omega));(focus(simp -implicitDefEqProofs (disch:=omega) only[zdB,go_sem,simprocAttr];done)))|((with_reducible apply vR);focus exact k3 ..));simp -implicitDefEqProofs (disch:=omega) only[go_sem,simprocAttr])|((with_reducible apply vA);focus omega)|((with_reducible apply vI);(focus(intro hr;(try simp only[zdz]at hr);exact hr));intro hr;have hc:=hr;(try simp only[zdz]at hc);simp -implicitDefEqProofs (disch:=omega) only[hr,go_sem,simprocAttr];(try clear hr))
 any_goals exact vS):p:=(e k1 k2 k3).1 h
theorem zy3{K1:Prop}{K2:Prop}{K3:Prop}{x:Prop}{p q:Prop}(X:x)(k1:K1)(k2:K2)(k3:K3)(h:q)(e:x→K1→K2→K3→Cv q p:=by
 intro X k1 k2 k3;repeat' first|with_reducible apply vT|with_reducible apply vF|with_reducible apply vC|((first|((with_reducible apply vE);(focus exact k1);(focus(simp -implicitDefEqProofs (disch:=omega) only[X,zdB,go_sem,simprocAttr];done)))|((with_reducible apply vE);(focus(apply k1<;>omega));(focus(simp -implicitDefEqProofs (disch:=omega) only[X,zdB,go_sem,simprocAttr];done)))|((with_reducible apply vR);focus exact k1 ..)|((with_reducible apply vE);(focus exact k2);(focus(simp -implicitDefEqProofs (disch:=omega) only[X,zdB,go_sem,simprocAttr];done)))|((with_reducible apply vE);(focus(apply k2<;>omega));(focus(simp -implicitDefEqProofs (disch:=omega) only[X,zdB,go_sem,simprocAttr];done)))|((with_reducible apply vR);focus exact k2 ..)|((with_reducible apply vE);(focus exact k3);(focus(simp -implicitDefEqProofs (disch:=omega) only[X,zdB,go_sem,simprocAttr];done)))|((with_reducible apply vE);(focus(apply k3<;>omega));(focus(simp -implicitDefEqProofs (disch:=omega) only[X,zdB,go_sem,simprocAttr];done)))|((with_reducible apply vR);focus exact k3 ..));simp -implicitDefEqProofs (disch:=omega) only[X,go_sem,simprocAttr])|((with_reducible apply vA);focus omega)|((with_reducible apply vI);(focus(intro hr;(try simp only[zdz]at hr);exact hr));intro hr;have hc:=hr;(try simp only[zdz]at hc);simp -implicitDefEqProofs (disch:=omega) only[hr,X,go_sem,simprocAttr];(try clear hr))
 any_goals exact vS):p:=(e X k1 k2 k3).1 h
theorem zt4{K1:Prop}{K2:Prop}{K3:Prop}{K4:Prop}{p q:Prop}(k1:K1)(k2:K2)(k3:K3)(k4:K4)(h:q)(e:K1→K2→K3→K4→Cv q p:=by
 intro k1 k2 k3 k4;repeat' first|with_reducible apply vT|with_reducible apply vF|with_reducible apply vC|((first|((with_reducible apply vE);(focus exact k1);(focus(simp -implicitDefEqProofs (disch:=omega) only[zdB,go_sem,simprocAttr];done)))|((with_reducible apply vE);(focus(apply k1<;>omega));(focus(simp -implicitDefEqProofs (disch:=omega) only[zdB,go_sem,simprocAttr];done)))|((with_reducible apply vR);focus exact k1 ..)|((with_reducible apply vE);(focus exact k2);(focus(simp -implicitDefEqProofs (disch:=omega) only[zdB,go_sem,simprocAttr];done)))|((with_reducible apply vE);(focus(apply k2<;>omega));(focus(simp -implicitDefEqProofs (disch:=omega) only[zdB,go_sem,simprocAttr];done)))|((with_reducible apply vR);focus exact k2 ..)|((with_reducible apply vE);(focus exact k3);(focus(simp -implicitDefEqProofs (disch:=omega) only[zdB,go_sem,simprocAttr];done)))|((with_reducible apply vE);(focus(apply k3<;>omega));(focus(simp -implicitDefEqProofs (disch:=omega) only[zdB,go_sem,simprocAttr];done)))|((with_reducible apply vR);focus exact k3 ..)|((with_reducible apply vE);(focus exact k4);(focus(simp -implicitDefEqProofs (disch:=omega) only[zdB,go_sem,simprocAttr];done)))|((with_reducible apply vE);(focus(apply k4<;>omega));(focus(simp -implicitDefEqProofs (disch:=omega) only[zdB,go_sem,simprocAttr];done)))|((with_reducible apply vR);focus exact k4 ..));simp -implicitDefEqProofs (disch:=omega) only[go_sem,simprocAttr])|((with_reducible apply vA);focus omega)|((with_reducible apply vI);(focus(intro hr;(try simp only[zdz]at hr);exact hr));intro hr;have hc:=hr;(try simp only[zdz]at hc);simp -implicitDefEqProofs (disch:=omega) only[hr,go_sem,simprocAttr];(try clear hr))
 any_goals exact vS):p:=(e k1 k2 k3 k4).1 h
theorem zy4{K1:Prop}{K2:Prop}{K3:Prop}{K4:Prop}{x:Prop}{p q:Prop}(X:x)(k1:K1)(k2:K2)(k3:K3)(k4:K4)(h:q)(e:x→K1→K2→K3→K4→Cv q p:=by
 intro X k1 k2 k3 k4;repeat' first|with_reducible apply vT|with_reducible apply vF|with_reducible apply vC|((first|((with_reducible apply vE);(focus exact k1);(focus(simp -implicitDefEqProofs (disch:=omega) only[X,zdB,go_sem,simprocAttr];done)))|((with_reducible apply vE);(focus(apply k1<;>omega));(focus(simp -implicitDefEqProofs (disch:=omega) only[X,zdB,go_sem,simprocAttr];done)))|((with_reducible apply vR);focus exact k1 ..)|((with_reducible apply vE);(focus exact k2);(focus(simp -implicitDefEqProofs (disch:=omega) only[X,zdB,go_sem,simprocAttr];done)))|((with_reducible apply vE);(focus(apply k2<;>omega));(focus(simp -implicitDefEqProofs (disch:=omega) only[X,zdB,go_sem,simprocAttr];done)))|((with_reducible apply vR);focus exact k2 ..)|((with_reducible apply vE);(focus exact k3);(focus(simp -implicitDefEqProofs (disch:=omega) only[X,zdB,go_sem,simprocAttr];done)))|((with_reducible apply vE);(focus(apply k3<;>omega));(focus(simp -implicitDefEqProofs (disch:=omega) only[X,zdB,go_sem,simprocAttr];done)))|((with_reducible apply vR);focus exact k3 ..)|((with_reducible apply vE);(focus exact k4);(focus(simp -implicitDefEqProofs (disch:=omega) only[X,zdB,go_sem,simprocAttr];done)))|((with_reducible apply vE);(focus(apply k4<;>omega));(focus(simp -implicitDefEqProofs (disch:=omega) only[X,zdB,go_sem,simprocAttr];done)))|((with_reducible apply vR);focus exact k4 ..));simp -implicitDefEqProofs (disch:=omega) only[X,go_sem,simprocAttr])|((with_reducible apply vA);focus omega)|((with_reducible apply vI);(focus(intro hr;(try simp only[zdz]at hr);exact hr));intro hr;have hc:=hr;(try simp only[zdz]at hc);simp -implicitDefEqProofs (disch:=omega) only[hr,X,go_sem,simprocAttr];(try clear hr))
 any_goals exact vS):p:=(e X k1 k2 k3 k4).1 h
def Rd6(H:List AObj)(v:AV)(l:List LTerm):Prop:=(v=.e0∧l=[])∨v=avt l∨∃i off fz t cells,v=.hs i off l.length t∧H[i]? = some (.arr fz 6 cells)∧off+l.length*6≤cells.length∧(cells.drop off).take (l.length*6)=l.flatMap aU
theorem bAh{H:List AObj}{v:AV}{l:List LTerm}(h:Rd6 H v l):avt l=iA dep H v:=by
 rcases h with⟨rfl,rfl⟩|rfl|⟨i,off,fz,t,cells,rfl,h1,h2,h3⟩
 ·rfl
 ·simp only[gN,aJx,if_true]
 ·simp only[gN,pers,rV,h1,h3,gW,if_true,aI,if_false,if_pos h2];rfl
theorem bKb{H:List AObj}{v:AV}{l:List LTerm}(h:Rd6 H v l):oZ H v (avt l)∧dN v (avt l)=[]:=by
 have h0:=bAh h;rcases h with⟨rfl,rfl⟩|rfl|⟨i,off,fz,t,cells,rfl,h1,h2,h3⟩
 ·exact⟨h0,rfl⟩
 ·exact⟨h0,rfl⟩
 ·exact⟨h0,rfl⟩
def isKey(t:LTerm):Bool:=decide (t.kind=1)||decide (t.kind=3)||decide (t.kind=4)
theorem aWd(t:LTerm): CT 101 [elT t] (.b (isKey t)):=by
 refine cI dE Tryz.func101 g0 ?_
 ·skip;(repeat'(first|refine gT ?_ ?_|refine gF ?_ ?_|refine gC ?_ ?_|refine bE (by omega) ?_|(intro hr;have hc:=hr;(try simp only[zdz]at hc);simp -implicitDefEqProofs (disch:=omega) only[hr,go_sem,simprocAttr];(try clear hr))));all_goals(refine bR ?_ rfl;simp_all[isKey])
def rZ(n:Int):Bool:=decide (-2147483647≤n)&&decide (n≤2147483647)
theorem bHt(n:Int): CT 239 [.i .i64 n] (.b (rZ n)):=by
 refine cI dE Tryz.func239 g0 ?_
 ·skip;(repeat'(first|refine gT ?_ ?_|refine gF ?_ ?_|refine gC ?_ ?_|refine bE (by omega) ?_|(intro hr;have hc:=hr;(try simp only[zdz]at hc);simp -implicitDefEqProofs (disch:=omega) only[hr,go_sem,simprocAttr];(try clear hr))));all_goals(refine bR ?_ rfl;simp_all[rZ]<;>omega)
def sC(a b:Int):Int:=if a<b then -1 else if b<a then 1 else 0
theorem xU{a b:Str}(h1:¬a<b)(h2:¬a=b):b<a:=by
 rcases List.le_iff_lt_or_eq.1 (List.not_lt.1 h1)with h|h
 ·exact h
 ·exact absurd h.symm h2
def sE(a b:Str):Int:=if a<b then -1 else if b<a then 1 else 0
theorem N1{a b:Str}(h:a<b):sE a b = -1:=if_pos h
theorem N2{a b:Str}(h1:¬a<b)(h2:¬a=b):sE a b=1:=by rw[sE,if_neg h1,if_pos (xU h1 h2)]
theorem aIg{a b:Str}(h:a=b):sE a b=0:=by subst h;have:¬a<a:=pB a;simp only[sE,if_neg this]
theorem bHq(a:Int): CT 259 [.i .i64 a] (.b false):=by
 refine cI dE Tryz.func259 g0 ?_
 ·skip;(repeat'(first|refine gT ?_ ?_|refine gF ?_ ?_|refine gC ?_ ?_|refine bE (by omega) ?_|(intro hr;have hc:=hr;(try simp only[zdz]at hc);simp -implicitDefEqProofs (disch:=omega) only[hr,go_sem,simprocAttr];(try clear hr))));all_goals(refine bR ?_ rfl;simp_all)
theorem bHr(a:Int): CT 258 [.i .i64 a] (.b false):=by
 refine cI dE Tryz.func258 g0 ?_
 ·skip;(repeat'(first|refine gT ?_ ?_|refine gF ?_ ?_|refine gC ?_ ?_|refine bE (by omega) ?_|(intro hr;have hc:=hr;(try simp only[zdz]at hc);simp -implicitDefEqProofs (disch:=omega) only[hr,go_sem,simprocAttr];(try clear hr))));all_goals(refine bR ?_ rfl;simp_all)
theorem bHw(a:Str): CT 248 [.s a] (.b false):=by
 refine cI dE Tryz.func248 g0 ?_
 ·skip;(repeat'(first|refine gT ?_ ?_|refine gF ?_ ?_|refine gC ?_ ?_|refine bE (by omega) ?_|(intro hr;have hc:=hr;(try simp only[zdz]at hc);simp -implicitDefEqProofs (disch:=omega) only[hr,go_sem,simprocAttr];(try clear hr))));all_goals(refine bR ?_ rfl;simp_all)
theorem bUg(a b:Int): CT 223 [.i .i64 a,.i .i64 b] (.i .i64 (sC a b)):=by
 refine cI dE Tryz.func223 g0 ?_
 ·skip;(repeat'(first|refine gT ?_ ?_|refine gF ?_ ?_|refine gC ?_ ?_|((first|(refine bJ (bHq a) ?_ ?_;(focus(simp -implicitDefEqProofs (disch:=omega) only[zdB,go_sem,simprocAttr];done)))|(refine bJ (bHq b) ?_ ?_;(focus(simp -implicitDefEqProofs (disch:=omega) only[zdB,go_sem,simprocAttr];done))));simp -implicitDefEqProofs (disch:=omega) only[go_sem,simprocAttr])|refine bE (by omega) ?_|(intro hr;have hc:=hr;(try simp only[zdz]at hc);simp -implicitDefEqProofs (disch:=omega) only[hr,go_sem,simprocAttr];(try clear hr))));all_goals(refine bR ?_ rfl;congr 1;unfold sC;(repeat' split)<;>omega)
theorem bUh(a b:Int): CT 222 [.i .i64 a,.i .i64 b] (.i .i64 (sC a b)):=by
 refine cI dE Tryz.func222 g0 ?_
 ·skip;(repeat'(first|refine gT ?_ ?_|refine gF ?_ ?_|refine gC ?_ ?_|((first|(refine bJ (bHr a) ?_ ?_;(focus(simp -implicitDefEqProofs (disch:=omega) only[zdB,go_sem,simprocAttr];done)))|(refine bJ (bHr b) ?_ ?_;(focus(simp -implicitDefEqProofs (disch:=omega) only[zdB,go_sem,simprocAttr];done))));simp -implicitDefEqProofs (disch:=omega) only[go_sem,simprocAttr])|refine bE (by omega) ?_|(intro hr;have hc:=hr;(try simp only[zdz]at hc);simp -implicitDefEqProofs (disch:=omega) only[hr,go_sem,simprocAttr];(try clear hr))));all_goals(refine bR ?_ rfl;congr 1;unfold sC;(repeat' split)<;>omega)
theorem aWa(a b:Str): CT 199 [.s a,.s b] (.i .i64 (sE a b)):=by
 refine cI dE Tryz.func199 g0 ?_
 ·skip;(repeat'(first|refine gT ?_ ?_|refine gF ?_ ?_|refine gC ?_ ?_|((first|(refine bJ (bHw a) ?_ ?_;(focus(simp -implicitDefEqProofs (disch:=omega) only[zdB,go_sem,simprocAttr];done)))|(refine bJ (bHw b) ?_ ?_;(focus(simp -implicitDefEqProofs (disch:=omega) only[zdB,go_sem,simprocAttr];done))));simp -implicitDefEqProofs (disch:=omega) only[go_sem,simprocAttr])|refine bE (by omega) ?_|(intro hr;have hc:=hr;(try simp only[zdz]at hc);simp -implicitDefEqProofs (disch:=omega) only[hr,go_sem,simprocAttr];(try clear hr))));all_goals(refine bR ?_ rfl;congr 1;simp only[bytesLess_eq,decide_eq_true_eq,decide_eq_false_iff_not,dD]at *;first|exact N1 (by assumption)|exact N2 (by assumption) (by assumption)|exact aIg (by assumption))
def orI:List Int→Int
 | []=>0
 |a::l=>if a=0 then orI l else a
theorem aDe{l:List Int}{k:Nat}(hz:∀j,j<k→l.getD j 0=0):orI l=orI (l.drop k):=by
 induction k generalizing l with
 |zero=>rfl
 |succ k ih=>
  cases l with
  |nil=>simp[orI]
  |cons a l=>
   have h0:a=0:=hz 0 (by omega);rw[aV,← ih (fun j hj=>by have:=hz (j+1) (by omega);simpa using this),orI,if_pos h0]
theorem bHu(l:List Int)(hl:l.length≤17592186044416): CT 221 [avi l] (.i .i64 (orI l)):=by
 refine dO dE Tryz.func221 g0 ?_
 ·simp -implicitDefEqProofs (disch:=omega) only[Tryz.f221,go_sem,List.replicate,simprocAttr,avi];refine dV (fun(k:Nat)=>(.k::.k::.j::.k::.k::.j::.k::.k::.v (.i .i64 k)::(rp 8 .j [.k]))) (fun k=>[]) (fun k=>k≤l.length∧∀j,j<k→l.getD j 0=0) (fun k=>l.length-k) (0) ⟨bX _,fun j h=>by omega⟩ rfl (by simp[iS]) ?_;rintro k j ⟨hk,ha⟩;simp -implicitDefEqProofs (disch:=omega) only[go_sem,simprocAttr];(repeat'(first|refine gT ?_ ?_|refine gF ?_ ?_|refine gC ?_ ?_|refine bE (by omega) ?_|(intro hr;have hc:=hr;(try simp only[zdz]at hc);simp -implicitDefEqProofs (disch:=omega) only[hr,go_sem,simprocAttr];(try clear hr))))
  ·refine bR ?_ rfl;have hlt:k<l.length:=by omega
   rw[aDe ha,eV hlt,orI,if_neg (by simpa[List.getD,hlt]using hc)];simp[List.getD,hlt]
  ·exact⟨k+1,⟨by omega,fF ha (by simpa using hc)⟩,by omega,by simp⟩
  ·refine bR ?_ rfl;rw[aDe ha,dQ (by omega)];rfl
theorem aTi{s:Str}(h:isName s=true):0<s.length:=by
 cases s with
 |nil=>revert h;decide
 |cons a l=>simp
def bQf:Str:=[116,114,117,101]
def bGw:Str:=[102,97,108,115,101]
def bSd(s:Str):Bool:=isName s&&decide (97≤((s.getD 0 0).toNat:Int))&&decide (((s.getD 0 0).toNat:Int)≤122) && !decide (s=bQf) && !decide (s=bGw)
theorem bUe(s:Str)(hs:s.length≤140737488355328): CT 241 [.s s] (.b (bSd s)):=by
 refine cI dE Tryz.func241 g0 ?_
 ·skip;have c:=Q4 s hs;cases h:isName s with
  |false=>
   rw[h]at c;(repeat'(first|refine gT ?_ ?_|refine gF ?_ ?_|refine gC ?_ ?_|((refine bJ (c) ?_ ?_;(focus(simp -implicitDefEqProofs (disch:=omega) only[zdB,go_sem,simprocAttr];done)));simp -implicitDefEqProofs (disch:=omega) only[go_sem,simprocAttr])|refine bE (by omega) ?_|(intro hr;have hc:=hr;(try simp only[zdz]at hc);simp -implicitDefEqProofs (disch:=omega) only[hr,go_sem,simprocAttr];(try clear hr))));all_goals exact bR (by simp[bSd,h]) rfl
  |true=>
   rw[h]at c;have hpos:=aTi h;(repeat'(first|refine gT ?_ ?_|refine gF ?_ ?_|refine gC ?_ ?_|((refine bJ (c) ?_ ?_;(focus(simp -implicitDefEqProofs (disch:=omega) only[zdB,go_sem,simprocAttr];done)));simp -implicitDefEqProofs (disch:=omega) only[go_sem,simprocAttr])|refine bE (by omega) ?_|(intro hr;have hc:=hr;(try simp only[zdz]at hc);simp -implicitDefEqProofs (disch:=omega) only[hr,go_sem,simprocAttr];(try clear hr))));all_goals refine bR ?_ rfl
   all_goals(simp_all[bSd,bQf,bGw,decide_not]<;>(first|omega|(intros;omega)|exact decide_eq_decide.2 Iff.rfl))
theorem aAo{n:Nat}:((n:Int)=0)↔n=0:=by omega
theorem aAp{n:Nat}:((n:Int)=1)↔n=1:=by omega
theorem tK{n:Nat}:((n:Int)≤8)↔n≤8:=by omega
def wO(c:UInt8):Bool:=decide (32≤(c.toNat:Int))&&decide ((c.toNat:Int)≤126)&&decide ((c.toNat:Int)≠34)&&decide ((c.toNat:Int)≠92)
def L3(s:Str):Bool:=s.all wO&&decide (s.length≤200)
theorem bMj{α:Type}{l:List α}{k:Nat}{d x:α}(h:l[k]? = some x):l.getD k d=x:=by simp[List.getD,h]
theorem aQf{s:Str}{k:Nat}{c:UInt8}(h:s[k]? = some c)(hc:wO c=false):L3 s=false:=by
 have:s.all wO=false:=by
  rw[List.all_eq_false];exact⟨c,dY h,by simp[hc]⟩
 simp[L3,this]
theorem aZh{s:Str}(h:∀j,j<s.length→wO (s.getD j 0)=true):L3 s=decide (s.length≤200):=by
 have:s.all wO=true:=aMm (d:=0) h;simp[L3,this]
theorem bUl(s:Str)(hs:s.length≤140737488355328): CT 240 [.s s] (.b (L3 s)):=by
 refine cI dE Tryz.func240 g0 ?_
 ·skip;refine dV (fun(k:Nat)=>(.k::.k::.j::.k::.j::.k::.k::(rp 17 .j [.k,.k,.k]))) (fun k=>[.sit s k]) (fun k=>k≤s.length∧∀j,j<k→wO (s.getD j 0)=true) (fun k=>s.length-k) (0) ⟨bX _,fun j h=>by omega⟩ rfl (by simp[iS]) ?_;rintro k j ⟨hk,ha⟩;refine zg ?_;refine aHh rfl ?_ ?_ ?_
  ·intro hle;refine zg ?_;refine bR ?_ rfl;rw[aZh (fun j hj=>ha j (by omega))];exact congrArg AV.b (decide_eq_decide.2 (by omega))
  ·intro c hc hlt;have hcg:=bMj (d:=0) hc;have hk2:=bW hc;have hc0:=hc;refine zg ?_;(refine zs0 ?_;repeat' first|exact trivial|refine zJ ?_ ?_|refine zH fun hc=>?_);all_goals first
    |(refine bR ?_ rfl;rw[aQf hc0 (by simp only[wO,aJb,decide_eq_false_iff_not,ne_eq];omega)];done)
    |exact⟨k+1,⟨by omega,fF ha (by rw[hcg];simp only[wO,aD,decide_eq_true_eq,ne_eq];omega)⟩,by omega,by simp⟩
  ·intro c rn m hc h1 h2 h3 h4;have hc0:=hc;refine zg ?_;(refine zs0 ?_;repeat' first|exact trivial|refine zJ ?_ ?_|refine zH fun hc=>?_);all_goals first
    |(exfalso;omega)
    |(refine bR ?_ rfl;rw[aQf hc0 (by simp only[wO,aJb,decide_eq_false_iff_not,ne_eq];omega)];done)
def gQ(t:LTerm)(n te so ki re:Bool):Bool:=(n||decide (t.n=0))&&(te||decide (t.text=[]))&&(so||decide (t.sort=[]))&&(ki||decide (t.kids=[]))&&(re||decide (t.rest=[]))
def nK(t:LTerm)(so:Str):Bool:=decide (t.rest.length=0)||(decide (t.rest.length=1)&&decide ((t.rest.getD 0 default).kind=6)&&isName (t.rest.getD 0 default).text&&decide ((t.rest.getD 0 default).sort=so)&&gQ (t.rest.getD 0 default) false true true false false)
def aSz(s:Str):Bool:=isName (C4 s)
theorem bUd(s:Str)(hs:s.length≤140737488355328): CT 242 [.s s] (.b (aSz s)):=by
 refine cI dE Tryz.func242 g0 ?_
 ·skip;(repeat'(first|refine gT ?_ ?_|refine gF ?_ ?_|refine gC ?_ ?_|(refine cF (bHx s hs) ?_;simp -implicitDefEqProofs (disch:=omega) only[go_sem,simprocAttr])|(refine aWr (Q4 _ (jI (aLs s) hs)) ?_;simp -implicitDefEqProofs (disch:=omega) only[go_sem,simprocAttr])|refine bE (by omega) ?_|(intro hr;have hc:=hr;(try simp only[zdz]at hc);simp -implicitDefEqProofs (disch:=omega) only[hr,go_sem,simprocAttr];(try clear hr))));refine bR ?_ (by rfl);rfl
theorem tJ{n:Nat}:((n:Int).tmod 2=0)↔n % 2=0:=by
 rw[Int.tmod_eq_emod_of_nonneg (Int.natCast_nonneg n)];omega
def xE(s:Str):Bool:=decide (s=[95])||decide (s=[36])
abbrev rY:Str:=[76,105,115,116]
abbrev E7:Str:=[77,97,112]
abbrev bXj:Str:=[65,110,121]
def nodeB(t:LTerm):Bool:=
 if t.kind=1 then rZ t.n&&gQ t true false false false false
 else if t.kind=2 then(decide (t.n=0)||decide (t.n=1))&&gQ t true false false false false
 else if t.kind=3 then L3 t.text&&gQ t false true false false false
 else if t.kind=4 then bSd t.text&&gQ t false true false false false
 else if t.kind=5 then aSz t.text&&decide (t.kids.length≤8)&&gQ t false true false true false
 else if t.kind=6 then(if xE t.text=true then decide (t.sort=bXj)&&gQ t false true true false false else isName t.text&&isName t.sort&&gQ t false true true false false)
 else if t.kind=7 then nK t rY&&gQ t false false false true true
 else if t.kind=8 then nK t E7&&decide (t.kids.length % 2=0)&&gQ t false false false true true
 else false
theorem qE(t:LTerm)(h:nodeB t=true):t.rest.length≤1:=by
 have z:∀{a b c d},gQ t a b c d false=true→t.rest.length≤1:=by
  intro a b c d h;simp only[gQ,aD,cB,decide_eq_true_eq,aI,false_or]at h;rw[h.2];simp
 have r:∀{s},nK t s=true→t.rest.length≤1:=by
  intro s h;simp only[nK,aD,cB,decide_eq_true_eq]at h;omega
 unfold nodeB at h;repeat' split at h
 all_goals try simp only[aD]at h
 all_goals first|exact z h.2|exact r h.1|exact r h.1.1|cases h
end Go.Proofs.YtdjcggcjlphdoaaGreatDoor
