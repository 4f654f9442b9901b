/-
  Functions of the chapter, as plain functions of what they are given; no condition.
-/
import Derived.Test.YtdjcggcjlphdoaaGreatDoorSoP11
import Derived.Test.YtdjcggcjlphdoaaGreatDoorSoP12
import Derived.Sort.Walk0
set_option maxRecDepth 100000
set_option linter.unusedSimpArgs false
set_option linter.unusedVariables false
set_option maxHeartbeats 4000000
namespace Go.Proofs.YtdjcggcjlphdoaaGreatDoor
open Go Go.Vo
open Nat (reduceAdd reduceSub reduceMul reduceLeDiff reduceLT reduceEqDiff)
open Int (reduceNeg)
inductive OkT:LTerm→Prop
 |mk {t:LTerm}:t.text.length≤140737488355328→t.sort.length≤140737488355328 → -9223372036854775808≤t.n→t.n≤9223372036854775807→t.kids.length≤1466015503701→t.rest.length≤1466015503701→(∀k∈t.kids,OkT k)→(∀k∈t.rest,OkT k)→OkT t
section
variable {t:LTerm} (h:OkT t)
include h
theorem OkT.text:t.text.length≤140737488355328:=by cases h;assumption
theorem OkT.sort:t.sort.length≤140737488355328:=by cases h;assumption
theorem OkT.nlo : -9223372036854775808≤t.n:=by cases h;assumption
theorem OkT.nhi:t.n≤9223372036854775807:=by cases h;assumption
theorem OkT.kids:t.kids.length≤1466015503701:=by cases h;assumption
theorem OkT.rest:t.rest.length≤1466015503701:=by cases h;assumption
theorem OkT.kid:∀k∈t.kids,OkT k:=by cases h;assumption
theorem OkT.rst:∀k∈t.rest,OkT k:=by cases h;assumption
end
def elT(t:LTerm):AV:=.agg (aP t)
section
variable (k n:Int) (t s:Str) (ks rs:List LTerm)
theorem bPe:(LTerm.mk k n t s ks rs).kind=k:=rfl
theorem cKj:(LTerm.mk k n t s ks rs).n=n:=rfl
theorem bMa:(LTerm.mk k n t s ks rs).text=t:=rfl
theorem bMl:(LTerm.mk k n t s ks rs).sort=s:=rfl
theorem bPf:(LTerm.mk k n t s ks rs).kids=ks:=rfl
theorem bMw:(LTerm.mk k n t s ks rs).rest=rs:=rfl
end
theorem cDs:((2:Int)=0)=False:=by decide
attribute [go_sem] cDs ite_self elT bPe cKj bMa bMl bPf bMw
theorem zdB:(∀l,avs l=.sl (l.map .s) l.length)∧(∀l,avb l=.sl (l.flatMap fX) l.length)∧(∀l,avi l=.sl (l.map (.i .i64)) l.length)∧(∀l,avo l=.sl (l.flatMap eU) l.length)∧(∀s,dT s=[avs s.sorts,avb s.below,avo s.ops,avo s.funs,avs s.values])∧(∀o,eU o=[.s o.name,avs o.args,.s o.sort,avb o.pieces,.i .i64 o.prec,.i .i64 o.assoc,avi o.strict])∧(∀b,fX b=[.s b.1,.s b.2])∧(∀t,elT t=.agg (aP t))∧(∀l,avt l=.sl (l.flatMap aP) l.length)∧(∀t,aP t=[.i .i64 t.kind,.i .i64 t.n,.s t.text,.s t.sort,avt t.kids,avt t.rest]):=⟨fun _=>rfl,fun _=>rfl,fun _=>rfl,fun _=>rfl,fun _=>rfl,fun _=>rfl,fun _=>rfl,fun _=>rfl,fun _=>rfl,aW⟩
theorem cF{P:Program}{G:Glob}{dr:Option DR}{d:Option Nat}{os:List gA}{K:List AV→List AObj→Prop}{env:List AV}{h:List AObj}{f:FuncId}{A A':List AV}{r:AV}(s:Ctr P G f A' r)
 (k:dN P G dr os K (iV env d (mat r (gU r h A)).1) (mat r (gU r h A)).2) (hA:A.map (gZ dep h)=A':=by(simp -implicitDefEqProofs (disch:=omega) only[zdB,go_sem,↓reduceIte,reduceAdd,reduceSub,reduceMul,reduceLeDiff,reduceLT,reduceEqDiff,reduceNeg,Nat.reduceBEq];done)):tM P G dr f A d os K env h:=dA s hA k
theorem zt1{K1:Prop}{p q:Prop}(k1:K1)(h:q)(e:K1→Cv q p:=by
 intro k1;repeat' first|with_reducible apply vT|with_reducible apply vF|with_reducible apply vC|((first|((with_reducible apply vE);(focus exact k1);(focus(simp -implicitDefEqProofs (disch:=omega) only[zdB,go_sem,simprocAttr];done)))|((with_reducible apply vE);(focus(apply k1<;>omega));(focus(simp -implicitDefEqProofs (disch:=omega) only[zdB,go_sem,simprocAttr];done)))|((with_reducible apply vR);focus exact k1 ..));simp -implicitDefEqProofs (disch:=omega) only[go_sem,simprocAttr])|((with_reducible apply vA);focus omega)|((with_reducible apply vI);(focus(intro hr;(try simp only[zdz]at hr);exact hr));intro hr;have hc:=hr;(try simp only[zdz]at hc);simp -implicitDefEqProofs (disch:=omega) only[hr,go_sem,simprocAttr];(try clear hr))
 any_goals exact vS):p:=(e k1).1 h
theorem zy1{K1:Prop}{x:Prop}{p q:Prop}(X:x)(k1:K1)(h:q)(e:x→K1→Cv q p:=by
 intro X k1;repeat' first|with_reducible apply vT|with_reducible apply vF|with_reducible apply vC|((first|((with_reducible apply vE);(focus exact k1);(focus(simp -implicitDefEqProofs (disch:=omega) only[X,zdB,go_sem,simprocAttr];done)))|((with_reducible apply vE);(focus(apply k1<;>omega));(focus(simp -implicitDefEqProofs (disch:=omega) only[X,zdB,go_sem,simprocAttr];done)))|((with_reducible apply vR);focus exact k1 ..));simp -implicitDefEqProofs (disch:=omega) only[X,go_sem,simprocAttr])|((with_reducible apply vA);focus omega)|((with_reducible apply vI);(focus(intro hr;(try simp only[zdz]at hr);exact hr));intro hr;have hc:=hr;(try simp only[zdz]at hc);simp -implicitDefEqProofs (disch:=omega) only[hr,X,go_sem,simprocAttr];(try clear hr))
 any_goals exact vS):p:=(e X k1).1 h
theorem zt2{K1:Prop}{K2:Prop}{p q:Prop}(k1:K1)(k2:K2)(h:q)(e:K1→K2→Cv q p:=by
 intro k1 k2;repeat' first|with_reducible apply vT|with_reducible apply vF|with_reducible apply vC|((first|((with_reducible apply vE);(focus exact k1);(focus(simp -implicitDefEqProofs (disch:=omega) only[zdB,go_sem,simprocAttr];done)))|((with_reducible apply vE);(focus(apply k1<;>omega));(focus(simp -implicitDefEqProofs (disch:=omega) only[zdB,go_sem,simprocAttr];done)))|((with_reducible apply vR);focus exact k1 ..)|((with_reducible apply vE);(focus exact k2);(focus(simp -implicitDefEqProofs (disch:=omega) only[zdB,go_sem,simprocAttr];done)))|((with_reducible apply vE);(focus(apply k2<;>omega));(focus(simp -implicitDefEqProofs (disch:=omega) only[zdB,go_sem,simprocAttr];done)))|((with_reducible apply vR);focus exact k2 ..));simp -implicitDefEqProofs (disch:=omega) only[go_sem,simprocAttr])|((with_reducible apply vA);focus omega)|((with_reducible apply vI);(focus(intro hr;(try simp only[zdz]at hr);exact hr));intro hr;have hc:=hr;(try simp only[zdz]at hc);simp -implicitDefEqProofs (disch:=omega) only[hr,go_sem,simprocAttr];(try clear hr))
 any_goals exact vS):p:=(e k1 k2).1 h
theorem zy2{K1:Prop}{K2:Prop}{x:Prop}{p q:Prop}(X:x)(k1:K1)(k2:K2)(h:q)(e:x→K1→K2→Cv q p:=by
 intro X k1 k2;repeat' first|with_reducible apply vT|with_reducible apply vF|with_reducible apply vC|((first|((with_reducible apply vE);(focus exact k1);(focus(simp -implicitDefEqProofs (disch:=omega) only[X,zdB,go_sem,simprocAttr];done)))|((with_reducible apply vE);(focus(apply k1<;>omega));(focus(simp -implicitDefEqProofs (disch:=omega) only[X,zdB,go_sem,simprocAttr];done)))|((with_reducible apply vR);focus exact k1 ..)|((with_reducible apply vE);(focus exact k2);(focus(simp -implicitDefEqProofs (disch:=omega) only[X,zdB,go_sem,simprocAttr];done)))|((with_reducible apply vE);(focus(apply k2<;>omega));(focus(simp -implicitDefEqProofs (disch:=omega) only[X,zdB,go_sem,simprocAttr];done)))|((with_reducible apply vR);focus exact k2 ..));simp -implicitDefEqProofs (disch:=omega) only[X,go_sem,simprocAttr])|((with_reducible apply vA);focus omega)|((with_reducible apply vI);(focus(intro hr;(try simp only[zdz]at hr);exact hr));intro hr;have hc:=hr;(try simp only[zdz]at hc);simp -implicitDefEqProofs (disch:=omega) only[hr,X,go_sem,simprocAttr];(try clear hr))
 any_goals exact vS):p:=(e X k1 k2).1 h
theorem zt3{K1:Prop}{K2:Prop}{K3:Prop}{p q:Prop}(k1:K1)(k2:K2)(k3:K3)(h:q)(e:K1→K2→K3→Cv q p:=by
 intro k1 k2 k3;repeat' first|with_reducible apply vT|with_reducible apply vF|with_reducible apply vC|((first|((with_reducible apply vE);(focus exact k1);(focus(simp -implicitDefEqProofs (disch:=omega) only[zdB,go_sem,simprocAttr];done)))|((with_reducible apply vE);(focus(apply k1<;>omega));(focus(simp -implicitDefEqProofs (disch:=omega) only[zdB,go_sem,simprocAttr];done)))|((with_reducible apply vR);focus exact k1 ..)|((with_reducible apply vE);(focus exact k2);(focus(simp -implicitDefEqProofs (disch:=omega) only[zdB,go_sem,simprocAttr];done)))|((with_reducible apply vE);(focus(apply k2<;>omega));(focus(simp -implicitDefEqProofs (disch:=omega) only[zdB,go_sem,simprocAttr];done)))|((with_reducible apply vR);focus exact k2 ..)|((with_reducible apply vE);(focus exact k3);(focus(simp -implicitDefEqProofs (disch:=omega) only[zdB,go_sem,simprocAttr];done)))|((with_reducible apply vE);(focus(apply k3<;>omega));(focus(simp -implicitDefEqProofs (disch:=omega) only[zdB,go_sem,simprocAttr];done)))|((with_reducible apply vR);focus exact k3 ..));simp -implicitDefEqProofs (disch:=omega) only[go_sem,simprocAttr])|((with_reducible apply vA);focus omega)|((with_reducible apply vI);(focus(intro hr;(try simp only[zdz]at hr);exact hr));intro hr;have hc:=hr;(try simp only[zdz]at hc);simp -implicitDefEqProofs (disch:=omega) only[hr,go_sem,simprocAttr];(try clear hr))
 any_goals exact vS):p:=(e k1 k2 k3).1 h
theorem zy3{K1:Prop}{K2:Prop}{K3:Prop}{x:Prop}{p q:Prop}(X:x)(k1:K1)(k2:K2)(k3:K3)(h:q)(e:x→K1→K2→K3→Cv q p:=by
 intro X k1 k2 k3;repeat' first|with_reducible apply vT|with_reducible apply vF|with_reducible apply vC|((first|((with_reducible apply vE);(focus exact k1);(focus(simp -implicitDefEqProofs (disch:=omega) only[X,zdB,go_sem,simprocAttr];done)))|((with_reducible apply vE);(focus(apply k1<;>omega));(focus(simp -implicitDefEqProofs (disch:=omega) only[X,zdB,go_sem,simprocAttr];done)))|((with_reducible apply vR);focus exact k1 ..)|((with_reducible apply vE);(focus exact k2);(focus(simp -implicitDefEqProofs (disch:=omega) only[X,zdB,go_sem,simprocAttr];done)))|((with_reducible apply vE);(focus(apply k2<;>omega));(focus(simp -implicitDefEqProofs (disch:=omega) only[X,zdB,go_sem,simprocAttr];done)))|((with_reducible apply vR);focus exact k2 ..)|((with_reducible apply vE);(focus exact k3);(focus(simp -implicitDefEqProofs (disch:=omega) only[X,zdB,go_sem,simprocAttr];done)))|((with_reducible apply vE);(focus(apply k3<;>omega));(focus(simp -implicitDefEqProofs (disch:=omega) only[X,zdB,go_sem,simprocAttr];done)))|((with_reducible apply vR);focus exact k3 ..));simp -implicitDefEqProofs (disch:=omega) only[X,go_sem,simprocAttr])|((with_reducible apply vA);focus omega)|((with_reducible apply vI);(focus(intro hr;(try simp only[zdz]at hr);exact hr));intro hr;have hc:=hr;(try simp only[zdz]at hc);simp -implicitDefEqProofs (disch:=omega) only[hr,X,go_sem,simprocAttr];(try clear hr))
 any_goals exact vS):p:=(e X k1 k2 k3).1 h
theorem zt4{K1:Prop}{K2:Prop}{K3:Prop}{K4:Prop}{p q:Prop}(k1:K1)(k2:K2)(k3:K3)(k4:K4)(h:q)(e:K1→K2→K3→K4→Cv q p:=by
 intro k1 k2 k3 k4;repeat' first|with_reducible apply vT|with_reducible apply vF|with_reducible apply vC|((first|((with_reducible apply vE);(focus exact k1);(focus(simp -implicitDefEqProofs (disch:=omega) only[zdB,go_sem,simprocAttr];done)))|((with_reducible apply vE);(focus(apply k1<;>omega));(focus(simp -implicitDefEqProofs (disch:=omega) only[zdB,go_sem,simprocAttr];done)))|((with_reducible apply vR);focus exact k1 ..)|((with_reducible apply vE);(focus exact k2);(focus(simp -implicitDefEqProofs (disch:=omega) only[zdB,go_sem,simprocAttr];done)))|((with_reducible apply vE);(focus(apply k2<;>omega));(focus(simp -implicitDefEqProofs (disch:=omega) only[zdB,go_sem,simprocAttr];done)))|((with_reducible apply vR);focus exact k2 ..)|((with_reducible apply vE);(focus exact k3);(focus(simp -implicitDefEqProofs (disch:=omega) only[zdB,go_sem,simprocAttr];done)))|((with_reducible apply vE);(focus(apply k3<;>omega));(focus(simp -implicitDefEqProofs (disch:=omega) only[zdB,go_sem,simprocAttr];done)))|((with_reducible apply vR);focus exact k3 ..)|((with_reducible apply vE);(focus exact k4);(focus(simp -implicitDefEqProofs (disch:=omega) only[zdB,go_sem,simprocAttr];done)))|((with_reducible apply vE);(focus(apply k4<;>omega));(focus(simp -implicitDefEqProofs (disch:=omega) only[zdB,go_sem,simprocAttr];done)))|((with_reducible apply vR);focus exact k4 ..));simp -implicitDefEqProofs (disch:=omega) only[go_sem,simprocAttr])|((with_reducible apply vA);focus omega)|((with_reducible apply vI);(focus(intro hr;(try simp only[zdz]at hr);exact hr));intro hr;have hc:=hr;(try simp only[zdz]at hc);simp -implicitDefEqProofs (disch:=omega) only[hr,go_sem,simprocAttr];(try clear hr))
 any_goals exact vS):p:=(e k1 k2 k3 k4).1 h
theorem zy4{K1:Prop}{K2:Prop}{K3:Prop}{K4:Prop}{x:Prop}{p q:Prop}(X:x)(k1:K1)(k2:K2)(k3:K3)(k4:K4)(h:q)(e:x→K1→K2→K3→K4→Cv q p:=by
 intro X k1 k2 k3 k4;repeat' first|with_reducible apply vT|with_reducible apply vF|with_reducible apply vC|((first|((with_reducible apply vE);(focus exact k1);(focus(simp -implicitDefEqProofs (disch:=omega) only[X,zdB,go_sem,simprocAttr];done)))|((with_reducible apply vE);(focus(apply k1<;>omega));(focus(simp -implicitDefEqProofs (disch:=omega) only[X,zdB,go_sem,simprocAttr];done)))|((with_reducible apply vR);focus exact k1 ..)|((with_reducible apply vE);(focus exact k2);(focus(simp -implicitDefEqProofs (disch:=omega) only[X,zdB,go_sem,simprocAttr];done)))|((with_reducible apply vE);(focus(apply k2<;>omega));(focus(simp -implicitDefEqProofs (disch:=omega) only[X,zdB,go_sem,simprocAttr];done)))|((with_reducible apply vR);focus exact k2 ..)|((with_reducible apply vE);(focus exact k3);(focus(simp -implicitDefEqProofs (disch:=omega) only[X,zdB,go_sem,simprocAttr];done)))|((with_reducible apply vE);(focus(apply k3<;>omega));(focus(simp -implicitDefEqProofs (disch:=omega) only[X,zdB,go_sem,simprocAttr];done)))|((with_reducible apply vR);focus exact k3 ..)|((with_reducible apply vE);(focus exact k4);(focus(simp -implicitDefEqProofs (disch:=omega) only[X,zdB,go_sem,simprocAttr];done)))|((with_reducible apply vE);(focus(apply k4<;>omega));(focus(simp -implicitDefEqProofs (disch:=omega) only[X,zdB,go_sem,simprocAttr];done)))|((with_reducible apply vR);focus exact k4 ..));simp -implicitDefEqProofs (disch:=omega) only[X,go_sem,simprocAttr])|((with_reducible apply vA);focus omega)|((with_reducible apply vI);(focus(intro hr;(try simp only[zdz]at hr);exact hr));intro hr;have hc:=hr;(try simp only[zdz]at hc);simp -implicitDefEqProofs (disch:=omega) only[hr,X,go_sem,simprocAttr];(try clear hr))
 any_goals exact vS):p:=(e X k1 k2 k3 k4).1 h
def Rd6(H:List AObj)(v:AV)(l:List LTerm):Prop:=(v=.e0∧l=[])∨v=avt l∨∃i off fz t cells,v=.hs i off l.length t∧H[i]? = some (.arr fz 6 cells)∧off+l.length*6≤cells.length∧(cells.drop off).take (l.length*6)=l.flatMap aP
theorem bDa{H:List AObj}{v:AV}{l:List LTerm}(h:Rd6 H v l):avt l=gZ dep H v:=by
 rcases h with⟨rfl,rfl⟩|rfl|⟨i,off,fz,t,cells,rfl,h1,h2,h3⟩
 ·rfl
 ·simp only[gE,aLw,if_true]
 ·simp only[gE,pers,rQ,h1,h3,iL,if_true,aE,if_false,if_pos h2];rfl
theorem bNb{H:List AObj}{v:AV}{l:List LTerm}(h:Rd6 H v l):oM H v (avt l)∧dJ v (avt l)=[]:=by
 have h0:=bDa h;rcases h with⟨rfl,rfl⟩|rfl|⟨i,off,fz,t,cells,rfl,h1,h2,h3⟩
 ·exact⟨h0,rfl⟩
 ·exact⟨h0,rfl⟩
 ·exact⟨h0,rfl⟩
def isKey(t:LTerm):Bool:=decide (t.kind=1)||decide (t.kind=3)||decide (t.kind=4)
theorem aFz(t:LTerm): CT 101 [elT t] (.b (isKey t)):=by
 refine bQ cZ Tryz.func101 g0 ?_
 ·skip;(repeat'(first|refine gT ?_ ?_|refine gF ?_ ?_|refine gC ?_ ?_|refine bX (by omega) ?_|(intro hr;have hc:=hr;(try simp only[zdz]at hc);simp -implicitDefEqProofs (disch:=omega) only[hr,go_sem,simprocAttr];(try clear hr))));all_goals(refine bV ?_ rfl;simp_all[isKey])
def sA(n:Int):Bool:=decide (-2147483647≤n)&&decide (n≤2147483647)
theorem bKv(n:Int): CT 239 [.i .i64 n] (.b (sA n)):=by
 refine bQ cZ Tryz.func239 g0 ?_
 ·skip;(repeat'(first|refine gT ?_ ?_|refine gF ?_ ?_|refine gC ?_ ?_|refine bX (by omega) ?_|(intro hr;have hc:=hr;(try simp only[zdz]at hc);simp -implicitDefEqProofs (disch:=omega) only[hr,go_sem,simprocAttr];(try clear hr))));all_goals(refine bV ?_ rfl;simp_all[sA]<;>omega)
def tK(a b:Int):Int:=if a<b then -1 else if b<a then 1 else 0
theorem zD{a b:Str}(h1:¬a<b)(h2:¬a=b):b<a:=by
 rcases List.le_iff_lt_or_eq.1 (List.not_lt.1 h1)with h|h
 ·exact h
 ·exact absurd h.symm h2
def tP(a b:Str):Int:=if a<b then -1 else if b<a then 1 else 0
theorem P9{a b:Str}(h:a<b):tP a b = -1:=if_pos h
theorem Q0{a b:Str}(h1:¬a<b)(h2:¬a=b):tP a b=1:=by rw[tP,if_neg h1,if_pos (zD h1 h2)]
theorem aJr{a b:Str}(h:a=b):tP a b=0:=by subst h;have:¬a<a:=lO a;simp only[tP,if_neg this]
theorem bKs(a:Int): CT 259 [.i .i64 a] (.b false):=by
 refine bQ cZ Tryz.func259 g0 ?_
 ·skip;(repeat'(first|refine gT ?_ ?_|refine gF ?_ ?_|refine gC ?_ ?_|refine bX (by omega) ?_|(intro hr;have hc:=hr;(try simp only[zdz]at hc);simp -implicitDefEqProofs (disch:=omega) only[hr,go_sem,simprocAttr];(try clear hr))));all_goals(refine bV ?_ rfl;simp_all)
theorem bKt(a:Int): CT 258 [.i .i64 a] (.b false):=by
 refine bQ cZ Tryz.func258 g0 ?_
 ·skip;(repeat'(first|refine gT ?_ ?_|refine gF ?_ ?_|refine gC ?_ ?_|refine bX (by omega) ?_|(intro hr;have hc:=hr;(try simp only[zdz]at hc);simp -implicitDefEqProofs (disch:=omega) only[hr,go_sem,simprocAttr];(try clear hr))));all_goals(refine bV ?_ rfl;simp_all)
theorem bLa(a:Str): CT 248 [.s a] (.b false):=by
 refine bQ cZ Tryz.func248 g0 ?_
 ·skip;(repeat'(first|refine gT ?_ ?_|refine gF ?_ ?_|refine gC ?_ ?_|refine bX (by omega) ?_|(intro hr;have hc:=hr;(try simp only[zdz]at hc);simp -implicitDefEqProofs (disch:=omega) only[hr,go_sem,simprocAttr];(try clear hr))));all_goals(refine bV ?_ rfl;simp_all)
theorem bYn(a b:Int): CT 223 [.i .i64 a,.i .i64 b] (.i .i64 (tK a b)):=by
 refine bQ cZ Tryz.func223 g0 ?_
 ·skip;(repeat'(first|refine gT ?_ ?_|refine gF ?_ ?_|refine gC ?_ ?_|((first|(refine dA (bKs a) ?_ ?_;(focus(simp -implicitDefEqProofs (disch:=omega) only[zdB,go_sem,simprocAttr];done)))|(refine dA (bKs b) ?_ ?_;(focus(simp -implicitDefEqProofs (disch:=omega) only[zdB,go_sem,simprocAttr];done))));simp -implicitDefEqProofs (disch:=omega) only[go_sem,simprocAttr])|refine bX (by omega) ?_|(intro hr;have hc:=hr;(try simp only[zdz]at hc);simp -implicitDefEqProofs (disch:=omega) only[hr,go_sem,simprocAttr];(try clear hr))));all_goals(refine bV ?_ rfl;congr 1;unfold tK;(repeat' split)<;>omega)
theorem bYo(a b:Int): CT 222 [.i .i64 a,.i .i64 b] (.i .i64 (tK a b)):=by
 refine bQ cZ Tryz.func222 g0 ?_
 ·skip;(repeat'(first|refine gT ?_ ?_|refine gF ?_ ?_|refine gC ?_ ?_|((first|(refine dA (bKt a) ?_ ?_;(focus(simp -implicitDefEqProofs (disch:=omega) only[zdB,go_sem,simprocAttr];done)))|(refine dA (bKt b) ?_ ?_;(focus(simp -implicitDefEqProofs (disch:=omega) only[zdB,go_sem,simprocAttr];done))));simp -implicitDefEqProofs (disch:=omega) only[go_sem,simprocAttr])|refine bX (by omega) ?_|(intro hr;have hc:=hr;(try simp only[zdz]at hc);simp -implicitDefEqProofs (disch:=omega) only[hr,go_sem,simprocAttr];(try clear hr))));all_goals(refine bV ?_ rfl;congr 1;unfold tK;(repeat' split)<;>omega)
theorem aYs(a b:Str): CT 199 [.s a,.s b] (.i .i64 (tP a b)):=by
 refine bQ cZ Tryz.func199 g0 ?_
 ·skip;(repeat'(first|refine gT ?_ ?_|refine gF ?_ ?_|refine gC ?_ ?_|((first|(refine dA (bLa a) ?_ ?_;(focus(simp -implicitDefEqProofs (disch:=omega) only[zdB,go_sem,simprocAttr];done)))|(refine dA (bLa b) ?_ ?_;(focus(simp -implicitDefEqProofs (disch:=omega) only[zdB,go_sem,simprocAttr];done))));simp -implicitDefEqProofs (disch:=omega) only[go_sem,simprocAttr])|refine bX (by omega) ?_|(intro hr;have hc:=hr;(try simp only[zdz]at hc);simp -implicitDefEqProofs (disch:=omega) only[hr,go_sem,simprocAttr];(try clear hr))));all_goals(refine bV ?_ rfl;congr 1;simp only[bytesLess_eq,decide_eq_true_eq,decide_eq_false_iff_not,cU]at *;first|exact P9 (by assumption)|exact Q0 (by assumption) (by assumption)|exact aJr (by assumption))
def orI:List Int→Int
 | []=>0
 |a::l=>if a=0 then orI l else a
theorem aEj{l:List Int}{k:Nat}(hz:∀j,j<k→l.getD j 0=0):orI l=orI (l.drop k):=by
 induction k generalizing l with
 |zero=>rfl
 |succ k ih=>
  cases l with
  |nil=>simp[orI]
  |cons a l=>
   have h0:a=0:=hz 0 (by omega);rw[aT,← ih (fun j hj=>by have:=hz (j+1) (by omega);simpa using this),orI,if_pos h0]
theorem bKw(l:List Int)(hl:l.length≤17592186044416): CT 221 [avi l] (.i .i64 (orI l)):=by
 refine eG cZ Tryz.func221 g0 ?_
 ·simp -implicitDefEqProofs (disch:=omega) only[Tryz.f221,go_sem,List.replicate,simprocAttr,avi];refine dF (fun(k:Nat)=>(.k::.k::.j::.k::.k::.j::.k::.k::.v (.i .i64 k)::(rp 8 .j [.k]))) (fun k=>[]) (fun k=>k≤l.length∧∀j,j<k→l.getD j 0=0) (fun k=>l.length-k) (0) ⟨bJ _,fun j h=>by omega⟩ rfl (by simp[hZ]) ?_;rintro k j ⟨hk,ha⟩;simp -implicitDefEqProofs (disch:=omega) only[go_sem,simprocAttr];(repeat'(first|refine gT ?_ ?_|refine gF ?_ ?_|refine gC ?_ ?_|refine bX (by omega) ?_|(intro hr;have hc:=hr;(try simp only[zdz]at hc);simp -implicitDefEqProofs (disch:=omega) only[hr,go_sem,simprocAttr];(try clear hr))))
  ·refine bV ?_ rfl;have hlt:k<l.length:=by omega
   rw[aEj ha,eA hlt,orI,if_neg (by simpa[List.getD,hlt]using hc)];simp[List.getD,hlt]
  ·exact⟨k+1,⟨by omega,fD ha (by simpa using hc)⟩,by omega,by simp⟩
  ·refine bV ?_ rfl;rw[aEj ha,cV (by omega)];rfl
theorem aEs{s:Str}(h:eQ s=true):0<s.length:=by
 cases s with
 |nil=>revert h;decide
 |cons a l=>simp
def bLx:Str:=[116,114,117,101]
def aXr:Str:=[102,97,108,115,101]
def bJs(s:Str):Bool:=eQ s&&decide (97≤((s.getD 0 0).toNat:Int))&&decide (((s.getD 0 0).toNat:Int)≤122) && !decide (s=bLx) && !decide (s=aXr)
theorem bYk(s:Str)(hs:s.length≤140737488355328): CT 241 [.s s] (.b (bJs s)):=by
 refine bQ cZ Tryz.func241 g0 ?_
 ·skip;have c:=U0 s hs;cases h:eQ s with
  |false=>
   rw[h]at c;(repeat'(first|refine gT ?_ ?_|refine gF ?_ ?_|refine gC ?_ ?_|((refine dA (c) ?_ ?_;(focus(simp -implicitDefEqProofs (disch:=omega) only[zdB,go_sem,simprocAttr];done)));simp -implicitDefEqProofs (disch:=omega) only[go_sem,simprocAttr])|refine bX (by omega) ?_|(intro hr;have hc:=hr;(try simp only[zdz]at hc);simp -implicitDefEqProofs (disch:=omega) only[hr,go_sem,simprocAttr];(try clear hr))));all_goals exact bV (by simp[bJs,h]) rfl
  |true=>
   rw[h]at c;have hpos:=aEs h;(repeat'(first|refine gT ?_ ?_|refine gF ?_ ?_|refine gC ?_ ?_|((refine dA (c) ?_ ?_;(focus(simp -implicitDefEqProofs (disch:=omega) only[zdB,go_sem,simprocAttr];done)));simp -implicitDefEqProofs (disch:=omega) only[go_sem,simprocAttr])|refine bX (by omega) ?_|(intro hr;have hc:=hr;(try simp only[zdz]at hc);simp -implicitDefEqProofs (disch:=omega) only[hr,go_sem,simprocAttr];(try clear hr))));all_goals refine bV ?_ rfl
   all_goals(simp_all[bJs,bLx,aXr,decide_not]<;>(first|omega|(intros;omega)|exact decide_eq_decide.2 Iff.rfl))
theorem bYh(s:Str)(hs:s.length≤140737488355328): CT 246 [.s s] (.b (bJs s)):=by
 refine bQ cZ Tryz.func246 g0 ?_
 ·skip;have c:=aYq s hs;cases h:eQ s with
  |false=>
   rw[h]at c;(repeat'(first|refine gT ?_ ?_|refine gF ?_ ?_|refine gC ?_ ?_|((refine dA (c) ?_ ?_;(focus(simp -implicitDefEqProofs (disch:=omega) only[zdB,go_sem,simprocAttr];done)));simp -implicitDefEqProofs (disch:=omega) only[go_sem,simprocAttr])|refine bX (by omega) ?_|(intro hr;have hc:=hr;(try simp only[zdz]at hc);simp -implicitDefEqProofs (disch:=omega) only[hr,go_sem,simprocAttr];(try clear hr))));all_goals exact bV (by simp[bJs,h]) rfl
  |true=>
   rw[h]at c;have hpos:=aEs h;(repeat'(first|refine gT ?_ ?_|refine gF ?_ ?_|refine gC ?_ ?_|((refine dA (c) ?_ ?_;(focus(simp -implicitDefEqProofs (disch:=omega) only[zdB,go_sem,simprocAttr];done)));simp -implicitDefEqProofs (disch:=omega) only[go_sem,simprocAttr])|refine bX (by omega) ?_|(intro hr;have hc:=hr;(try simp only[zdz]at hc);simp -implicitDefEqProofs (disch:=omega) only[hr,go_sem,simprocAttr];(try clear hr))));all_goals refine bV ?_ rfl
   all_goals(simp_all[bJs,bLx,aXr,decide_not]<;>(first|omega|(intros;omega)|exact decide_eq_decide.2 Iff.rfl))
theorem Q5{n:Nat}:((n:Int)=0)↔n=0:=by omega
theorem Q6{n:Nat}:((n:Int)=1)↔n=1:=by omega
theorem sK{n:Nat}:((n:Int)≤8)↔n≤8:=by omega
def sU(c:UInt8):Bool:=decide (32≤(c.toNat:Int))&&decide ((c.toNat:Int)≤126)&&decide ((c.toNat:Int)≠34)&&decide ((c.toNat:Int)≠92)
def E6(s:Str):Bool:=s.all sU&&decide (s.length≤200)
theorem bFt{α:Type}{l:List α}{k:Nat}{d:α}(h:k<l.length):l[k]? = some (l.getD k d):=by simp[List.getD,h]
theorem bPo{α:Type}{l:List α}{k:Nat}{d x:α}(h:l[k]? = some x):l.getD k d=x:=by simp[List.getD,h]
theorem aHs{s:Str}{k:Nat}{c:UInt8}(h:s[k]? = some c)(hc:sU c=false):E6 s=false:=by
 have:s.all sU=false:=by
  rw[List.all_eq_false];exact⟨c,eD h,by simp[hc]⟩
 simp[E6,this]
theorem aKy{s:Str}(h:∀j,j<s.length→sU (s.getD j 0)=true):E6 s=decide (s.length≤200):=by
 have:s.all sU=true:=aOs (d:=0) h;simp[E6,this]
theorem bYi(s:Str)(hs:s.length≤140737488355328): CT 245 [.s s] (.b (E6 s)):=by
 refine bQ cZ Tryz.func245 g0 ?_
 ·skip;refine dF (fun(k:Nat)=>(.k::.k::.j::.j::.k::.k::.v (.i .i64 k)::(rp 25 .j [.k,.k,.k]))) (fun k=>[]) (fun k=>k≤s.length∧∀j,j<k→sU (s.getD j 0)=true) (fun k=>s.length-k) (0) ⟨bJ _,fun j h=>by omega⟩ rfl (by simp[hZ]) ?_;rintro k j ⟨hk,ha⟩;refine zg ?_;(refine zs0 ?_;repeat' first|exact trivial|refine zJ ?_ ?_|refine zH fun hc=>?_);all_goals first
   |(refine bV ?_ rfl;rw[aHs (k:=k) (bFt (d:=0) (by omega)) (by simp only[sU,nZ,decide_eq_false_iff_not,ne_eq];omega)];done)
   |exact⟨k+1,⟨by omega,fD ha (by simp only[sU,aA,decide_eq_true_eq,ne_eq];omega)⟩,by omega,by simp⟩
   |(refine bV ?_ rfl;rw[aKy (fun j hj=>ha j (by omega))];exact congrArg AV.b (decide_eq_decide.2 (by omega)))
theorem bYq(s:Str)(hs:s.length≤140737488355328): CT 240 [.s s] (.b (E6 s)):=by
 refine bQ cZ Tryz.func240 g0 ?_
 ·skip;refine dF (fun(k:Nat)=>(.k::.k::.j::.k::.j::.k::.k::(rp 17 .j [.k,.k,.k]))) (fun k=>[.sit s k]) (fun k=>k≤s.length∧∀j,j<k→sU (s.getD j 0)=true) (fun k=>s.length-k) (0) ⟨bJ _,fun j h=>by omega⟩ rfl (by simp[hZ]) ?_;rintro k j ⟨hk,ha⟩;refine zg ?_;refine aIr rfl ?_ ?_ ?_
  ·intro hle;refine zg ?_;refine bV ?_ rfl;rw[aKy (fun j hj=>ha j (by omega))];exact congrArg AV.b (decide_eq_decide.2 (by omega))
  ·intro c hc hlt;have hcg:=bPo (d:=0) hc;have hk2:=bP hc;have hc0:=hc;refine zg ?_;(refine zs0 ?_;repeat' first|exact trivial|refine zJ ?_ ?_|refine zH fun hc=>?_);all_goals first
    |(refine bV ?_ rfl;rw[aHs hc0 (by simp only[sU,nZ,decide_eq_false_iff_not,ne_eq];omega)];done)
    |exact⟨k+1,⟨by omega,fD ha (by rw[hcg];simp only[sU,aA,decide_eq_true_eq,ne_eq];omega)⟩,by omega,by simp⟩
  ·intro c rn m hc h1 h2 h3 h4;have hc0:=hc;refine zg ?_;(refine zs0 ?_;repeat' first|exact trivial|refine zJ ?_ ?_|refine zH fun hc=>?_);all_goals first
    |(exfalso;omega)
    |(refine bV ?_ rfl;rw[aHs hc0 (by simp only[sU,nZ,decide_eq_false_iff_not,ne_eq];omega)];done)
def gK(t:LTerm)(n te so ki re:Bool):Bool:=(n||decide (t.n=0))&&(te||decide (t.text=[]))&&(so||decide (t.sort=[]))&&(ki||decide (t.kids=[]))&&(re||decide (t.rest=[]))
theorem bQv(t:LTerm): CT 244 [elT t,.b true,.b false,.b false,.b false,.b false] (.b (gK t true false false false false)):=by
 refine bQ cZ Tryz.func244 g0 ?_
 ·skip;(refine zs0 ?_;repeat' first|exact trivial|refine zJ ?_ ?_|refine zH fun hc=>?_);all_goals(refine bV ?_ rfl;simp_all[gK])
theorem bQu(t:LTerm): CT 244 [elT t,.b false,.b true,.b false,.b false,.b false] (.b (gK t false true false false false)):=by
 refine bQ cZ Tryz.func244 g0 ?_
 ·skip;(refine zs0 ?_;repeat' first|exact trivial|refine zJ ?_ ?_|refine zH fun hc=>?_);all_goals(refine bV ?_ rfl;simp_all[gK])
theorem bQt(t:LTerm): CT 244 [elT t,.b false,.b true,.b false,.b true,.b false] (.b (gK t false true false true false)):=by
 refine bQ cZ Tryz.func244 g0 ?_
 ·skip;(refine zs0 ?_;repeat' first|exact trivial|refine zJ ?_ ?_|refine zH fun hc=>?_);all_goals(refine bV ?_ rfl;simp_all[gK])
theorem aYr(t:LTerm): CT 244 [elT t,.b false,.b true,.b true,.b false,.b false] (.b (gK t false true true false false)):=by
 refine bQ cZ Tryz.func244 g0 ?_
 ·skip;(refine zs0 ?_;repeat' first|exact trivial|refine zJ ?_ ?_|refine zH fun hc=>?_);all_goals(refine bV ?_ rfl;simp_all[gK])
theorem bQs(t:LTerm): CT 244 [elT t,.b false,.b false,.b false,.b true,.b true] (.b (gK t false false false true true)):=by
 refine bQ cZ Tryz.func244 g0 ?_
 ·skip;(refine zs0 ?_;repeat' first|exact trivial|refine zJ ?_ ?_|refine zH fun hc=>?_);all_goals(refine bV ?_ rfl;simp_all[gK])
def oH(t:LTerm)(so:Str):Bool:=decide (t.rest.length=0)||(decide (t.rest.length=1)&&decide ((t.rest.getD 0 default).kind=6)&&eQ (t.rest.getD 0 default).text&&decide ((t.rest.getD 0 default).sort=so)&&gK (t.rest.getD 0 default) false true true false false)
theorem bKr(t:LTerm)(so:Str)(ht:OkT t): CT 247 [elT t,.s so] (.b (oH t so)):=by
 refine bQ cZ Tryz.func247 g0 ?_
 ·skip;have h1:0<t.rest.length→OkT (t.rest.getD 0 default):=fun h=>ht.rst _ (cT h);(repeat'(first|refine gT ?_ ?_|refine gF ?_ ?_|refine gC ?_ ?_|((first|refine cF (aYq (t.rest.getD 0 default).text (h1 (by omega)).text) ?_|refine cF (aYr (t.rest.getD 0 default)) ?_);simp -implicitDefEqProofs (disch:=omega) only[go_sem,simprocAttr])|refine bX (by omega) ?_|(intro hr;have hc:=hr;(try simp only[zdz]at hc);simp -implicitDefEqProofs (disch:=omega) only[hr,go_sem,simprocAttr];(try clear hr))));all_goals simp only[Q5,Q6]at *
  all_goals(refine bV ?_ rfl;simp_all only[oH,decide_true,decide_false,bC,cU,aI,aO,aM,bA,Nat.one_ne_zero])
def aEk(s:Str):Bool:=eQ (sO s)
theorem bYj(s:Str)(hs:s.length≤140737488355328): CT 242 [.s s] (.b (aEk s)):=by
 refine bQ cZ Tryz.func242 g0 ?_
 ·skip;(repeat'(first|refine gT ?_ ?_|refine gF ?_ ?_|refine gC ?_ ?_|(refine cF (bLb s hs) ?_;simp -implicitDefEqProofs (disch:=omega) only[go_sem,simprocAttr])|(refine aRf (U0 _ (jT (aBw s) hs)) ?_;simp -implicitDefEqProofs (disch:=omega) only[go_sem,simprocAttr])|refine bX (by omega) ?_|(intro hr;have hc:=hr;(try simp only[zdz]at hc);simp -implicitDefEqProofs (disch:=omega) only[hr,go_sem,simprocAttr];(try clear hr))));refine bV ?_ (by rfl);rfl
theorem sJ{n:Nat}:((n:Int).tmod 2=0)↔n % 2=0:=by
 rw[Int.tmod_eq_emod_of_nonneg (Int.natCast_nonneg n)];omega
def yM(s:Str):Bool:=decide (s=[95])||decide (s=[36])
abbrev B8:Str:=[76,105,115,116]
abbrev aHi:Str:=[77,97,112]
abbrev cBt:Str:=[65,110,121]
def nodeB(t:LTerm):Bool:=
 if t.kind=1 then sA t.n&&gK t true false false false false
 else if t.kind=2 then(decide (t.n=0)||decide (t.n=1))&&gK t true false false false false
 else if t.kind=3 then E6 t.text&&gK t false true false false false
 else if t.kind=4 then bJs t.text&&gK t false true false false false
 else if t.kind=5 then aEk t.text&&decide (t.kids.length≤8)&&gK t false true false true false
 else if t.kind=6 then(if yM t.text=true then decide (t.sort=cBt)&&gK t false true true false false else eQ t.text&&eQ t.sort&&gK t false true true false false)
 else if t.kind=7 then oH t B8&&gK t false false false true true
 else if t.kind=8 then oH t aHi&&decide (t.kids.length % 2=0)&&gK t false false false true true
 else false
theorem kQ(t:LTerm)(h:nodeB t=true):t.rest.length≤1:=by
 have z:∀{a b c d},gK t a b c d false=true→t.rest.length≤1:=by
  intro a b c d h;simp only[gK,aA,cC,decide_eq_true_eq,aE,false_or]at h;rw[h.2];simp
 have r:∀{s},oH t s=true→t.rest.length≤1:=by
  intro s h;simp only[oH,aA,cC,decide_eq_true_eq]at h;omega
 unfold nodeB at h;repeat' split at h
 all_goals try simp only[aA]at h
 all_goals first|exact z h.2|exact r h.1|exact r h.1.1|cases h
theorem bYl(t:LTerm)(ht:OkT t): CT 196 [elT t] (.b (nodeB t)):=by
 refine bQ cZ Tryz.func196 g0 ?_
 ·skip;(repeat'(first|refine gT ?_ ?_|refine gF ?_ ?_|refine gC ?_ ?_|((first|refine cF (bYi t.text ht.text) ?_|refine cF (bYh t.text ht.text) ?_|refine cF (bZh t.text ht.text) ?_|(refine dA (aYq t.text ht.text) ?_ ?_;(focus(simp -implicitDefEqProofs (disch:=omega) only[zdB,go_sem,simprocAttr];done)))|(refine dA (aYq t.sort ht.sort) ?_ ?_;(focus(simp -implicitDefEqProofs (disch:=omega) only[zdB,go_sem,simprocAttr];done)))|(refine dA (bKr t B8 ht) ?_ ?_;(focus(simp -implicitDefEqProofs (disch:=omega) only[zdB,go_sem,simprocAttr];done)))|(refine dA (bKr t aHi ht) ?_ ?_;(focus(simp -implicitDefEqProofs (disch:=omega) only[zdB,go_sem,simprocAttr];done)))|(refine dA (bQv t) ?_ ?_;(focus(simp -implicitDefEqProofs (disch:=omega) only[zdB,go_sem,simprocAttr];done)))|(refine dA (bQu t) ?_ ?_;(focus(simp -implicitDefEqProofs (disch:=omega) only[zdB,go_sem,simprocAttr];done)))|(refine dA (bQt t) ?_ ?_;(focus(simp -implicitDefEqProofs (disch:=omega) only[zdB,go_sem,simprocAttr];done)))|(refine dA (aYr t) ?_ ?_;(focus(simp -implicitDefEqProofs (disch:=omega) only[zdB,go_sem,simprocAttr];done)))|(refine dA (bQs t) ?_ ?_;(focus(simp -implicitDefEqProofs (disch:=omega) only[zdB,go_sem,simprocAttr];done))));simp -implicitDefEqProofs (disch:=omega) only[go_sem,simprocAttr])|refine bX (by omega) ?_|(intro hr;have hc:=hr;(try simp only[zdz]at hc);simp -implicitDefEqProofs (disch:=omega) only[hr,go_sem,simprocAttr];(try clear hr))));all_goals try simp only[Q5,Q6,sK,sJ]at *
  all_goals refine bV ?_ rfl
  all_goals(simp_all[nodeB,sA,yM,aEk]<;>(intros;omega))
end Go.Proofs.YtdjcggcjlphdoaaGreatDoor
