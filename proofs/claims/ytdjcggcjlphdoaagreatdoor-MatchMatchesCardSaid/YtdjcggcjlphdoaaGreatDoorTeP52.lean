/-
  Functions of the chapter, as plain functions of what they are given; no condition.
-/
import Derived.Test.YtdjcggcjlphdoaaGreatDoorTeP51
import Derived.Test.YtdjcggcjlphdoaaGreatDoorSoP52
import Derived.Sort.Walk0
set_option maxRecDepth 100000
set_option linter.unusedSimpArgs false
set_option linter.unusedVariables false
set_option maxHeartbeats 4000000
namespace Go.Proofs.YtdjcggcjlphdoaaGreatDoor
open Go Go.Vo
open Nat (reduceAdd reduceSub reduceMul reduceLeDiff reduceLT reduceEqDiff)
open Int (reduceNeg)
inductive OkT:LTerm→Prop
 |mk {t:LTerm}:t.text.length≤140737488355328→t.sort.length≤140737488355328 → -9223372036854775808≤t.n→t.n≤9223372036854775807→t.kids.length≤1466015503701→t.rest.length≤1466015503701→(∀k∈t.kids,OkT k)→(∀k∈t.rest,OkT k)→OkT t
section
variable {t:LTerm} (h:OkT t)
include h
theorem OkT.text:t.text.length≤140737488355328:=by cases h;assumption
theorem OkT.sort:t.sort.length≤140737488355328:=by cases h;assumption
theorem OkT.kids:t.kids.length≤1466015503701:=by cases h;assumption
theorem OkT.rest:t.rest.length≤1466015503701:=by cases h;assumption
theorem OkT.kid:∀k∈t.kids,OkT k:=by cases h;assumption
theorem OkT.rst:∀k∈t.rest,OkT k:=by cases h;assumption
end
def elT(t:LTerm):AV:=.agg (aM t)
section
variable (k n:Int) (t s:Str) (ks rs:List LTerm)
theorem bKj:(LTerm.mk k n t s ks rs).kind=k:=rfl
theorem cEq:(LTerm.mk k n t s ks rs).n=n:=rfl
theorem bHm:(LTerm.mk k n t s ks rs).text=t:=rfl
theorem bHu:(LTerm.mk k n t s ks rs).sort=s:=rfl
theorem bKk:(LTerm.mk k n t s ks rs).kids=ks:=rfl
theorem bIg:(LTerm.mk k n t s ks rs).rest=rs:=rfl
end
theorem bXq:((2:Int)=0)=False:=by decide
attribute [go_sem] bXq ite_self elT bKj cEq bHm bHu bKk bIg
theorem zdB:(∀l,avs l=.sl (l.map .s) l.length)∧(∀l,avb l=.sl (l.flatMap bZ) l.length)∧(∀l,avi l=.sl (l.map (.i .i64)) l.length)∧(∀l,avo l=.sl (l.flatMap bG) l.length)∧(∀s,bX s=[avs s.sorts,avb s.below,avo s.ops,avo s.funs,avs s.values])∧(∀o,bG o=[.s o.name,avs o.args,.s o.sort,avb o.pieces,.i .i64 o.prec,.i .i64 o.assoc,avi o.strict])∧(∀b,bZ b=[.s b.1,.s b.2])∧(∀t,elT t=.agg (aM t))∧(∀l,avt l=.sl (l.flatMap aM) l.length)∧(∀t,aM t=[.i .i64 t.kind,.i .i64 t.n,.s t.text,.s t.sort,avt t.kids,avt t.rest]):=⟨fun _=>rfl,fun _=>rfl,fun _=>rfl,fun _=>rfl,fun _=>rfl,fun _=>rfl,fun _=>rfl,fun _=>rfl,fun _=>rfl,aI⟩
theorem cF{P:Program}{G:Glob}{dr:Option DR}{d:Option Nat}{os:List fK}{K:List AV→List AObj→Prop}{env:List AV}{h:List AObj}{f:FuncId}{A A':List AV}{r:AV}(s:Ctr P G f A' r)
 (k:dE P G dr os K (hJ env d (mat r (gB r h A)).1) (mat r (gB r h A)).2) (hA:A.map (gJ dep h)=A':=by(simp -implicitDefEqProofs (disch:=omega) only[zdB,go_sem,↓reduceIte,reduceAdd,reduceSub,reduceMul,reduceLeDiff,reduceLT,reduceEqDiff,reduceNeg,Nat.reduceBEq];done)):wQ P G dr f A d os K env h:=bM s hA k
theorem zt1{K1:Prop}{p q:Prop}(k1:K1)(h:q)(e:K1→Cv q p:=by
 intro k1;repeat' first|with_reducible apply vT|with_reducible apply vF|with_reducible apply vC|((first|((with_reducible apply vE);(focus exact k1);(focus(simp -implicitDefEqProofs (disch:=omega) only[zdB,go_sem,simprocAttr];done)))|((with_reducible apply vE);(focus(apply k1<;>omega));(focus(simp -implicitDefEqProofs (disch:=omega) only[zdB,go_sem,simprocAttr];done)))|((with_reducible apply vR);focus exact k1 ..));simp -implicitDefEqProofs (disch:=omega) only[go_sem,simprocAttr])|((with_reducible apply vA);focus omega)|((with_reducible apply vI);(focus(intro hr;(try simp only[zdz]at hr);exact hr));intro hr;have hc:=hr;(try simp only[zdz]at hc);simp -implicitDefEqProofs (disch:=omega) only[hr,go_sem,simprocAttr];(try clear hr))
 any_goals exact vS):p:=(e k1).1 h
theorem zy1{K1:Prop}{x:Prop}{p q:Prop}(X:x)(k1:K1)(h:q)(e:x→K1→Cv q p:=by
 intro X k1;repeat' first|with_reducible apply vT|with_reducible apply vF|with_reducible apply vC|((first|((with_reducible apply vE);(focus exact k1);(focus(simp -implicitDefEqProofs (disch:=omega) only[X,zdB,go_sem,simprocAttr];done)))|((with_reducible apply vE);(focus(apply k1<;>omega));(focus(simp -implicitDefEqProofs (disch:=omega) only[X,zdB,go_sem,simprocAttr];done)))|((with_reducible apply vR);focus exact k1 ..));simp -implicitDefEqProofs (disch:=omega) only[X,go_sem,simprocAttr])|((with_reducible apply vA);focus omega)|((with_reducible apply vI);(focus(intro hr;(try simp only[zdz]at hr);exact hr));intro hr;have hc:=hr;(try simp only[zdz]at hc);simp -implicitDefEqProofs (disch:=omega) only[hr,X,go_sem,simprocAttr];(try clear hr))
 any_goals exact vS):p:=(e X k1).1 h
theorem zt2{K1:Prop}{K2:Prop}{p q:Prop}(k1:K1)(k2:K2)(h:q)(e:K1→K2→Cv q p:=by
 intro k1 k2;repeat' first|with_reducible apply vT|with_reducible apply vF|with_reducible apply vC|((first|((with_reducible apply vE);(focus exact k1);(focus(simp -implicitDefEqProofs (disch:=omega) only[zdB,go_sem,simprocAttr];done)))|((with_reducible apply vE);(focus(apply k1<;>omega));(focus(simp -implicitDefEqProofs (disch:=omega) only[zdB,go_sem,simprocAttr];done)))|((with_reducible apply vR);focus exact k1 ..)|((with_reducible apply vE);(focus exact k2);(focus(simp -implicitDefEqProofs (disch:=omega) only[zdB,go_sem,simprocAttr];done)))|((with_reducible apply vE);(focus(apply k2<;>omega));(focus(simp -implicitDefEqProofs (disch:=omega) only[zdB,go_sem,simprocAttr];done)))|((with_reducible apply vR);focus exact k2 ..));simp -implicitDefEqProofs (disch:=omega) only[go_sem,simprocAttr])|((with_reducible apply vA);focus omega)|((with_reducible apply vI);(focus(intro hr;(try simp only[zdz]at hr);exact hr));intro hr;have hc:=hr;(try simp only[zdz]at hc);simp -implicitDefEqProofs (disch:=omega) only[hr,go_sem,simprocAttr];(try clear hr))
 any_goals exact vS):p:=(e k1 k2).1 h
theorem zy2{K1:Prop}{K2:Prop}{x:Prop}{p q:Prop}(X:x)(k1:K1)(k2:K2)(h:q)(e:x→K1→K2→Cv q p:=by
 intro X k1 k2;repeat' first|with_reducible apply vT|with_reducible apply vF|with_reducible apply vC|((first|((with_reducible apply vE);(focus exact k1);(focus(simp -implicitDefEqProofs (disch:=omega) only[X,zdB,go_sem,simprocAttr];done)))|((with_reducible apply vE);(focus(apply k1<;>omega));(focus(simp -implicitDefEqProofs (disch:=omega) only[X,zdB,go_sem,simprocAttr];done)))|((with_reducible apply vR);focus exact k1 ..)|((with_reducible apply vE);(focus exact k2);(focus(simp -implicitDefEqProofs (disch:=omega) only[X,zdB,go_sem,simprocAttr];done)))|((with_reducible apply vE);(focus(apply k2<;>omega));(focus(simp -implicitDefEqProofs (disch:=omega) only[X,zdB,go_sem,simprocAttr];done)))|((with_reducible apply vR);focus exact k2 ..));simp -implicitDefEqProofs (disch:=omega) only[X,go_sem,simprocAttr])|((with_reducible apply vA);focus omega)|((with_reducible apply vI);(focus(intro hr;(try simp only[zdz]at hr);exact hr));intro hr;have hc:=hr;(try simp only[zdz]at hc);simp -implicitDefEqProofs (disch:=omega) only[hr,X,go_sem,simprocAttr];(try clear hr))
 any_goals exact vS):p:=(e X k1 k2).1 h
theorem zt3{K1:Prop}{K2:Prop}{K3:Prop}{p q:Prop}(k1:K1)(k2:K2)(k3:K3)(h:q)(e:K1→K2→K3→Cv q p:=by
 intro k1 k2 k3;repeat' first|with_reducible apply vT|with_reducible apply vF|with_reducible apply vC|((first|((with_reducible apply vE);(focus exact k1);(focus(simp -implicitDefEqProofs (disch:=omega) only[zdB,go_sem,simprocAttr];done)))|((with_reducible apply vE);(focus(apply k1<;>omega));(focus(simp -implicitDefEqProofs (disch:=omega) only[zdB,go_sem,simprocAttr];done)))|((with_reducible apply vR);focus exact k1 ..)|((with_reducible apply vE);(focus exact k2);(focus(simp -implicitDefEqProofs (disch:=omega) only[zdB,go_sem,simprocAttr];done)))|((with_reducible apply vE);(focus(apply k2<;>omega));(focus(simp -implicitDefEqProofs (disch:=omega) only[zdB,go_sem,simprocAttr];done)))|((with_reducible apply vR);focus exact k2 ..)|((with_reducible apply vE);(focus exact k3);(focus(simp -implicitDefEqProofs (disch:=omega) only[zdB,go_sem,simprocAttr];done)))|((with_reducible apply vE);(focus(apply k3<;>omega));(focus(simp -implicitDefEqProofs (disch:=omega) only[zdB,go_sem,simprocAttr];done)))|((with_reducible apply vR);focus exact k3 ..));simp -implicitDefEqProofs (disch:=omega) only[go_sem,simprocAttr])|((with_reducible apply vA);focus omega)|((with_reducible apply vI);(focus(intro hr;(try simp only[zdz]at hr);exact hr));intro hr;have hc:=hr;(try simp only[zdz]at hc);simp -implicitDefEqProofs (disch:=omega) only[hr,go_sem,simprocAttr];(try clear hr))
 any_goals exact vS):p:=(e k1 k2 k3).1 h
theorem zy3{K1:Prop}{K2:Prop}{K3:Prop}{x:Prop}{p q:Prop}(X:x)(k1:K1)(k2:K2)(k3:K3)(h:q)(e:x→K1→K2→K3→Cv q p:=by
 intro X k1 k2 k3;repeat' first|with_reducible apply vT|with_reducible apply vF|with_reducible apply vC|((first|((with_reducible apply vE);(focus exact k1);(focus(simp -implicitDefEqProofs (disch:=omega) only[X,zdB,go_sem,simprocAttr];done)))|((with_reducible apply vE);(focus(apply k1<;>omega));(focus(simp -implicitDefEqProofs (disch:=omega) only[X,zdB,go_sem,simprocAttr];done)))|((with_reducible apply vR);focus exact k1 ..)|((with_reducible apply vE);(focus exact k2);(focus(simp -implicitDefEqProofs (disch:=omega) only[X,zdB,go_sem,simprocAttr];done)))|((with_reducible apply vE);(focus(apply k2<;>omega));(focus(simp -implicitDefEqProofs (disch:=omega) only[X,zdB,go_sem,simprocAttr];done)))|((with_reducible apply vR);focus exact k2 ..)|((with_reducible apply vE);(focus exact k3);(focus(simp -implicitDefEqProofs (disch:=omega) only[X,zdB,go_sem,simprocAttr];done)))|((with_reducible apply vE);(focus(apply k3<;>omega));(focus(simp -implicitDefEqProofs (disch:=omega) only[X,zdB,go_sem,simprocAttr];done)))|((with_reducible apply vR);focus exact k3 ..));simp -implicitDefEqProofs (disch:=omega) only[X,go_sem,simprocAttr])|((with_reducible apply vA);focus omega)|((with_reducible apply vI);(focus(intro hr;(try simp only[zdz]at hr);exact hr));intro hr;have hc:=hr;(try simp only[zdz]at hc);simp -implicitDefEqProofs (disch:=omega) only[hr,X,go_sem,simprocAttr];(try clear hr))
 any_goals exact vS):p:=(e X k1 k2 k3).1 h
theorem zt4{K1:Prop}{K2:Prop}{K3:Prop}{K4:Prop}{p q:Prop}(k1:K1)(k2:K2)(k3:K3)(k4:K4)(h:q)(e:K1→K2→K3→K4→Cv q p:=by
 intro k1 k2 k3 k4;repeat' first|with_reducible apply vT|with_reducible apply vF|with_reducible apply vC|((first|((with_reducible apply vE);(focus exact k1);(focus(simp -implicitDefEqProofs (disch:=omega) only[zdB,go_sem,simprocAttr];done)))|((with_reducible apply vE);(focus(apply k1<;>omega));(focus(simp -implicitDefEqProofs (disch:=omega) only[zdB,go_sem,simprocAttr];done)))|((with_reducible apply vR);focus exact k1 ..)|((with_reducible apply vE);(focus exact k2);(focus(simp -implicitDefEqProofs (disch:=omega) only[zdB,go_sem,simprocAttr];done)))|((with_reducible apply vE);(focus(apply k2<;>omega));(focus(simp -implicitDefEqProofs (disch:=omega) only[zdB,go_sem,simprocAttr];done)))|((with_reducible apply vR);focus exact k2 ..)|((with_reducible apply vE);(focus exact k3);(focus(simp -implicitDefEqProofs (disch:=omega) only[zdB,go_sem,simprocAttr];done)))|((with_reducible apply vE);(focus(apply k3<;>omega));(focus(simp -implicitDefEqProofs (disch:=omega) only[zdB,go_sem,simprocAttr];done)))|((with_reducible apply vR);focus exact k3 ..)|((with_reducible apply vE);(focus exact k4);(focus(simp -implicitDefEqProofs (disch:=omega) only[zdB,go_sem,simprocAttr];done)))|((with_reducible apply vE);(focus(apply k4<;>omega));(focus(simp -implicitDefEqProofs (disch:=omega) only[zdB,go_sem,simprocAttr];done)))|((with_reducible apply vR);focus exact k4 ..));simp -implicitDefEqProofs (disch:=omega) only[go_sem,simprocAttr])|((with_reducible apply vA);focus omega)|((with_reducible apply vI);(focus(intro hr;(try simp only[zdz]at hr);exact hr));intro hr;have hc:=hr;(try simp only[zdz]at hc);simp -implicitDefEqProofs (disch:=omega) only[hr,go_sem,simprocAttr];(try clear hr))
 any_goals exact vS):p:=(e k1 k2 k3 k4).1 h
theorem zy4{K1:Prop}{K2:Prop}{K3:Prop}{K4:Prop}{x:Prop}{p q:Prop}(X:x)(k1:K1)(k2:K2)(k3:K3)(k4:K4)(h:q)(e:x→K1→K2→K3→K4→Cv q p:=by
 intro X k1 k2 k3 k4;repeat' first|with_reducible apply vT|with_reducible apply vF|with_reducible apply vC|((first|((with_reducible apply vE);(focus exact k1);(focus(simp -implicitDefEqProofs (disch:=omega) only[X,zdB,go_sem,simprocAttr];done)))|((with_reducible apply vE);(focus(apply k1<;>omega));(focus(simp -implicitDefEqProofs (disch:=omega) only[X,zdB,go_sem,simprocAttr];done)))|((with_reducible apply vR);focus exact k1 ..)|((with_reducible apply vE);(focus exact k2);(focus(simp -implicitDefEqProofs (disch:=omega) only[X,zdB,go_sem,simprocAttr];done)))|((with_reducible apply vE);(focus(apply k2<;>omega));(focus(simp -implicitDefEqProofs (disch:=omega) only[X,zdB,go_sem,simprocAttr];done)))|((with_reducible apply vR);focus exact k2 ..)|((with_reducible apply vE);(focus exact k3);(focus(simp -implicitDefEqProofs (disch:=omega) only[X,zdB,go_sem,simprocAttr];done)))|((with_reducible apply vE);(focus(apply k3<;>omega));(focus(simp -implicitDefEqProofs (disch:=omega) only[X,zdB,go_sem,simprocAttr];done)))|((with_reducible apply vR);focus exact k3 ..)|((with_reducible apply vE);(focus exact k4);(focus(simp -implicitDefEqProofs (disch:=omega) only[X,zdB,go_sem,simprocAttr];done)))|((with_reducible apply vE);(focus(apply k4<;>omega));(focus(simp -implicitDefEqProofs (disch:=omega) only[X,zdB,go_sem,simprocAttr];done)))|((with_reducible apply vR);focus exact k4 ..));simp -implicitDefEqProofs (disch:=omega) only[X,go_sem,simprocAttr])|((with_reducible apply vA);focus omega)|((with_reducible apply vI);(focus(intro hr;(try simp only[zdz]at hr);exact hr));intro hr;have hc:=hr;(try simp only[zdz]at hc);simp -implicitDefEqProofs (disch:=omega) only[hr,X,go_sem,simprocAttr];(try clear hr))
 any_goals exact vS):p:=(e X k1 k2 k3 k4).1 h
def Rd6(H:List AObj)(v:AV)(l:List LTerm):Prop:=(v=.e0∧l=[])∨v=avt l∨∃i off fz t cells,v=.hs i off l.length t∧H[i]? = some (.arr fz 6 cells)∧off+l.length*6≤cells.length∧(cells.drop off).take (l.length*6)=l.flatMap aM
theorem aYt{H:List AObj}{v:AV}{l:List LTerm}(h:Rd6 H v l):avt l=gJ dep H v:=by
 rcases h with⟨rfl,rfl⟩|rfl|⟨i,off,fz,t,cells,rfl,h1,h2,h3⟩
 ·rfl
 ·simp only[fS,aJk,if_true]
 ·simp only[fS,pers,rQ,h1,h3,eW,if_true,aE,if_false,if_pos h2];rfl
theorem bIl{H:List AObj}{v:AV}{l:List LTerm}(h:Rd6 H v l):pI H v (avt l)∧cX v (avt l)=[]:=by
 have h0:=aYt h;rcases h with⟨rfl,rfl⟩|rfl|⟨i,off,fz,t,cells,rfl,h1,h2,h3⟩
 ·exact⟨h0,rfl⟩
 ·exact⟨h0,rfl⟩
 ·exact⟨h0,rfl⟩
def E1(t:LTerm):Bool:=decide (t.kind=1)||decide (t.kind=3)||decide (t.kind=4)
theorem bGi(t:LTerm): CT 173 [elT t] (.b (E1 t)):=by
 refine aZ cI Tryz.func173 g0 ?_
 ·skip;(repeat'(first|refine gT ?_ ?_|refine gF ?_ ?_|refine gC ?_ ?_|refine aU (by omega) ?_|(intro hr;have hc:=hr;(try simp only[zdz]at hc);simp -implicitDefEqProofs (disch:=omega) only[hr,go_sem,simprocAttr];(try clear hr))));all_goals(refine aV ?_ rfl;simp_all[E1])
theorem aVf(t:LTerm): CT 101 [elT t] (.b (E1 t)):=by
 refine aZ cI Tryz.func101 g0 ?_
 ·skip;(repeat'(first|refine gT ?_ ?_|refine gF ?_ ?_|refine gC ?_ ?_|refine aU (by omega) ?_|(intro hr;have hc:=hr;(try simp only[zdz]at hc);simp -implicitDefEqProofs (disch:=omega) only[hr,go_sem,simprocAttr];(try clear hr))));all_goals(refine aV ?_ rfl;simp_all[E1])
def rX(n:Int):Bool:=decide (-2147483647≤n)&&decide (n≤2147483647)
theorem bGb(n:Int): CT 239 [.i .i64 n] (.b (rX n)):=by
 refine aZ cI Tryz.func239 g0 ?_
 ·skip;(repeat'(first|refine gT ?_ ?_|refine gF ?_ ?_|refine gC ?_ ?_|refine aU (by omega) ?_|(intro hr;have hc:=hr;(try simp only[zdz]at hc);simp -implicitDefEqProofs (disch:=omega) only[hr,go_sem,simprocAttr];(try clear hr))));all_goals(refine aV ?_ rfl;simp_all[rX]<;>omega)
def sG(a b:Int):Int:=if a<b then -1 else if b<a then 1 else 0
theorem K7{a b:Str}(h1:¬a<b)(h2:¬a=b):b<a:=by
 rcases List.le_iff_lt_or_eq.1 (List.not_lt.1 h1)with h|h
 ·exact h
 ·exact absurd h.symm h2
def rE(a b:Str):Int:=if a<b then -1 else if b<a then 1 else 0
theorem aAd{a b:Str}(h:a<b):rE a b = -1:=if_pos h
theorem aAe{a b:Str}(h1:¬a<b)(h2:¬a=b):rE a b=1:=by rw[rE,if_neg h1,if_pos (K7 h1 h2)]
theorem aAf{a b:Str}(h:a=b):rE a b=0:=by subst h;have:¬a<a:=O4 a;simp only[rE,if_neg this]
theorem aVb(a b:Int): CT 227 [.i .i64 a,.i .i64 b] (.i .i64 (sG a b)):=by
 refine aZ cI Tryz.func227 g0 ?_
 ·skip;(repeat'(first|refine gT ?_ ?_|refine gF ?_ ?_|refine gC ?_ ?_|refine aU (by omega) ?_|(intro hr;have hc:=hr;(try simp only[zdz]at hc);simp -implicitDefEqProofs (disch:=omega) only[hr,go_sem,simprocAttr];(try clear hr))));all_goals(refine aV ?_ rfl;congr 1;unfold sG;(repeat' split)<;>omega)
theorem bFx(a:Int): CT 259 [.i .i64 a] (.b false):=by
 refine aZ cI Tryz.func259 g0 ?_
 ·skip;(repeat'(first|refine gT ?_ ?_|refine gF ?_ ?_|refine gC ?_ ?_|refine aU (by omega) ?_|(intro hr;have hc:=hr;(try simp only[zdz]at hc);simp -implicitDefEqProofs (disch:=omega) only[hr,go_sem,simprocAttr];(try clear hr))));all_goals(refine aV ?_ rfl;simp_all)
theorem bFy(a:Int): CT 258 [.i .i64 a] (.b false):=by
 refine aZ cI Tryz.func258 g0 ?_
 ·skip;(repeat'(first|refine gT ?_ ?_|refine gF ?_ ?_|refine gC ?_ ?_|refine aU (by omega) ?_|(intro hr;have hc:=hr;(try simp only[zdz]at hc);simp -implicitDefEqProofs (disch:=omega) only[hr,go_sem,simprocAttr];(try clear hr))));all_goals(refine aV ?_ rfl;simp_all)
theorem bGj(a:Str): CT 248 [.s a] (.b false):=by
 refine aZ cI Tryz.func248 g0 ?_
 ·skip;(repeat'(first|refine gT ?_ ?_|refine gF ?_ ?_|refine gC ?_ ?_|refine aU (by omega) ?_|(intro hr;have hc:=hr;(try simp only[zdz]at hc);simp -implicitDefEqProofs (disch:=omega) only[hr,go_sem,simprocAttr];(try clear hr))));all_goals(refine aV ?_ rfl;simp_all)
theorem bSw(a b:Int): CT 223 [.i .i64 a,.i .i64 b] (.i .i64 (sG a b)):=by
 refine aZ cI Tryz.func223 g0 ?_
 ·skip;(repeat'(first|refine gT ?_ ?_|refine gF ?_ ?_|refine gC ?_ ?_|((first|(refine bM (bFx a) ?_ ?_;(focus(simp -implicitDefEqProofs (disch:=omega) only[zdB,go_sem,simprocAttr];done)))|(refine bM (bFx b) ?_ ?_;(focus(simp -implicitDefEqProofs (disch:=omega) only[zdB,go_sem,simprocAttr];done))));simp -implicitDefEqProofs (disch:=omega) only[go_sem,simprocAttr])|refine aU (by omega) ?_|(intro hr;have hc:=hr;(try simp only[zdz]at hc);simp -implicitDefEqProofs (disch:=omega) only[hr,go_sem,simprocAttr];(try clear hr))));all_goals(refine aV ?_ rfl;congr 1;unfold sG;(repeat' split)<;>omega)
theorem bSx(a b:Int): CT 222 [.i .i64 a,.i .i64 b] (.i .i64 (sG a b)):=by
 refine aZ cI Tryz.func222 g0 ?_
 ·skip;(repeat'(first|refine gT ?_ ?_|refine gF ?_ ?_|refine gC ?_ ?_|((first|(refine bM (bFy a) ?_ ?_;(focus(simp -implicitDefEqProofs (disch:=omega) only[zdB,go_sem,simprocAttr];done)))|(refine bM (bFy b) ?_ ?_;(focus(simp -implicitDefEqProofs (disch:=omega) only[zdB,go_sem,simprocAttr];done))));simp -implicitDefEqProofs (disch:=omega) only[go_sem,simprocAttr])|refine aU (by omega) ?_|(intro hr;have hc:=hr;(try simp only[zdz]at hc);simp -implicitDefEqProofs (disch:=omega) only[hr,go_sem,simprocAttr];(try clear hr))));all_goals(refine aV ?_ rfl;congr 1;unfold sG;(repeat' split)<;>omega)
theorem bGa(a b:Str): CT 228 [.s a,.s b] (.i .i64 (rE a b)):=by
 refine aZ cI Tryz.func228 g0 ?_
 ·skip;(repeat'(first|refine gT ?_ ?_|refine gF ?_ ?_|refine gC ?_ ?_|refine aU (by omega) ?_|(intro hr;have hc:=hr;(try simp only[zdz]at hc);simp -implicitDefEqProofs (disch:=omega) only[hr,go_sem,simprocAttr];(try clear hr))));all_goals(refine aV ?_ rfl;congr 1;simp only[bytesLess_eq,decide_eq_true_eq,decide_eq_false_iff_not,cV]at *;first|exact aAd (by assumption)|exact aAe (by assumption) (by assumption)|exact aAf (by assumption))
theorem aVc(a b:Str): CT 199 [.s a,.s b] (.i .i64 (rE a b)):=by
 refine aZ cI Tryz.func199 g0 ?_
 ·skip;(repeat'(first|refine gT ?_ ?_|refine gF ?_ ?_|refine gC ?_ ?_|((first|(refine bM (bGj a) ?_ ?_;(focus(simp -implicitDefEqProofs (disch:=omega) only[zdB,go_sem,simprocAttr];done)))|(refine bM (bGj b) ?_ ?_;(focus(simp -implicitDefEqProofs (disch:=omega) only[zdB,go_sem,simprocAttr];done))));simp -implicitDefEqProofs (disch:=omega) only[go_sem,simprocAttr])|refine aU (by omega) ?_|(intro hr;have hc:=hr;(try simp only[zdz]at hc);simp -implicitDefEqProofs (disch:=omega) only[hr,go_sem,simprocAttr];(try clear hr))));all_goals(refine aV ?_ rfl;congr 1;simp only[bytesLess_eq,decide_eq_true_eq,decide_eq_false_iff_not,cV]at *;first|exact aAd (by assumption)|exact aAe (by assumption) (by assumption)|exact aAf (by assumption))
def orI:List Int→Int
 | []=>0
 |a::l=>if a=0 then orI l else a
theorem aDe{l:List Int}{k:Nat}(hz:∀j,j<k→l.getD j 0=0):orI l=orI (l.drop k):=by
 induction k generalizing l with
 |zero=>rfl
 |succ k ih=>
  cases l with
  |nil=>simp[orI]
  |cons a l=>
   have h0:a=0:=hz 0 (by omega);rw[aQ,← ih (fun j hj=>by have:=hz (j+1) (by omega);simpa using this),orI,if_pos h0]
theorem bGc(l:List Int)(hl:l.length≤17592186044416): CT 221 [avi l] (.i .i64 (orI l)):=by
 refine cW cI Tryz.func221 g0 ?_
 ·simp -implicitDefEqProofs (disch:=omega) only[Tryz.f221,go_sem,List.replicate,simprocAttr,avi];refine cO (fun(k:Nat)=>(.k::.k::.j::.k::.k::.j::.k::.k::.v (.i .i64 k)::(rp 8 .j [.k]))) (fun k=>[]) (fun k=>k≤l.length∧∀j,j<k→l.getD j 0=0) (fun k=>l.length-k) (0) ⟨aR _,fun j h=>by omega⟩ rfl (by simp[fO]) ?_;rintro k j ⟨hk,ha⟩;simp -implicitDefEqProofs (disch:=omega) only[go_sem,simprocAttr];(repeat'(first|refine gT ?_ ?_|refine gF ?_ ?_|refine gC ?_ ?_|refine aU (by omega) ?_|(intro hr;have hc:=hr;(try simp only[zdz]at hc);simp -implicitDefEqProofs (disch:=omega) only[hr,go_sem,simprocAttr];(try clear hr))))
  ·refine aV ?_ rfl;have hlt:k<l.length:=by omega
   rw[aDe ha,dL hlt,orI,if_neg (by simpa[List.getD,hlt]using hc)];simp[List.getD,hlt]
  ·exact⟨k+1,⟨by omega,cR ha (by simpa using hc)⟩,by omega,by simp⟩
  ·refine aV ?_ rfl;rw[aDe ha,cQ (by omega)];rfl
theorem aDi{s:Str}(h:eK s=true):0<s.length:=by
 cases s with
 |nil=>revert h;decide
 |cons a l=>simp
def bHj:Str:=[116,114,117,101]
def aUi:Str:=[102,97,108,115,101]
def bEx(s:Str):Bool:=eK s&&decide (97≤((s.getD 0 0).toNat:Int))&&decide (((s.getD 0 0).toNat:Int)≤122) && !decide (s=bHj) && !decide (s=aUi)
theorem bSt(s:Str)(hs:s.length≤140737488355328): CT 241 [.s s] (.b (bEx s)):=by
 refine aZ cI Tryz.func241 g0 ?_
 ·skip;have c:=P9 s hs;cases h:eK s with
  |false=>
   rw[h]at c;(repeat'(first|refine gT ?_ ?_|refine gF ?_ ?_|refine gC ?_ ?_|((refine bM (c) ?_ ?_;(focus(simp -implicitDefEqProofs (disch:=omega) only[zdB,go_sem,simprocAttr];done)));simp -implicitDefEqProofs (disch:=omega) only[go_sem,simprocAttr])|refine aU (by omega) ?_|(intro hr;have hc:=hr;(try simp only[zdz]at hc);simp -implicitDefEqProofs (disch:=omega) only[hr,go_sem,simprocAttr];(try clear hr))));all_goals exact aV (by simp[bEx,h]) rfl
  |true=>
   rw[h]at c;have hpos:=aDi h;(repeat'(first|refine gT ?_ ?_|refine gF ?_ ?_|refine gC ?_ ?_|((refine bM (c) ?_ ?_;(focus(simp -implicitDefEqProofs (disch:=omega) only[zdB,go_sem,simprocAttr];done)));simp -implicitDefEqProofs (disch:=omega) only[go_sem,simprocAttr])|refine aU (by omega) ?_|(intro hr;have hc:=hr;(try simp only[zdz]at hc);simp -implicitDefEqProofs (disch:=omega) only[hr,go_sem,simprocAttr];(try clear hr))));all_goals refine aV ?_ rfl
   all_goals(simp_all[bEx,bHj,aUi,decide_not]<;>(first|omega|(intros;omega)|exact decide_eq_decide.2 Iff.rfl))
theorem bSq(s:Str)(hs:s.length≤140737488355328): CT 246 [.s s] (.b (bEx s)):=by
 refine aZ cI Tryz.func246 g0 ?_
 ·skip;have c:=P8 s hs;cases h:eK s with
  |false=>
   rw[h]at c;(repeat'(first|refine gT ?_ ?_|refine gF ?_ ?_|refine gC ?_ ?_|((refine bM (c) ?_ ?_;(focus(simp -implicitDefEqProofs (disch:=omega) only[zdB,go_sem,simprocAttr];done)));simp -implicitDefEqProofs (disch:=omega) only[go_sem,simprocAttr])|refine aU (by omega) ?_|(intro hr;have hc:=hr;(try simp only[zdz]at hc);simp -implicitDefEqProofs (disch:=omega) only[hr,go_sem,simprocAttr];(try clear hr))));all_goals exact aV (by simp[bEx,h]) rfl
  |true=>
   rw[h]at c;have hpos:=aDi h;(repeat'(first|refine gT ?_ ?_|refine gF ?_ ?_|refine gC ?_ ?_|((refine bM (c) ?_ ?_;(focus(simp -implicitDefEqProofs (disch:=omega) only[zdB,go_sem,simprocAttr];done)));simp -implicitDefEqProofs (disch:=omega) only[go_sem,simprocAttr])|refine aU (by omega) ?_|(intro hr;have hc:=hr;(try simp only[zdz]at hc);simp -implicitDefEqProofs (disch:=omega) only[hr,go_sem,simprocAttr];(try clear hr))));all_goals refine aV ?_ rfl
   all_goals(simp_all[bEx,bHj,aUi,decide_not]<;>(first|omega|(intros;omega)|exact decide_eq_decide.2 Iff.rfl))
theorem M8{n:Nat}:((n:Int)=0)↔n=0:=by omega
theorem M9{n:Nat}:((n:Int)=1)↔n=1:=by omega
theorem sI{n:Nat}:((n:Int)≤8)↔n≤8:=by omega
def sQ(c:UInt8):Bool:=decide (32≤(c.toNat:Int))&&decide ((c.toNat:Int)≤126)&&decide ((c.toNat:Int)≠34)&&decide ((c.toNat:Int)≠92)
def C0(s:Str):Bool:=s.all sQ&&decide (s.length≤200)
theorem bAz{α:Type}{l:List α}{k:Nat}{d:α}(h:k<l.length):l[k]? = some (l.getD k d):=by simp[List.getD,h]
theorem bKr{α:Type}{l:List α}{k:Nat}{d x:α}(h:l[k]? = some x):l.getD k d=x:=by simp[List.getD,h]
theorem aGa{s:Str}{k:Nat}{c:UInt8}(h:s[k]? = some c)(hc:sQ c=false):C0 s=false:=by
 have:s.all sQ=false:=by
  rw[Q3];exact⟨c,dN h,by simp[hc]⟩
 simp[C0,this]
theorem aIs{s:Str}(h:∀j,j<s.length→sQ (s.getD j 0)=true):C0 s=decide (s.length≤200):=by
 have:s.all sQ=true:=mG (d:=0) h;simp[C0,this]
theorem bSr(s:Str)(hs:s.length≤140737488355328): CT 245 [.s s] (.b (C0 s)):=by
 refine aZ cI Tryz.func245 g0 ?_
 ·skip;refine cO (fun(k:Nat)=>(.k::.k::.j::.j::.k::.k::.v (.i .i64 k)::(rp 25 .j [.k,.k,.k]))) (fun k=>[]) (fun k=>k≤s.length∧∀j,j<k→sQ (s.getD j 0)=true) (fun k=>s.length-k) (0) ⟨aR _,fun j h=>by omega⟩ rfl (by simp[fO]) ?_;rintro k j ⟨hk,ha⟩;refine zg ?_;(refine zs0 ?_;repeat' first|exact trivial|refine zJ ?_ ?_|refine zH fun hc=>?_);all_goals first
   |(refine aV ?_ rfl;rw[aGa (k:=k) (bAz (d:=0) (by omega)) (by simp only[sQ,nS,decide_eq_false_iff_not,ne_eq];omega)];done)
   |exact⟨k+1,⟨by omega,cR ha (by simp only[sQ,aB,decide_eq_true_eq,ne_eq];omega)⟩,by omega,by simp⟩
   |(refine aV ?_ rfl;rw[aIs (fun j hj=>ha j (by omega))];exact congrArg AV.b (decide_eq_decide.2 (by omega)))
theorem bTb(s:Str)(hs:s.length≤140737488355328): CT 240 [.s s] (.b (C0 s)):=by
 refine aZ cI Tryz.func240 g0 ?_
 ·skip;refine cO (fun(k:Nat)=>(.k::.k::.j::.k::.j::.k::.k::(rp 17 .j [.k,.k,.k]))) (fun k=>[.sit s k]) (fun k=>k≤s.length∧∀j,j<k→sQ (s.getD j 0)=true) (fun k=>s.length-k) (0) ⟨aR _,fun j h=>by omega⟩ rfl (by simp[fO]) ?_;rintro k j ⟨hk,ha⟩;refine zg ?_;refine aGz rfl ?_ ?_ ?_
  ·intro hle;refine zg ?_;refine aV ?_ rfl;rw[aIs (fun j hj=>ha j (by omega))];exact congrArg AV.b (decide_eq_decide.2 (by omega))
  ·intro c hc hlt;have hcg:=bKr (d:=0) hc;have hk2:=bH hc;have hc0:=hc;refine zg ?_;(refine zs0 ?_;repeat' first|exact trivial|refine zJ ?_ ?_|refine zH fun hc=>?_);all_goals first
    |(refine aV ?_ rfl;rw[aGa hc0 (by simp only[sQ,nS,decide_eq_false_iff_not,ne_eq];omega)];done)
    |exact⟨k+1,⟨by omega,cR ha (by rw[hcg];simp only[sQ,aB,decide_eq_true_eq,ne_eq];omega)⟩,by omega,by simp⟩
  ·intro c rn m hc h1 h2 h3 h4;have hc0:=hc;refine zg ?_;(refine zs0 ?_;repeat' first|exact trivial|refine zJ ?_ ?_|refine zH fun hc=>?_);all_goals first
    |(exfalso;omega)
    |(refine aV ?_ rfl;rw[aGa hc0 (by simp only[sQ,nS,decide_eq_false_iff_not,ne_eq];omega)];done)
def fX(t:LTerm)(n te so ki re:Bool):Bool:=(n||decide (t.n=0))&&(te||decide (t.text=[]))&&(so||decide (t.sort=[]))&&(ki||decide (t.kids=[]))&&(re||decide (t.rest=[]))
theorem bLx(t:LTerm): CT 244 [elT t,.b true,.b false,.b false,.b false,.b false] (.b (fX t true false false false false)):=by
 refine aZ cI Tryz.func244 g0 ?_
 ·skip;(refine zs0 ?_;repeat' first|exact trivial|refine zJ ?_ ?_|refine zH fun hc=>?_);all_goals(refine aV ?_ rfl;simp_all[fX])
theorem bLw(t:LTerm): CT 244 [elT t,.b false,.b true,.b false,.b false,.b false] (.b (fX t false true false false false)):=by
 refine aZ cI Tryz.func244 g0 ?_
 ·skip;(refine zs0 ?_;repeat' first|exact trivial|refine zJ ?_ ?_|refine zH fun hc=>?_);all_goals(refine aV ?_ rfl;simp_all[fX])
theorem bLv(t:LTerm): CT 244 [elT t,.b false,.b true,.b false,.b true,.b false] (.b (fX t false true false true false)):=by
 refine aZ cI Tryz.func244 g0 ?_
 ·skip;(refine zs0 ?_;repeat' first|exact trivial|refine zJ ?_ ?_|refine zH fun hc=>?_);all_goals(refine aV ?_ rfl;simp_all[fX])
theorem aVa(t:LTerm): CT 244 [elT t,.b false,.b true,.b true,.b false,.b false] (.b (fX t false true true false false)):=by
 refine aZ cI Tryz.func244 g0 ?_
 ·skip;(refine zs0 ?_;repeat' first|exact trivial|refine zJ ?_ ?_|refine zH fun hc=>?_);all_goals(refine aV ?_ rfl;simp_all[fX])
theorem bLu(t:LTerm): CT 244 [elT t,.b false,.b false,.b false,.b true,.b true] (.b (fX t false false false true true)):=by
 refine aZ cI Tryz.func244 g0 ?_
 ·skip;(refine zs0 ?_;repeat' first|exact trivial|refine zJ ?_ ?_|refine zH fun hc=>?_);all_goals(refine aV ?_ rfl;simp_all[fX])
def qA(t:LTerm)(so:Str):Bool:=decide (t.rest.length=0)||(decide (t.rest.length=1)&&decide ((t.rest.getD 0 default).kind=6)&&eK (t.rest.getD 0 default).text&&decide ((t.rest.getD 0 default).sort=so)&&fX (t.rest.getD 0 default) false true true false false)
theorem bFw(t:LTerm)(so:Str)(ht:OkT t): CT 247 [elT t,.s so] (.b (qA t so)):=by
 refine aZ cI Tryz.func247 g0 ?_
 ·skip;have h1:0<t.rest.length→OkT (t.rest.getD 0 default):=fun h=>ht.rst _ (cC h);(repeat'(first|refine gT ?_ ?_|refine gF ?_ ?_|refine gC ?_ ?_|((first|refine cF (P8 (t.rest.getD 0 default).text (h1 (by omega)).text) ?_|refine cF (aVa (t.rest.getD 0 default)) ?_);simp -implicitDefEqProofs (disch:=omega) only[go_sem,simprocAttr])|refine aU (by omega) ?_|(intro hr;have hc:=hr;(try simp only[zdz]at hc);simp -implicitDefEqProofs (disch:=omega) only[hr,go_sem,simprocAttr];(try clear hr))));all_goals simp only[M8,M9]at *
  all_goals(refine aV ?_ rfl;simp_all only[qA,decide_true,decide_false,aX,cV,Bool.true_and,Bool.false_and,Bool.and_false,Bool.and_true,Nat.one_ne_zero])
def aJq(s:Str):Bool:=eK (zU s)
theorem bSs(s:Str)(hs:s.length≤140737488355328): CT 242 [.s s] (.b (aJq s)):=by
 refine aZ cI Tryz.func242 g0 ?_
 ·skip;(repeat'(first|refine gT ?_ ?_|refine gF ?_ ?_|refine gC ?_ ?_|(refine cF (bGn s hs) ?_;simp -implicitDefEqProofs (disch:=omega) only[go_sem,simprocAttr])|(refine aOn (P9 _ (hZ (aAp s) hs)) ?_;simp -implicitDefEqProofs (disch:=omega) only[go_sem,simprocAttr])|refine aU (by omega) ?_|(intro hr;have hc:=hr;(try simp only[zdz]at hc);simp -implicitDefEqProofs (disch:=omega) only[hr,go_sem,simprocAttr];(try clear hr))));refine aV ?_ (by rfl);rfl
theorem sH{n:Nat}:((n:Int).tmod 2=0)↔n % 2=0:=by
 rw[Int.tmod_eq_emod_of_nonneg (Int.natCast_nonneg n)];omega
def D4(s:Str):Bool:=decide (s=[95])||decide (s=[36])
abbrev tW:Str:=[76,105,115,116]
abbrev J8:Str:=[77,97,112]
abbrev bVz:Str:=[65,110,121]
def dQ(t:LTerm):Bool:=
 if t.kind=1 then rX t.n&&fX t true false false false false
 else if t.kind=2 then(decide (t.n=0)||decide (t.n=1))&&fX t true false false false false
 else if t.kind=3 then C0 t.text&&fX t false true false false false
 else if t.kind=4 then bEx t.text&&fX t false true false false false
 else if t.kind=5 then aJq t.text&&decide (t.kids.length≤8)&&fX t false true false true false
 else if t.kind=6 then(if D4 t.text=true then decide (t.sort=bVz)&&fX t false true true false false else eK t.text&&eK t.sort&&fX t false true true false false)
 else if t.kind=7 then qA t tW&&fX t false false false true true
 else if t.kind=8 then qA t J8&&decide (t.kids.length % 2=0)&&fX t false false false true true
 else false
theorem qV(t:LTerm)(h:dQ t=true):t.rest.length≤1:=by
 have z:∀{a b c d},fX t a b c d false=true→t.rest.length≤1:=by
  intro a b c d h;simp only[fX,aB,cM,decide_eq_true_eq,aE,false_or]at h;rw[h.2];simp
 have r:∀{s},qA t s=true→t.rest.length≤1:=by
  intro s h;simp only[qA,aB,cM,decide_eq_true_eq]at h;omega
 unfold dQ at h;repeat' split at h
 all_goals try simp only[aB]at h
 all_goals first|exact z h.2|exact r h.1|exact r h.1.1|cases h
theorem bSu(t:LTerm)(ht:OkT t): CT 196 [elT t] (.b (dQ t)):=by
 refine aZ cI Tryz.func196 g0 ?_
 ·skip;(repeat'(first|refine gT ?_ ?_|refine gF ?_ ?_|refine gC ?_ ?_|((first|refine cF (bSr t.text ht.text) ?_|refine cF (bSq t.text ht.text) ?_|refine cF (bGl t.text ht.text) ?_|(refine bM (P8 t.text ht.text) ?_ ?_;(focus(simp -implicitDefEqProofs (disch:=omega) only[zdB,go_sem,simprocAttr];done)))|(refine bM (P8 t.sort ht.sort) ?_ ?_;(focus(simp -implicitDefEqProofs (disch:=omega) only[zdB,go_sem,simprocAttr];done)))|(refine bM (bFw t tW ht) ?_ ?_;(focus(simp -implicitDefEqProofs (disch:=omega) only[zdB,go_sem,simprocAttr];done)))|(refine bM (bFw t J8 ht) ?_ ?_;(focus(simp -implicitDefEqProofs (disch:=omega) only[zdB,go_sem,simprocAttr];done)))|(refine bM (bLx t) ?_ ?_;(focus(simp -implicitDefEqProofs (disch:=omega) only[zdB,go_sem,simprocAttr];done)))|(refine bM (bLw t) ?_ ?_;(focus(simp -implicitDefEqProofs (disch:=omega) only[zdB,go_sem,simprocAttr];done)))|(refine bM (bLv t) ?_ ?_;(focus(simp -implicitDefEqProofs (disch:=omega) only[zdB,go_sem,simprocAttr];done)))|(refine bM (aVa t) ?_ ?_;(focus(simp -implicitDefEqProofs (disch:=omega) only[zdB,go_sem,simprocAttr];done)))|(refine bM (bLu t) ?_ ?_;(focus(simp -implicitDefEqProofs (disch:=omega) only[zdB,go_sem,simprocAttr];done))));simp -implicitDefEqProofs (disch:=omega) only[go_sem,simprocAttr])|refine aU (by omega) ?_|(intro hr;have hc:=hr;(try simp only[zdz]at hc);simp -implicitDefEqProofs (disch:=omega) only[hr,go_sem,simprocAttr];(try clear hr))));all_goals try simp only[M8,M9,sI,sH]at *
  all_goals refine aV ?_ rfl
  all_goals(simp_all[dQ,rX,D4,aJq]<;>(intros;omega))
end Go.Proofs.YtdjcggcjlphdoaaGreatDoor
