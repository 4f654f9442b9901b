/-
  What functions of the chapter return, as plain functions of what they are given; no condition beyond those that each theorem names.
-/
import Derived.Test.YtifefbhllfdmlaaGreatDoorTeP101
import Derived.Test.YtifefbhllfdmlaaGreatDoorSoP102
import Derived.Sort.Walk0
set_option maxRecDepth 100000
set_option linter.unusedSimpArgs false
set_option linter.unusedVariables false
set_option maxHeartbeats 4000000
namespace Go.Proofs.YtifefbhllfdmlaaGreatDoor
open Go Go.Vo
open Nat (reduceAdd reduceSub reduceMul reduceLeDiff reduceLT reduceEqDiff)
open Int (reduceNeg)

inductive OkT:LTerm→Prop
 | mk {t:LTerm}:t.text.length≤140737488355328→t.sort.length≤140737488355328 → -9223372036854775808≤t.n→t.n≤9223372036854775807→t.kids.length≤1466015503701→t.rest.length≤1466015503701→(∀ k ∈ t.kids,OkT k)→(∀ k ∈ t.rest,OkT k)→OkT t
section
variable {t:LTerm} (h:OkT t)
include h
theorem OkT.text:t.text.length≤140737488355328:=by cases h; assumption
theorem OkT.sort:t.sort.length≤140737488355328:=by cases h; assumption
theorem OkT.kids:t.kids.length≤1466015503701:=by cases h; assumption
theorem OkT.rest:t.rest.length≤1466015503701:=by cases h; assumption
theorem OkT.kid:∀ k ∈ t.kids,OkT k:=by cases h; assumption
theorem OkT.rst:∀ k ∈ t.rest,OkT k:=by cases h; assumption
end
def elT (t:LTerm):AV:=.agg (aA t)
section
variable (k n:Int) (t s:Str) (ks rs:List LTerm)
theorem bEh:(LTerm.mk k n t s ks rs).kind=k:=rfl
theorem bXj:(LTerm.mk k n t s ks rs).n=n:=rfl
theorem bBu:(LTerm.mk k n t s ks rs).text=t:=rfl
theorem bCa:(LTerm.mk k n t s ks rs).sort=s:=rfl
theorem bEi:(LTerm.mk k n t s ks rs).kids=ks:=rfl
theorem bCk:(LTerm.mk k n t s ks rs).rest=rs:=rfl
end
theorem bRh:((2:Int)=0)=False:=by decide
attribute [go_sem] bRh ite_self elT bEh bXj bBu bCa bEi bCk
theorem zdB:(∀ l,avs l=.sl (l.map .s) l.length)∧(∀ l,avb l=.sl (l.flatMap aQ) l.length)∧(∀ l,avi l=.sl (l.map (.i .i64)) l.length)∧(∀ l,avo l=.sl (l.flatMap aI) l.length)∧(∀ s,bB s=[avs s.sorts,avb s.below,avo s.ops,avo s.funs,avs s.values])∧(∀ o,aI o=[.s o.name,avs o.args,.s o.sort,avb o.pieces,.i .i64 o.prec,.i .i64 o.assoc,avi o.strict])∧(∀ b,aQ b=[.s b.1,.s b.2])∧(∀ t,elT t=.agg (aA t))∧(∀ l,avt l=.sl (l.flatMap aA) l.length)∧(∀ t,aA t=[.i .i64 t.kind,.i .i64 t.n,.s t.text,.s t.sort,avt t.kids,avt t.rest]):=⟨fun _=>rfl,fun _=>rfl,fun _=>rfl,fun _=>rfl,fun _=>rfl,fun _=>rfl,fun _=>rfl,fun _=>rfl,fun _=>rfl,aW⟩
theorem cF {P:Program} {G:Glob} {dr:Option DR} {d:Option Nat} {os:List fR} {K:List AV→List AObj→Prop} {env:List AV} {h:List AObj} {f:FuncId} {A A':List AV} {r:AV} (s:Ctr P G f A' r)
 (k:dI P G dr os K (gN env d (mat r (fZ r h A)).1) (mat r (fZ r h A)).2) (hA:A.map (gB dep h)=A':=by (simp -implicitDefEqProofs (disch:=omega) only [zdB,go_sem,↓reduceIte,reduceAdd,reduceSub,reduceMul,reduceLeDiff,reduceLT,reduceEqDiff,reduceNeg,Nat.reduceBEq]; done)):tW P G dr f A d os K env h:=aY s hA k
theorem zt1 {K1:Prop} {p q:Prop} (k1:K1) (h:q) (e:K1→Cv q p:=by
   intro k1
   repeat' first | with_reducible apply vT | with_reducible apply vF | with_reducible apply vC | ((first | ((with_reducible apply vE); (focus exact k1); (focus (simp -implicitDefEqProofs (disch:=omega) only [zdB,go_sem,simprocAttr]; done))) | ((with_reducible apply vE); (focus (apply k1 <;> omega)); (focus (simp -implicitDefEqProofs (disch:=omega) only [zdB,go_sem,simprocAttr]; done))) | ((with_reducible apply vR); focus exact k1 ..)); simp -implicitDefEqProofs (disch:=omega) only [go_sem,simprocAttr]) | ((with_reducible apply vA); focus omega) | ((with_reducible apply vI); (focus (intro hr; (try simp only [zdz] at hr); exact hr)); intro hr; have hc:=hr; (try simp only [zdz] at hc); simp -implicitDefEqProofs (disch:=omega) only [hr,go_sem,simprocAttr]; (try clear hr))
   any_goals exact vS):p:=(e k1).1 h
theorem zy1 {K1:Prop} {x:Prop} {p q:Prop} (X:x) (k1:K1) (h:q) (e:x→K1→Cv q p:=by
   intro X k1
   repeat' first | with_reducible apply vT | with_reducible apply vF | with_reducible apply vC | ((first | ((with_reducible apply vE); (focus exact k1); (focus (simp -implicitDefEqProofs (disch:=omega) only [X,zdB,go_sem,simprocAttr]; done))) | ((with_reducible apply vE); (focus (apply k1 <;> omega)); (focus (simp -implicitDefEqProofs (disch:=omega) only [X,zdB,go_sem,simprocAttr]; done))) | ((with_reducible apply vR); focus exact k1 ..)); simp -implicitDefEqProofs (disch:=omega) only [X,go_sem,simprocAttr]) | ((with_reducible apply vA); focus omega) | ((with_reducible apply vI); (focus (intro hr; (try simp only [zdz] at hr); exact hr)); intro hr; have hc:=hr; (try simp only [zdz] at hc); simp -implicitDefEqProofs (disch:=omega) only [hr,X,go_sem,simprocAttr]; (try clear hr))
   any_goals exact vS):p:=(e X k1).1 h
theorem zt2 {K1:Prop} {K2:Prop} {p q:Prop} (k1:K1) (k2:K2) (h:q) (e:K1→K2→Cv q p:=by
   intro k1 k2
   repeat' first | with_reducible apply vT | with_reducible apply vF | with_reducible apply vC | ((first | ((with_reducible apply vE); (focus exact k1); (focus (simp -implicitDefEqProofs (disch:=omega) only [zdB,go_sem,simprocAttr]; done))) | ((with_reducible apply vE); (focus (apply k1 <;> omega)); (focus (simp -implicitDefEqProofs (disch:=omega) only [zdB,go_sem,simprocAttr]; done))) | ((with_reducible apply vR); focus exact k1 ..) | ((with_reducible apply vE); (focus exact k2); (focus (simp -implicitDefEqProofs (disch:=omega) only [zdB,go_sem,simprocAttr]; done))) | ((with_reducible apply vE); (focus (apply k2 <;> omega)); (focus (simp -implicitDefEqProofs (disch:=omega) only [zdB,go_sem,simprocAttr]; done))) | ((with_reducible apply vR); focus exact k2 ..)); simp -implicitDefEqProofs (disch:=omega) only [go_sem,simprocAttr]) | ((with_reducible apply vA); focus omega) | ((with_reducible apply vI); (focus (intro hr; (try simp only [zdz] at hr); exact hr)); intro hr; have hc:=hr; (try simp only [zdz] at hc); simp -implicitDefEqProofs (disch:=omega) only [hr,go_sem,simprocAttr]; (try clear hr))
   any_goals exact vS):p:=(e k1 k2).1 h
theorem zy2 {K1:Prop} {K2:Prop} {x:Prop} {p q:Prop} (X:x) (k1:K1) (k2:K2) (h:q) (e:x→K1→K2→Cv q p:=by
   intro X k1 k2
   repeat' first | with_reducible apply vT | with_reducible apply vF | with_reducible apply vC | ((first | ((with_reducible apply vE); (focus exact k1); (focus (simp -implicitDefEqProofs (disch:=omega) only [X,zdB,go_sem,simprocAttr]; done))) | ((with_reducible apply vE); (focus (apply k1 <;> omega)); (focus (simp -implicitDefEqProofs (disch:=omega) only [X,zdB,go_sem,simprocAttr]; done))) | ((with_reducible apply vR); focus exact k1 ..) | ((with_reducible apply vE); (focus exact k2); (focus (simp -implicitDefEqProofs (disch:=omega) only [X,zdB,go_sem,simprocAttr]; done))) | ((with_reducible apply vE); (focus (apply k2 <;> omega)); (focus (simp -implicitDefEqProofs (disch:=omega) only [X,zdB,go_sem,simprocAttr]; done))) | ((with_reducible apply vR); focus exact k2 ..)); simp -implicitDefEqProofs (disch:=omega) only [X,go_sem,simprocAttr]) | ((with_reducible apply vA); focus omega) | ((with_reducible apply vI); (focus (intro hr; (try simp only [zdz] at hr); exact hr)); intro hr; have hc:=hr; (try simp only [zdz] at hc); simp -implicitDefEqProofs (disch:=omega) only [hr,X,go_sem,simprocAttr]; (try clear hr))
   any_goals exact vS):p:=(e X k1 k2).1 h
theorem zt3 {K1:Prop} {K2:Prop} {K3:Prop} {p q:Prop} (k1:K1) (k2:K2) (k3:K3) (h:q) (e:K1→K2→K3→Cv q p:=by
   intro k1 k2 k3
   repeat' first | with_reducible apply vT | with_reducible apply vF | with_reducible apply vC | ((first | ((with_reducible apply vE); (focus exact k1); (focus (simp -implicitDefEqProofs (disch:=omega) only [zdB,go_sem,simprocAttr]; done))) | ((with_reducible apply vE); (focus (apply k1 <;> omega)); (focus (simp -implicitDefEqProofs (disch:=omega) only [zdB,go_sem,simprocAttr]; done))) | ((with_reducible apply vR); focus exact k1 ..) | ((with_reducible apply vE); (focus exact k2); (focus (simp -implicitDefEqProofs (disch:=omega) only [zdB,go_sem,simprocAttr]; done))) | ((with_reducible apply vE); (focus (apply k2 <;> omega)); (focus (simp -implicitDefEqProofs (disch:=omega) only [zdB,go_sem,simprocAttr]; done))) | ((with_reducible apply vR); focus exact k2 ..) | ((with_reducible apply vE); (focus exact k3); (focus (simp -implicitDefEqProofs (disch:=omega) only [zdB,go_sem,simprocAttr]; done))) | ((with_reducible apply vE); (focus (apply k3 <;> omega)); (focus (simp -implicitDefEqProofs (disch:=omega) only [zdB,go_sem,simprocAttr]; done))) | ((with_reducible apply vR); focus exact k3 ..)); simp -implicitDefEqProofs (disch:=omega) only [go_sem,simprocAttr]) | ((with_reducible apply vA); focus omega) | ((with_reducible apply vI); (focus (intro hr; (try simp only [zdz] at hr); exact hr)); intro hr; have hc:=hr; (try simp only [zdz] at hc); simp -implicitDefEqProofs (disch:=omega) only [hr,go_sem,simprocAttr]; (try clear hr))
   any_goals exact vS):p:=(e k1 k2 k3).1 h
theorem zy3 {K1:Prop} {K2:Prop} {K3:Prop} {x:Prop} {p q:Prop} (X:x) (k1:K1) (k2:K2) (k3:K3) (h:q) (e:x→K1→K2→K3→Cv q p:=by
   intro X k1 k2 k3
   repeat' first | with_reducible apply vT | with_reducible apply vF | with_reducible apply vC | ((first | ((with_reducible apply vE); (focus exact k1); (focus (simp -implicitDefEqProofs (disch:=omega) only [X,zdB,go_sem,simprocAttr]; done))) | ((with_reducible apply vE); (focus (apply k1 <;> omega)); (focus (simp -implicitDefEqProofs (disch:=omega) only [X,zdB,go_sem,simprocAttr]; done))) | ((with_reducible apply vR); focus exact k1 ..) | ((with_reducible apply vE); (focus exact k2); (focus (simp -implicitDefEqProofs (disch:=omega) only [X,zdB,go_sem,simprocAttr]; done))) | ((with_reducible apply vE); (focus (apply k2 <;> omega)); (focus (simp -implicitDefEqProofs (disch:=omega) only [X,zdB,go_sem,simprocAttr]; done))) | ((with_reducible apply vR); focus exact k2 ..) | ((with_reducible apply vE); (focus exact k3); (focus (simp -implicitDefEqProofs (disch:=omega) only [X,zdB,go_sem,simprocAttr]; done))) | ((with_reducible apply vE); (focus (apply k3 <;> omega)); (focus (simp -implicitDefEqProofs (disch:=omega) only [X,zdB,go_sem,simprocAttr]; done))) | ((with_reducible apply vR); focus exact k3 ..)); simp -implicitDefEqProofs (disch:=omega) only [X,go_sem,simprocAttr]) | ((with_reducible apply vA); focus omega) | ((with_reducible apply vI); (focus (intro hr; (try simp only [zdz] at hr); exact hr)); intro hr; have hc:=hr; (try simp only [zdz] at hc); simp -implicitDefEqProofs (disch:=omega) only [hr,X,go_sem,simprocAttr]; (try clear hr))
   any_goals exact vS):p:=(e X k1 k2 k3).1 h
theorem zt4 {K1:Prop} {K2:Prop} {K3:Prop} {K4:Prop} {p q:Prop} (k1:K1) (k2:K2) (k3:K3) (k4:K4) (h:q) (e:K1→K2→K3→K4→Cv q p:=by
   intro k1 k2 k3 k4
   repeat' first | with_reducible apply vT | with_reducible apply vF | with_reducible apply vC | ((first | ((with_reducible apply vE); (focus exact k1); (focus (simp -implicitDefEqProofs (disch:=omega) only [zdB,go_sem,simprocAttr]; done))) | ((with_reducible apply vE); (focus (apply k1 <;> omega)); (focus (simp -implicitDefEqProofs (disch:=omega) only [zdB,go_sem,simprocAttr]; done))) | ((with_reducible apply vR); focus exact k1 ..) | ((with_reducible apply vE); (focus exact k2); (focus (simp -implicitDefEqProofs (disch:=omega) only [zdB,go_sem,simprocAttr]; done))) | ((with_reducible apply vE); (focus (apply k2 <;> omega)); (focus (simp -implicitDefEqProofs (disch:=omega) only [zdB,go_sem,simprocAttr]; done))) | ((with_reducible apply vR); focus exact k2 ..) | ((with_reducible apply vE); (focus exact k3); (focus (simp -implicitDefEqProofs (disch:=omega) only [zdB,go_sem,simprocAttr]; done))) | ((with_reducible apply vE); (focus (apply k3 <;> omega)); (focus (simp -implicitDefEqProofs (disch:=omega) only [zdB,go_sem,simprocAttr]; done))) | ((with_reducible apply vR); focus exact k3 ..) | ((with_reducible apply vE); (focus exact k4); (focus (simp -implicitDefEqProofs (disch:=omega) only [zdB,go_sem,simprocAttr]; done))) | ((with_reducible apply vE); (focus (apply k4 <;> omega)); (focus (simp -implicitDefEqProofs (disch:=omega) only [zdB,go_sem,simprocAttr]; done))) | ((with_reducible apply vR); focus exact k4 ..)); simp -implicitDefEqProofs (disch:=omega) only [go_sem,simprocAttr]) | ((with_reducible apply vA); focus omega) | ((with_reducible apply vI); (focus (intro hr; (try simp only [zdz] at hr); exact hr)); intro hr; have hc:=hr; (try simp only [zdz] at hc); simp -implicitDefEqProofs (disch:=omega) only [hr,go_sem,simprocAttr]; (try clear hr))
   any_goals exact vS):p:=(e k1 k2 k3 k4).1 h
theorem zy4 {K1:Prop} {K2:Prop} {K3:Prop} {K4:Prop} {x:Prop} {p q:Prop} (X:x) (k1:K1) (k2:K2) (k3:K3) (k4:K4) (h:q) (e:x→K1→K2→K3→K4→Cv q p:=by
   intro X k1 k2 k3 k4
   repeat' first | with_reducible apply vT | with_reducible apply vF | with_reducible apply vC | ((first | ((with_reducible apply vE); (focus exact k1); (focus (simp -implicitDefEqProofs (disch:=omega) only [X,zdB,go_sem,simprocAttr]; done))) | ((with_reducible apply vE); (focus (apply k1 <;> omega)); (focus (simp -implicitDefEqProofs (disch:=omega) only [X,zdB,go_sem,simprocAttr]; done))) | ((with_reducible apply vR); focus exact k1 ..) | ((with_reducible apply vE); (focus exact k2); (focus (simp -implicitDefEqProofs (disch:=omega) only [X,zdB,go_sem,simprocAttr]; done))) | ((with_reducible apply vE); (focus (apply k2 <;> omega)); (focus (simp -implicitDefEqProofs (disch:=omega) only [X,zdB,go_sem,simprocAttr]; done))) | ((with_reducible apply vR); focus exact k2 ..) | ((with_reducible apply vE); (focus exact k3); (focus (simp -implicitDefEqProofs (disch:=omega) only [X,zdB,go_sem,simprocAttr]; done))) | ((with_reducible apply vE); (focus (apply k3 <;> omega)); (focus (simp -implicitDefEqProofs (disch:=omega) only [X,zdB,go_sem,simprocAttr]; done))) | ((with_reducible apply vR); focus exact k3 ..) | ((with_reducible apply vE); (focus exact k4); (focus (simp -implicitDefEqProofs (disch:=omega) only [X,zdB,go_sem,simprocAttr]; done))) | ((with_reducible apply vE); (focus (apply k4 <;> omega)); (focus (simp -implicitDefEqProofs (disch:=omega) only [X,zdB,go_sem,simprocAttr]; done))) | ((with_reducible apply vR); focus exact k4 ..)); simp -implicitDefEqProofs (disch:=omega) only [X,go_sem,simprocAttr]) | ((with_reducible apply vA); focus omega) | ((with_reducible apply vI); (focus (intro hr; (try simp only [zdz] at hr); exact hr)); intro hr; have hc:=hr; (try simp only [zdz] at hc); simp -implicitDefEqProofs (disch:=omega) only [hr,X,go_sem,simprocAttr]; (try clear hr))
   any_goals exact vS):p:=(e X k1 k2 k3 k4).1 h
def Rd6 (H:List AObj) (v:AV) (l:List LTerm):Prop:=(v=.e0∧l=[])∨v=avt l∨∃ i off fz t cells,v=.hs i off l.length t∧H[i]? = some (.arr fz 6 cells)∧off+l.length * 6≤cells.length∧(cells.drop off).take (l.length * 6)=l.flatMap aA
theorem aTx {H:List AObj} {v:AV} {l:List LTerm} (h:Rd6 H v l):avt l=gB dep H v:=by
 rcases h with ⟨rfl,rfl⟩ | rfl | ⟨i,off,fz,t,cells,rfl,h1,h2,h3⟩
 · rfl
 · simp only [gO,aEt,if_true]
 · simp only [gO,pers,wR,h1,h3,fE,if_true,aP,if_false,if_pos h2]
   rfl
theorem bCm {H:List AObj} {v:AV} {l:List LTerm} (h:Rd6 H v l):nR H v (avt l)∧bY v (avt l)=[]:=by
 have h0:=aTx h
 rcases h with ⟨rfl,rfl⟩ | rfl | ⟨i,off,fz,t,cells,rfl,h1,h2,h3⟩
 · exact ⟨h0,rfl⟩
 · exact ⟨h0,rfl⟩
 · exact ⟨h0,rfl⟩
def yJ (t:LTerm):Bool:=decide (t.kind=1) || decide (t.kind=3) || decide (t.kind=4)
theorem bAr (t:LTerm): CT 192 [elT t] (.b (yJ t)):=by
 refine aE mixed Tryz.func192 g0 ?_
 · skip
   (repeat' (first | refine gT ?_ ?_ | refine gF ?_ ?_ | refine gC ?_ ?_ | refine aK (by omega) ?_ | (intro hr; have hc:=hr; (try simp only [zdz] at hc); simp -implicitDefEqProofs (disch:=omega) only [hr,go_sem,simprocAttr]; (try clear hr))))
   all_goals (refine aG ?_ rfl; simp_all [yJ])
theorem aQn (t:LTerm): CT 130 [elT t] (.b (yJ t)):=by
 refine aE mixed Tryz.func130 g0 ?_
 · skip
   (repeat' (first | refine gT ?_ ?_ | refine gF ?_ ?_ | refine gC ?_ ?_ | refine aK (by omega) ?_ | (intro hr; have hc:=hr; (try simp only [zdz] at hc); simp -implicitDefEqProofs (disch:=omega) only [hr,go_sem,simprocAttr]; (try clear hr))))
   all_goals (refine aG ?_ rfl; simp_all [yJ])
def nE (n:Int):Bool:=decide (-2147483647≤n) && decide (n≤2147483647)
theorem bAl (n:Int): CT 233 [.i .i64 n] (.b (nE n)):=by
 refine aE mixed Tryz.func233 g0 ?_
 · skip
   (repeat' (first | refine gT ?_ ?_ | refine gF ?_ ?_ | refine gC ?_ ?_ | refine aK (by omega) ?_ | (intro hr; have hc:=hr; (try simp only [zdz] at hc); simp -implicitDefEqProofs (disch:=omega) only [hr,go_sem,simprocAttr]; (try clear hr))))
   all_goals (refine aG ?_ rfl; simp_all [nE] <;> omega)
def qR (a b:Int):Int:=if a < b then -1 else if b < a then 1 else 0
theorem aPc {a b:Str} (h1:¬ a < b) (h2:¬ a=b):b < a:=by
 rcases List.le_iff_lt_or_eq.1 (List.not_lt.1 h1) with h | h
 · exact h
 · exact absurd h.symm h2
def rI (a b:Str):Int:=if a < b then -1 else if b < a then 1 else 0
theorem aQt {a b:Str} (h:a < b):rI a b = -1:=if_pos h
theorem aQu {a b:Str} (h1:¬ a < b) (h2:¬ a=b):rI a b=1:=by rw [rI,if_neg h1,if_pos (aPc h1 h2)]
theorem aDa {a b:Str} (h:a=b):rI a b=0:=by subst h; have:¬ a < a:=List.lt_irrefl a; simp only [rI,if_neg this]
theorem aQk (a b:Int): CT 241 [.i .i64 a,.i .i64 b] (.i .i64 (qR a b)):=by
 refine aE mixed Tryz.func241 g0 ?_
 · skip
   (repeat' (first | refine gT ?_ ?_ | refine gF ?_ ?_ | refine gC ?_ ?_ | refine aK (by omega) ?_ | (intro hr; have hc:=hr; (try simp only [zdz] at hc); simp -implicitDefEqProofs (disch:=omega) only [hr,go_sem,simprocAttr]; (try clear hr))))
   all_goals (refine aG ?_ rfl; congr 1; unfold qR; (repeat' split) <;> omega)
theorem bAg (a:Int): CT 238 [.i .i64 a] (.b false):=by
 refine aE mixed Tryz.func238 g0 ?_
 · skip
   (repeat' (first | refine gT ?_ ?_ | refine gF ?_ ?_ | refine gC ?_ ?_ | refine aK (by omega) ?_ | (intro hr; have hc:=hr; (try simp only [zdz] at hc); simp -implicitDefEqProofs (disch:=omega) only [hr,go_sem,simprocAttr]; (try clear hr))))
   all_goals (refine aG ?_ rfl; simp_all)
theorem bAh (a:Int): CT 237 [.i .i64 a] (.b false):=by
 refine aE mixed Tryz.func237 g0 ?_
 · skip
   (repeat' (first | refine gT ?_ ?_ | refine gF ?_ ?_ | refine gC ?_ ?_ | refine aK (by omega) ?_ | (intro hr; have hc:=hr; (try simp only [zdz] at hc); simp -implicitDefEqProofs (disch:=omega) only [hr,go_sem,simprocAttr]; (try clear hr))))
   all_goals (refine aG ?_ rfl; simp_all)
theorem bAs (a:Str): CT 239 [.s a] (.b false):=by
 refine aE mixed Tryz.func239 g0 ?_
 · skip
   (repeat' (first | refine gT ?_ ?_ | refine gF ?_ ?_ | refine gC ?_ ?_ | refine aK (by omega) ?_ | (intro hr; have hc:=hr; (try simp only [zdz] at hc); simp -implicitDefEqProofs (disch:=omega) only [hr,go_sem,simprocAttr]; (try clear hr))))
   all_goals (refine aG ?_ rfl; simp_all)
theorem bMe (a b:Int): CT 204 [.i .i64 a,.i .i64 b] (.i .i64 (qR a b)):=by
 refine aE mixed Tryz.func204 g0 ?_
 · skip
   (repeat' (first | refine gT ?_ ?_ | refine gF ?_ ?_ | refine gC ?_ ?_ | ((first | (refine aY (bAg a) ?_ ?_; (focus (simp -implicitDefEqProofs (disch:=omega) only [zdB,go_sem,simprocAttr]; done))) | (refine aY (bAg b) ?_ ?_; (focus (simp -implicitDefEqProofs (disch:=omega) only [zdB,go_sem,simprocAttr]; done)))); simp -implicitDefEqProofs (disch:=omega) only [go_sem,simprocAttr]) | refine aK (by omega) ?_ | (intro hr; have hc:=hr; (try simp only [zdz] at hc); simp -implicitDefEqProofs (disch:=omega) only [hr,go_sem,simprocAttr]; (try clear hr))))
   all_goals (refine aG ?_ rfl; congr 1; unfold qR; (repeat' split) <;> omega)
theorem bMf (a b:Int): CT 203 [.i .i64 a,.i .i64 b] (.i .i64 (qR a b)):=by
 refine aE mixed Tryz.func203 g0 ?_
 · skip
   (repeat' (first | refine gT ?_ ?_ | refine gF ?_ ?_ | refine gC ?_ ?_ | ((first | (refine aY (bAh a) ?_ ?_; (focus (simp -implicitDefEqProofs (disch:=omega) only [zdB,go_sem,simprocAttr]; done))) | (refine aY (bAh b) ?_ ?_; (focus (simp -implicitDefEqProofs (disch:=omega) only [zdB,go_sem,simprocAttr]; done)))); simp -implicitDefEqProofs (disch:=omega) only [go_sem,simprocAttr]) | refine aK (by omega) ?_ | (intro hr; have hc:=hr; (try simp only [zdz] at hc); simp -implicitDefEqProofs (disch:=omega) only [hr,go_sem,simprocAttr]; (try clear hr))))
   all_goals (refine aG ?_ rfl; congr 1; unfold qR; (repeat' split) <;> omega)
theorem bAk (a b:Str): CT 242 [.s a,.s b] (.i .i64 (rI a b)):=by
 refine aE mixed Tryz.func242 g0 ?_
 · skip
   (repeat' (first | refine gT ?_ ?_ | refine gF ?_ ?_ | refine gC ?_ ?_ | refine aK (by omega) ?_ | (intro hr; have hc:=hr; (try simp only [zdz] at hc); simp -implicitDefEqProofs (disch:=omega) only [hr,go_sem,simprocAttr]; (try clear hr))))
   all_goals (refine aG ?_ rfl; congr 1; simp only [bytesLess_eq,decide_eq_true_eq,decide_eq_false_iff_not,cO] at *; first | exact aQt (by assumption) | exact aQu (by assumption) (by assumption) | exact aDa (by assumption))
theorem bAm (a b:Str): CT 205 [.s a,.s b] (.i .i64 (rI a b)):=by
 refine aE mixed Tryz.func205 g0 ?_
 · skip
   (repeat' (first | refine gT ?_ ?_ | refine gF ?_ ?_ | refine gC ?_ ?_ | ((first | (refine aY (bAs a) ?_ ?_; (focus (simp -implicitDefEqProofs (disch:=omega) only [zdB,go_sem,simprocAttr]; done))) | (refine aY (bAs b) ?_ ?_; (focus (simp -implicitDefEqProofs (disch:=omega) only [zdB,go_sem,simprocAttr]; done)))); simp -implicitDefEqProofs (disch:=omega) only [go_sem,simprocAttr]) | refine aK (by omega) ?_ | (intro hr; have hc:=hr; (try simp only [zdz] at hc); simp -implicitDefEqProofs (disch:=omega) only [hr,go_sem,simprocAttr]; (try clear hr))))
   all_goals (refine aG ?_ rfl; congr 1; simp only [bytesLess_eq,decide_eq_true_eq,decide_eq_false_iff_not,cO] at *; first | exact aQt (by assumption) | exact aQu (by assumption) (by assumption) | exact aDa (by assumption))
def orI:List Int→Int
 | []=>0
 | a::l=>if a=0 then orI l else a
theorem W5 {l:List Int} {k:Nat} (hz:∀ j,j < k→l.getD j 0=0):orI l=orI (l.drop k):=by
 induction k generalizing l with
 | zero=>rfl
 | succ k ih=>
   cases l with
   | nil=>simp [orI]
   | cons a l=>
     have h0:a=0:=hz 0 (by omega)
     rw [fF,← ih (fun j hj=>by have:=hz (j+1) (by omega); simpa using this),orI,if_pos h0]
theorem bAn (l:List Int) (hl:l.length≤17592186044416): CT 202 [avi l] (.i .i64 (orI l)):=by
 refine cQ mixed Tryz.func202 g0 ?_
 · simp -implicitDefEqProofs (disch:=omega) only [Tryz.f202,go_sem,List.replicate,simprocAttr,avi]
   refine bQ (fun (k:Nat)=>[.k,.k,.j,.k,.k,.j,.k,.k,.v (.i .i64 k),.j,.j,.j,.j,.j,.j,.j,.j,.k]) (fun k=>[]) (fun k=>k≤l.length∧∀ j,j < k→l.getD j 0=0) (fun k=>l.length - k) (0) ⟨aF _,fun j h=>by omega⟩ rfl (by simp [fD]) ?_
   rintro k j ⟨hk,ha⟩
   simp -implicitDefEqProofs (disch:=omega) only [go_sem,simprocAttr]
   (repeat' (first | refine gT ?_ ?_ | refine gF ?_ ?_ | refine gC ?_ ?_ | refine aK (by omega) ?_ | (intro hr; have hc:=hr; (try simp only [zdz] at hc); simp -implicitDefEqProofs (disch:=omega) only [hr,go_sem,simprocAttr]; (try clear hr))))
   · refine aG ?_ rfl
     have hlt:k < l.length:=by omega
     rw [W5 ha,bR hlt,orI,if_neg (by simpa [List.getD,hlt] using hc)]
     simp [List.getD,hlt]
   · exact ⟨k+1,⟨by omega,bK ha (by simpa using hc)⟩,by omega,by simp⟩
   · refine aG ?_ rfl
     rw [W5 ha,bJ (by omega)]; rfl
theorem W9 {s:Str} (h:dP s=true):0 < s.length:=by
 cases s with
 | nil=>revert h; decide
 | cons a l=>simp
def bBs:Str:=[116,114,117,101]
def aPw:Str:=[102,97,108,115,101]
def aZs (s:Str):Bool:=dP s && decide (97≤((s.getD 0 0).toNat:Int)) && decide (((s.getD 0 0).toNat:Int)≤122) && !decide (s=bBs) && !decide (s=aPw)
theorem bMb (s:Str) (hs:s.length≤140737488355328): CT 235 [.s s] (.b (aZs s)):=by
 refine aE mixed Tryz.func235 g0 ?_
 · skip
   have c:=P0 s hs
   cases h:dP s with
   | false=>
     rw [h] at c
     (repeat' (first | refine gT ?_ ?_ | refine gF ?_ ?_ | refine gC ?_ ?_ | ((refine aY (c) ?_ ?_; (focus (simp -implicitDefEqProofs (disch:=omega) only [zdB,go_sem,simprocAttr]; done))); simp -implicitDefEqProofs (disch:=omega) only [go_sem,simprocAttr]) | refine aK (by omega) ?_ | (intro hr; have hc:=hr; (try simp only [zdz] at hc); simp -implicitDefEqProofs (disch:=omega) only [hr,go_sem,simprocAttr]; (try clear hr))))
     all_goals exact aG (by simp [aZs,h]) rfl
   | true=>
     rw [h] at c
     have hpos:=W9 h
     (repeat' (first | refine gT ?_ ?_ | refine gF ?_ ?_ | refine gC ?_ ?_ | ((refine aY (c) ?_ ?_; (focus (simp -implicitDefEqProofs (disch:=omega) only [zdB,go_sem,simprocAttr]; done))); simp -implicitDefEqProofs (disch:=omega) only [go_sem,simprocAttr]) | refine aK (by omega) ?_ | (intro hr; have hc:=hr; (try simp only [zdz] at hc); simp -implicitDefEqProofs (disch:=omega) only [hr,go_sem,simprocAttr]; (try clear hr))))
     all_goals refine aG ?_ rfl
     all_goals (simp_all [aZs,bBs,aPw,decide_not] <;> (first | omega | (intros; omega) | exact decide_eq_decide.2 Iff.rfl))
theorem bLz (s:Str) (hs:s.length≤140737488355328): CT 260 [.s s] (.b (aZs s)):=by
 refine aE mixed Tryz.func260 g0 ?_
 · skip
   have c:=O9 s hs
   cases h:dP s with
   | false=>
     rw [h] at c
     (repeat' (first | refine gT ?_ ?_ | refine gF ?_ ?_ | refine gC ?_ ?_ | ((refine aY (c) ?_ ?_; (focus (simp -implicitDefEqProofs (disch:=omega) only [zdB,go_sem,simprocAttr]; done))); simp -implicitDefEqProofs (disch:=omega) only [go_sem,simprocAttr]) | refine aK (by omega) ?_ | (intro hr; have hc:=hr; (try simp only [zdz] at hc); simp -implicitDefEqProofs (disch:=omega) only [hr,go_sem,simprocAttr]; (try clear hr))))
     all_goals exact aG (by simp [aZs,h]) rfl
   | true=>
     rw [h] at c
     have hpos:=W9 h
     (repeat' (first | refine gT ?_ ?_ | refine gF ?_ ?_ | refine gC ?_ ?_ | ((refine aY (c) ?_ ?_; (focus (simp -implicitDefEqProofs (disch:=omega) only [zdB,go_sem,simprocAttr]; done))); simp -implicitDefEqProofs (disch:=omega) only [go_sem,simprocAttr]) | refine aK (by omega) ?_ | (intro hr; have hc:=hr; (try simp only [zdz] at hc); simp -implicitDefEqProofs (disch:=omega) only [hr,go_sem,simprocAttr]; (try clear hr))))
     all_goals refine aG ?_ rfl
     all_goals (simp_all [aZs,bBs,aPw,decide_not] <;> (first | omega | (intros; omega) | exact decide_eq_decide.2 Iff.rfl))

theorem E1 {n:Nat}:((n:Int)=0)↔n=0:=by omega
theorem E2 {n:Nat}:((n:Int)=1)↔n=1:=by omega
theorem qT {n:Nat}:((n:Int)≤8)↔n≤8:=by omega
def rA (c:UInt8):Bool:=decide (32≤(c.toNat:Int)) && decide ((c.toNat:Int)≤126) && decide ((c.toNat:Int) ≠ 34) && decide ((c.toNat:Int) ≠ 92)
def xV (s:Str):Bool:=s.all rA && decide (s.length≤200)
theorem aVz {α:Type} {l:List α} {k:Nat} {d:α} (h:k < l.length):l[k]? = some (l.getD k d):=by simp [List.getD,h]
theorem bEr {α:Type} {l:List α} {k:Nat} {d x:α} (h:l[k]? = some x):l.getD k d=x:=by simp [List.getD,h]
theorem aBk {s:Str} {k:Nat} {c:UInt8} (h:s[k]? = some c) (hc:rA c=false):xV s=false:=by
 have:s.all rA=false:=by
   rw [H6]
   exact ⟨c,cL h,by simp [hc]⟩
 simp [xV,this]
theorem aEe {s:Str} (h:∀ j,j < s.length→rA (s.getD j 0)=true):xV s=decide (s.length≤200):=by
 have:s.all rA=true:=kK (d:=0) h
 simp [xV,this]
theorem bMa (s:Str) (hs:s.length≤140737488355328): CT 259 [.s s] (.b (xV s)):=by
 refine aE mixed Tryz.func259 g0 ?_
 · skip
   refine bQ (fun (k:Nat)=>[.k,.k,.j,.j,.k,.k,.v (.i .i64 k),.j,.j,.j,.j,.j,.j,.j,.j,.j,.j,.j,.j,.j,.j,.j,.j,.j,.j,.j,.j,.j,.j,.j,.j,.j,.k,.k,.k]) (fun k=>[]) (fun k=>k≤s.length∧∀ j,j < k→rA (s.getD j 0)=true) (fun k=>s.length - k) (0) ⟨aF _,fun j h=>by omega⟩ rfl (by simp [fD]) ?_
   rintro k j ⟨hk,ha⟩
   refine zg ?_
   (refine zs0 ?_; repeat' first | exact trivial | refine zJ ?_ ?_ | refine zH fun hc=>?_)
   all_goals first
     | (refine aG ?_ rfl; rw [aBk (k:=k) (aVz (d:=0) (by omega)) (by simp only [rA,mC,decide_eq_false_iff_not,ne_eq]; omega)]; done)
     | exact ⟨k+1,⟨by omega,bK ha (by simp only [rA,aC,decide_eq_true_eq,ne_eq]; omega)⟩,by omega,by simp⟩
     | (refine aG ?_ rfl; rw [aEe (fun j hj=>ha j (by omega))]; exact congrArg AV.b (decide_eq_decide.2 (by omega)))
theorem bMj (s:Str) (hs:s.length≤140737488355328): CT 234 [.s s] (.b (xV s)):=by
 refine aE mixed Tryz.func234 g0 ?_
 · skip
   refine bQ (fun (k:Nat)=>[.k,.k,.j,.k,.j,.k,.k,.j,.j,.j,.j,.j,.j,.j,.j,.j,.j,.j,.j,.j,.j,.j,.j,.j,.k,.k,.k]) (fun k=>[.sit s k]) (fun k=>k≤s.length∧∀ j,j < k→rA (s.getD j 0)=true) (fun k=>s.length - k) (0) ⟨aF _,fun j h=>by omega⟩ rfl (by simp [fD]) ?_
   rintro k j ⟨hk,ha⟩
   refine zg ?_
   refine aCf rfl ?_ ?_ ?_
   · intro hle
     refine zg ?_
     refine aG ?_ rfl
     rw [aEe (fun j hj=>ha j (by omega))]
     exact congrArg AV.b (decide_eq_decide.2 (by omega))
   · intro c hc hlt
     have hcg:=bEr (d:=0) hc
     have hk2:=aO hc
     have hc0:=hc
     refine zg ?_
     (refine zs0 ?_; repeat' first | exact trivial | refine zJ ?_ ?_ | refine zH fun hc=>?_)
     all_goals first
       | (refine aG ?_ rfl; rw [aBk hc0 (by simp only [rA,mC,decide_eq_false_iff_not,ne_eq]; omega)]; done)
       | exact ⟨k+1,⟨by omega,bK ha (by rw [hcg]; simp only [rA,aC,decide_eq_true_eq,ne_eq]; omega)⟩,by omega,by simp⟩
   · intro c rn m hc h1 h2 h3 h4
     have hc0:=hc
     refine zg ?_
     (refine zs0 ?_; repeat' first | exact trivial | refine zJ ?_ ?_ | refine zH fun hc=>?_)
     all_goals first
       | (exfalso; omega)
       | (refine aG ?_ rfl; rw [aBk hc0 (by simp only [rA,mC,decide_eq_false_iff_not,ne_eq]; omega)]; done)
def eY (t:LTerm) (n te so ki re:Bool):Bool:=(n || decide (t.n=0)) && (te || decide (t.text=[])) && (so || decide (t.sort=[])) && (ki || decide (t.kids=[])) && (re || decide (t.rest=[]))
theorem bFx (t:LTerm): CT 258 [elT t,.b true,.b false,.b false,.b false,.b false] (.b (eY t true false false false false)):=by
 refine aE mixed Tryz.func258 g0 ?_
 · skip
   (refine zs0 ?_; repeat' first | exact trivial | refine zJ ?_ ?_ | refine zH fun hc=>?_)
   all_goals (refine aG ?_ rfl; simp_all [eY])
theorem bFw (t:LTerm): CT 258 [elT t,.b false,.b true,.b false,.b false,.b false] (.b (eY t false true false false false)):=by
 refine aE mixed Tryz.func258 g0 ?_
 · skip
   (refine zs0 ?_; repeat' first | exact trivial | refine zJ ?_ ?_ | refine zH fun hc=>?_)
   all_goals (refine aG ?_ rfl; simp_all [eY])
theorem bFv (t:LTerm): CT 258 [elT t,.b false,.b true,.b false,.b true,.b false] (.b (eY t false true false true false)):=by
 refine aE mixed Tryz.func258 g0 ?_
 · skip
   (refine zs0 ?_; repeat' first | exact trivial | refine zJ ?_ ?_ | refine zH fun hc=>?_)
   all_goals (refine aG ?_ rfl; simp_all [eY])
theorem aQj (t:LTerm): CT 258 [elT t,.b false,.b true,.b true,.b false,.b false] (.b (eY t false true true false false)):=by
 refine aE mixed Tryz.func258 g0 ?_
 · skip
   (refine zs0 ?_; repeat' first | exact trivial | refine zJ ?_ ?_ | refine zH fun hc=>?_)
   all_goals (refine aG ?_ rfl; simp_all [eY])
theorem bFu (t:LTerm): CT 258 [elT t,.b false,.b false,.b false,.b true,.b true] (.b (eY t false false false true true)):=by
 refine aE mixed Tryz.func258 g0 ?_
 · skip
   (refine zs0 ?_; repeat' first | exact trivial | refine zJ ?_ ?_ | refine zH fun hc=>?_)
   all_goals (refine aG ?_ rfl; simp_all [eY])
def mV (t:LTerm) (so:Str):Bool:=decide (t.rest.length=0) || (decide (t.rest.length=1) && decide ((t.rest.getD 0 default).kind=6) && dP (t.rest.getD 0 default).text && decide ((t.rest.getD 0 default).sort=so) && eY (t.rest.getD 0 default) false true true false false)
theorem bAf (t:LTerm) (so:Str) (ht:OkT t): CT 261 [elT t,.s so] (.b (mV t so)):=by
 refine aE mixed Tryz.func261 g0 ?_
 · skip
   have h1:0 < t.rest.length→OkT (t.rest.getD 0 default):=fun h=>ht.rst _ (bE h)
   (repeat' (first | refine gT ?_ ?_ | refine gF ?_ ?_ | refine gC ?_ ?_ | ((first | refine cF (O9 (t.rest.getD 0 default).text (h1 (by omega)).text) ?_ | refine cF (aQj (t.rest.getD 0 default)) ?_); simp -implicitDefEqProofs (disch:=omega) only [go_sem,simprocAttr]) | refine aK (by omega) ?_ | (intro hr; have hc:=hr; (try simp only [zdz] at hc); simp -implicitDefEqProofs (disch:=omega) only [hr,go_sem,simprocAttr]; (try clear hr))))
   all_goals simp only [E1,E2] at *
   all_goals (refine aG ?_ rfl; simp_all only [mV,decide_true,decide_false,dF,cO,Bool.true_and,Bool.false_and,Bool.and_false,Bool.and_true,Nat.one_ne_zero])

def W6 (s:Str):Bool:=dP (tZ s)
theorem bAj (s:Str) (hs:s.length≤140737488355328): CT 155 [.s s] (.b (W6 s)):=by
 refine aE mixed Tryz.func155 g0 ?_
 · skip
   (repeat' (first | refine gT ?_ ?_ | refine gF ?_ ?_ | refine gC ?_ ?_ | (refine cF (bAw s hs) ?_; simp -implicitDefEqProofs (disch:=omega) only [go_sem,simprocAttr]) | (refine aJw (P0 _ (eK (P5 s) hs)) ?_; simp -implicitDefEqProofs (disch:=omega) only [go_sem,simprocAttr]) | refine aK (by omega) ?_ | (intro hr; have hc:=hr; (try simp only [zdz] at hc); simp -implicitDefEqProofs (disch:=omega) only [hr,go_sem,simprocAttr]; (try clear hr))))
   refine aG ?_ (by rfl); rfl
theorem qS {n:Nat}:((n:Int).tmod 2=0)↔n % 2=0:=by
 rw [Int.tmod_eq_emod_of_nonneg (Int.natCast_nonneg n)]; omega
def vB (s:Str):Bool:=decide (s=[95]) || decide (s=[36])
abbrev nC:Str:=[76,105,115,116]
abbrev C2:Str:=[77,97,112]
abbrev P9:Str:=[65,110,121]
def cP (t:LTerm):Bool:=
 if t.kind=1 then nE t.n && eY t true false false false false
 else if t.kind=2 then (decide (t.n=0) || decide (t.n=1)) && eY t true false false false false
 else if t.kind=3 then xV t.text && eY t false true false false false
 else if t.kind=4 then aZs t.text && eY t false true false false false
 else if t.kind=5 then W6 t.text && decide (t.kids.length≤8) && eY t false true false true false
 else if t.kind=6 then (if vB t.text=true then decide (t.sort=P9) && eY t false true true false false else dP t.text && dP t.sort && eY t false true true false false)
 else if t.kind=7 then mV t nC && eY t false false false true true
 else if t.kind=8 then mV t C2 && decide (t.kids.length % 2=0) && eY t false false false true true
 else false
theorem pJ (t:LTerm) (h:cP t=true):t.rest.length≤1:=by
 have z:∀ {a b c d},eY t a b c d false=true→t.rest.length≤1:=by
   intro a b c d h
   simp only [eY,aC,bH,decide_eq_true_eq,aP,false_or] at h
   rw [h.2]; simp
 have r:∀ {s},mV t s=true→t.rest.length≤1:=by
   intro s h
   simp only [mV,aC,bH,decide_eq_true_eq] at h
   omega
 unfold cP at h
 repeat' split at h
 all_goals try simp only [aC] at h
 all_goals first | exact z h.2 | exact r h.1 | exact r h.1.1 | cases h
theorem bMc (t:LTerm) (ht:OkT t): CT 240 [elT t] (.b (cP t)):=by
 refine aE mixed Tryz.func240 g0 ?_
 · skip
   (repeat' (first | refine gT ?_ ?_ | refine gF ?_ ?_ | refine gC ?_ ?_ | ((first | refine cF (bMa t.text ht.text) ?_ | refine cF (bLz t.text ht.text) ?_ | refine cF (bAu t.text ht.text) ?_ | (refine aY (O9 t.text ht.text) ?_ ?_; (focus (simp -implicitDefEqProofs (disch:=omega) only [zdB,go_sem,simprocAttr]; done))) | (refine aY (O9 t.sort ht.sort) ?_ ?_; (focus (simp -implicitDefEqProofs (disch:=omega) only [zdB,go_sem,simprocAttr]; done))) | (refine aY (bAf t nC ht) ?_ ?_; (focus (simp -implicitDefEqProofs (disch:=omega) only [zdB,go_sem,simprocAttr]; done))) | (refine aY (bAf t C2 ht) ?_ ?_; (focus (simp -implicitDefEqProofs (disch:=omega) only [zdB,go_sem,simprocAttr]; done))) | (refine aY (bFx t) ?_ ?_; (focus (simp -implicitDefEqProofs (disch:=omega) only [zdB,go_sem,simprocAttr]; done))) | (refine aY (bFw t) ?_ ?_; (focus (simp -implicitDefEqProofs (disch:=omega) only [zdB,go_sem,simprocAttr]; done))) | (refine aY (bFv t) ?_ ?_; (focus (simp -implicitDefEqProofs (disch:=omega) only [zdB,go_sem,simprocAttr]; done))) | (refine aY (aQj t) ?_ ?_; (focus (simp -implicitDefEqProofs (disch:=omega) only [zdB,go_sem,simprocAttr]; done))) | (refine aY (bFu t) ?_ ?_; (focus (simp -implicitDefEqProofs (disch:=omega) only [zdB,go_sem,simprocAttr]; done)))); simp -implicitDefEqProofs (disch:=omega) only [go_sem,simprocAttr]) | refine aK (by omega) ?_ | (intro hr; have hc:=hr; (try simp only [zdz] at hc); simp -implicitDefEqProofs (disch:=omega) only [hr,go_sem,simprocAttr]; (try clear hr))))
   all_goals try simp only [E1,E2,qT,qS] at *
   all_goals refine aG ?_ rfl
   all_goals (simp_all [cP,nE,vB,W6] <;> (intros; omega))
end Go.Proofs.YtifefbhllfdmlaaGreatDoor
