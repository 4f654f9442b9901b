/-
  What functions of the chapter return, as plain functions of what they are given; no condition beyond those that each theorem names.
-/
import Derived.Test.YtifefbhllfdmlaaGreatDoorTeP121
import Derived.Test.YtifefbhllfdmlaaGreatDoorSoP122
import Derived.Sort.Walk0
set_option maxRecDepth 100000
set_option linter.unusedSimpArgs false
set_option linter.unusedVariables false
set_option maxHeartbeats 4000000
namespace Go.Proofs.YtifefbhllfdmlaaGreatDoor
open Go Go.Vo
open Nat (reduceAdd reduceSub reduceMul reduceLeDiff reduceLT reduceEqDiff)
open Int (reduceNeg)

inductive OkT:LTerm→Prop
 | mk {t:LTerm}:t.text.length≤140737488355328→t.sort.length≤140737488355328 → -9223372036854775808≤t.n→t.n≤9223372036854775807→t.kids.length≤1466015503701→t.rest.length≤1466015503701→(∀ k ∈ t.kids,OkT k)→(∀ k ∈ t.rest,OkT k)→OkT t
section
variable {t:LTerm} (h:OkT t)
include h
theorem OkT.text:t.text.length≤140737488355328:=by cases h; assumption
theorem OkT.sort:t.sort.length≤140737488355328:=by cases h; assumption
theorem OkT.nlo : -9223372036854775808≤t.n:=by cases h; assumption
theorem OkT.nhi:t.n≤9223372036854775807:=by cases h; assumption
theorem OkT.kids:t.kids.length≤1466015503701:=by cases h; assumption
theorem OkT.rest:t.rest.length≤1466015503701:=by cases h; assumption
theorem OkT.kid:∀ k ∈ t.kids,OkT k:=by cases h; assumption
theorem OkT.rst:∀ k ∈ t.rest,OkT k:=by cases h; assumption
end
def elT (t:LTerm):AV:=.agg (aE t)
section
variable (k n:Int) (t s:Str) (ks rs:List LTerm)
theorem aZr:(LTerm.mk k n t s ks rs).kind=k:=rfl
theorem bQm:(LTerm.mk k n t s ks rs).n=n:=rfl
theorem aXj:(LTerm.mk k n t s ks rs).text=t:=rfl
theorem aXo:(LTerm.mk k n t s ks rs).sort=s:=rfl
theorem aZs:(LTerm.mk k n t s ks rs).kids=ks:=rfl
theorem aXz:(LTerm.mk k n t s ks rs).rest=rs:=rfl
end
theorem bKu:((2:Int)=0)=False:=by decide
attribute [go_sem] bKu ite_self elT aZr bQm aXj aXo aZs aXz
theorem zdB:(∀ l,avs l=.sl (l.map .s) l.length)∧(∀ l,avb l=.sl (l.flatMap dP) l.length)∧(∀ l,avi l=.sl (l.map (.i .i64)) l.length)∧(∀ l,avo l=.sl (l.flatMap dA) l.length)∧(∀ s,cB s=[avs s.sorts,avb s.below,avo s.ops,avo s.funs,avs s.values])∧(∀ o,dA o=[.s o.name,avs o.args,.s o.sort,avb o.pieces,.i .i64 o.prec,.i .i64 o.assoc,avi o.strict])∧(∀ b,dP b=[.s b.1,.s b.2])∧(∀ t,elT t=.agg (aE t))∧(∀ l,avt l=.sl (l.flatMap aE) l.length)∧(∀ t,aE t=[.i .i64 t.kind,.i .i64 t.n,.s t.text,.s t.sort,avt t.kids,avt t.rest]):=⟨fun _=>rfl,fun _=>rfl,fun _=>rfl,fun _=>rfl,fun _=>rfl,fun _=>rfl,fun _=>rfl,fun _=>rfl,fun _=>rfl,bT⟩
theorem cF {P:Program} {G:Glob} {dr:Option DR} {d:Option Nat} {os:List fI} {K:List AV→List AObj→Prop} {env:List AV} {h:List AObj} {f:FuncId} {A A':List AV} {r:AV} (s:Ctr P G f A' r)
 (k:dB P G dr os K (gJ env d (mat r (fW r h A)).1) (mat r (fW r h A)).2) (hA:A.map (fU dep h)=A':=by (simp -implicitDefEqProofs (disch:=omega) only [zdB,go_sem,↓reduceIte,reduceAdd,reduceSub,reduceMul,reduceLeDiff,reduceLT,reduceEqDiff,reduceNeg,Nat.reduceBEq]; done)):tV P G dr f A d os K env h:=bI s hA k
theorem zt1 {K1:Prop} {p q:Prop} (k1:K1) (h:q) (e:K1→Cv q p:=by
   intro k1
   repeat' first | with_reducible apply vT | with_reducible apply vF | with_reducible apply vC | ((first | ((with_reducible apply vE); (focus exact k1); (focus (simp -implicitDefEqProofs (disch:=omega) only [zdB,go_sem,simprocAttr]; done))) | ((with_reducible apply vE); (focus (apply k1 <;> omega)); (focus (simp -implicitDefEqProofs (disch:=omega) only [zdB,go_sem,simprocAttr]; done))) | ((with_reducible apply vR); focus exact k1 ..)); simp -implicitDefEqProofs (disch:=omega) only [go_sem,simprocAttr]) | ((with_reducible apply vA); focus omega) | ((with_reducible apply vI); (focus (intro hr; (try simp only [zdz] at hr); exact hr)); intro hr; have hc:=hr; (try simp only [zdz] at hc); simp -implicitDefEqProofs (disch:=omega) only [hr,go_sem,simprocAttr]; (try clear hr))
   any_goals exact vS):p:=(e k1).1 h
theorem zy1 {K1:Prop} {x:Prop} {p q:Prop} (X:x) (k1:K1) (h:q) (e:x→K1→Cv q p:=by
   intro X k1
   repeat' first | with_reducible apply vT | with_reducible apply vF | with_reducible apply vC | ((first | ((with_reducible apply vE); (focus exact k1); (focus (simp -implicitDefEqProofs (disch:=omega) only [X,zdB,go_sem,simprocAttr]; done))) | ((with_reducible apply vE); (focus (apply k1 <;> omega)); (focus (simp -implicitDefEqProofs (disch:=omega) only [X,zdB,go_sem,simprocAttr]; done))) | ((with_reducible apply vR); focus exact k1 ..)); simp -implicitDefEqProofs (disch:=omega) only [X,go_sem,simprocAttr]) | ((with_reducible apply vA); focus omega) | ((with_reducible apply vI); (focus (intro hr; (try simp only [zdz] at hr); exact hr)); intro hr; have hc:=hr; (try simp only [zdz] at hc); simp -implicitDefEqProofs (disch:=omega) only [hr,X,go_sem,simprocAttr]; (try clear hr))
   any_goals exact vS):p:=(e X k1).1 h
theorem zt2 {K1:Prop} {K2:Prop} {p q:Prop} (k1:K1) (k2:K2) (h:q) (e:K1→K2→Cv q p:=by
   intro k1 k2
   repeat' first | with_reducible apply vT | with_reducible apply vF | with_reducible apply vC | ((first | ((with_reducible apply vE); (focus exact k1); (focus (simp -implicitDefEqProofs (disch:=omega) only [zdB,go_sem,simprocAttr]; done))) | ((with_reducible apply vE); (focus (apply k1 <;> omega)); (focus (simp -implicitDefEqProofs (disch:=omega) only [zdB,go_sem,simprocAttr]; done))) | ((with_reducible apply vR); focus exact k1 ..) | ((with_reducible apply vE); (focus exact k2); (focus (simp -implicitDefEqProofs (disch:=omega) only [zdB,go_sem,simprocAttr]; done))) | ((with_reducible apply vE); (focus (apply k2 <;> omega)); (focus (simp -implicitDefEqProofs (disch:=omega) only [zdB,go_sem,simprocAttr]; done))) | ((with_reducible apply vR); focus exact k2 ..)); simp -implicitDefEqProofs (disch:=omega) only [go_sem,simprocAttr]) | ((with_reducible apply vA); focus omega) | ((with_reducible apply vI); (focus (intro hr; (try simp only [zdz] at hr); exact hr)); intro hr; have hc:=hr; (try simp only [zdz] at hc); simp -implicitDefEqProofs (disch:=omega) only [hr,go_sem,simprocAttr]; (try clear hr))
   any_goals exact vS):p:=(e k1 k2).1 h
theorem zy2 {K1:Prop} {K2:Prop} {x:Prop} {p q:Prop} (X:x) (k1:K1) (k2:K2) (h:q) (e:x→K1→K2→Cv q p:=by
   intro X k1 k2
   repeat' first | with_reducible apply vT | with_reducible apply vF | with_reducible apply vC | ((first | ((with_reducible apply vE); (focus exact k1); (focus (simp -implicitDefEqProofs (disch:=omega) only [X,zdB,go_sem,simprocAttr]; done))) | ((with_reducible apply vE); (focus (apply k1 <;> omega)); (focus (simp -implicitDefEqProofs (disch:=omega) only [X,zdB,go_sem,simprocAttr]; done))) | ((with_reducible apply vR); focus exact k1 ..) | ((with_reducible apply vE); (focus exact k2); (focus (simp -implicitDefEqProofs (disch:=omega) only [X,zdB,go_sem,simprocAttr]; done))) | ((with_reducible apply vE); (focus (apply k2 <;> omega)); (focus (simp -implicitDefEqProofs (disch:=omega) only [X,zdB,go_sem,simprocAttr]; done))) | ((with_reducible apply vR); focus exact k2 ..)); simp -implicitDefEqProofs (disch:=omega) only [X,go_sem,simprocAttr]) | ((with_reducible apply vA); focus omega) | ((with_reducible apply vI); (focus (intro hr; (try simp only [zdz] at hr); exact hr)); intro hr; have hc:=hr; (try simp only [zdz] at hc); simp -implicitDefEqProofs (disch:=omega) only [hr,X,go_sem,simprocAttr]; (try clear hr))
   any_goals exact vS):p:=(e X k1 k2).1 h
theorem zt3 {K1:Prop} {K2:Prop} {K3:Prop} {p q:Prop} (k1:K1) (k2:K2) (k3:K3) (h:q) (e:K1→K2→K3→Cv q p:=by
   intro k1 k2 k3
   repeat' first | with_reducible apply vT | with_reducible apply vF | with_reducible apply vC | ((first | ((with_reducible apply vE); (focus exact k1); (focus (simp -implicitDefEqProofs (disch:=omega) only [zdB,go_sem,simprocAttr]; done))) | ((with_reducible apply vE); (focus (apply k1 <;> omega)); (focus (simp -implicitDefEqProofs (disch:=omega) only [zdB,go_sem,simprocAttr]; done))) | ((with_reducible apply vR); focus exact k1 ..) | ((with_reducible apply vE); (focus exact k2); (focus (simp -implicitDefEqProofs (disch:=omega) only [zdB,go_sem,simprocAttr]; done))) | ((with_reducible apply vE); (focus (apply k2 <;> omega)); (focus (simp -implicitDefEqProofs (disch:=omega) only [zdB,go_sem,simprocAttr]; done))) | ((with_reducible apply vR); focus exact k2 ..) | ((with_reducible apply vE); (focus exact k3); (focus (simp -implicitDefEqProofs (disch:=omega) only [zdB,go_sem,simprocAttr]; done))) | ((with_reducible apply vE); (focus (apply k3 <;> omega)); (focus (simp -implicitDefEqProofs (disch:=omega) only [zdB,go_sem,simprocAttr]; done))) | ((with_reducible apply vR); focus exact k3 ..)); simp -implicitDefEqProofs (disch:=omega) only [go_sem,simprocAttr]) | ((with_reducible apply vA); focus omega) | ((with_reducible apply vI); (focus (intro hr; (try simp only [zdz] at hr); exact hr)); intro hr; have hc:=hr; (try simp only [zdz] at hc); simp -implicitDefEqProofs (disch:=omega) only [hr,go_sem,simprocAttr]; (try clear hr))
   any_goals exact vS):p:=(e k1 k2 k3).1 h
theorem zy3 {K1:Prop} {K2:Prop} {K3:Prop} {x:Prop} {p q:Prop} (X:x) (k1:K1) (k2:K2) (k3:K3) (h:q) (e:x→K1→K2→K3→Cv q p:=by
   intro X k1 k2 k3
   repeat' first | with_reducible apply vT | with_reducible apply vF | with_reducible apply vC | ((first | ((with_reducible apply vE); (focus exact k1); (focus (simp -implicitDefEqProofs (disch:=omega) only [X,zdB,go_sem,simprocAttr]; done))) | ((with_reducible apply vE); (focus (apply k1 <;> omega)); (focus (simp -implicitDefEqProofs (disch:=omega) only [X,zdB,go_sem,simprocAttr]; done))) | ((with_reducible apply vR); focus exact k1 ..) | ((with_reducible apply vE); (focus exact k2); (focus (simp -implicitDefEqProofs (disch:=omega) only [X,zdB,go_sem,simprocAttr]; done))) | ((with_reducible apply vE); (focus (apply k2 <;> omega)); (focus (simp -implicitDefEqProofs (disch:=omega) only [X,zdB,go_sem,simprocAttr]; done))) | ((with_reducible apply vR); focus exact k2 ..) | ((with_reducible apply vE); (focus exact k3); (focus (simp -implicitDefEqProofs (disch:=omega) only [X,zdB,go_sem,simprocAttr]; done))) | ((with_reducible apply vE); (focus (apply k3 <;> omega)); (focus (simp -implicitDefEqProofs (disch:=omega) only [X,zdB,go_sem,simprocAttr]; done))) | ((with_reducible apply vR); focus exact k3 ..)); simp -implicitDefEqProofs (disch:=omega) only [X,go_sem,simprocAttr]) | ((with_reducible apply vA); focus omega) | ((with_reducible apply vI); (focus (intro hr; (try simp only [zdz] at hr); exact hr)); intro hr; have hc:=hr; (try simp only [zdz] at hc); simp -implicitDefEqProofs (disch:=omega) only [hr,X,go_sem,simprocAttr]; (try clear hr))
   any_goals exact vS):p:=(e X k1 k2 k3).1 h
theorem zt4 {K1:Prop} {K2:Prop} {K3:Prop} {K4:Prop} {p q:Prop} (k1:K1) (k2:K2) (k3:K3) (k4:K4) (h:q) (e:K1→K2→K3→K4→Cv q p:=by
   intro k1 k2 k3 k4
   repeat' first | with_reducible apply vT | with_reducible apply vF | with_reducible apply vC | ((first | ((with_reducible apply vE); (focus exact k1); (focus (simp -implicitDefEqProofs (disch:=omega) only [zdB,go_sem,simprocAttr]; done))) | ((with_reducible apply vE); (focus (apply k1 <;> omega)); (focus (simp -implicitDefEqProofs (disch:=omega) only [zdB,go_sem,simprocAttr]; done))) | ((with_reducible apply vR); focus exact k1 ..) | ((with_reducible apply vE); (focus exact k2); (focus (simp -implicitDefEqProofs (disch:=omega) only [zdB,go_sem,simprocAttr]; done))) | ((with_reducible apply vE); (focus (apply k2 <;> omega)); (focus (simp -implicitDefEqProofs (disch:=omega) only [zdB,go_sem,simprocAttr]; done))) | ((with_reducible apply vR); focus exact k2 ..) | ((with_reducible apply vE); (focus exact k3); (focus (simp -implicitDefEqProofs (disch:=omega) only [zdB,go_sem,simprocAttr]; done))) | ((with_reducible apply vE); (focus (apply k3 <;> omega)); (focus (simp -implicitDefEqProofs (disch:=omega) only [zdB,go_sem,simprocAttr]; done))) | ((with_reducible apply vR); focus exact k3 ..) | ((with_reducible apply vE); (focus exact k4); (focus (simp -implicitDefEqProofs (disch:=omega) only [zdB,go_sem,simprocAttr]; done))) | ((with_reducible apply vE); (focus (apply k4 <;> omega)); (focus (simp -implicitDefEqProofs (disch:=omega) only [zdB,go_sem,simprocAttr]; done))) | ((with_reducible apply vR); focus exact k4 ..)); simp -implicitDefEqProofs (disch:=omega) only [go_sem,simprocAttr]) | ((with_reducible apply vA); focus omega) | ((with_reducible apply vI); (focus (intro hr; (try simp only [zdz] at hr); exact hr)); intro hr; have hc:=hr; (try simp only [zdz] at hc); simp -implicitDefEqProofs (disch:=omega) only [hr,go_sem,simprocAttr]; (try clear hr))
   any_goals exact vS):p:=(e k1 k2 k3 k4).1 h
theorem zy4 {K1:Prop} {K2:Prop} {K3:Prop} {K4:Prop} {x:Prop} {p q:Prop} (X:x) (k1:K1) (k2:K2) (k3:K3) (k4:K4) (h:q) (e:x→K1→K2→K3→K4→Cv q p:=by
   intro X k1 k2 k3 k4
   repeat' first | with_reducible apply vT | with_reducible apply vF | with_reducible apply vC | ((first | ((with_reducible apply vE); (focus exact k1); (focus (simp -implicitDefEqProofs (disch:=omega) only [X,zdB,go_sem,simprocAttr]; done))) | ((with_reducible apply vE); (focus (apply k1 <;> omega)); (focus (simp -implicitDefEqProofs (disch:=omega) only [X,zdB,go_sem,simprocAttr]; done))) | ((with_reducible apply vR); focus exact k1 ..) | ((with_reducible apply vE); (focus exact k2); (focus (simp -implicitDefEqProofs (disch:=omega) only [X,zdB,go_sem,simprocAttr]; done))) | ((with_reducible apply vE); (focus (apply k2 <;> omega)); (focus (simp -implicitDefEqProofs (disch:=omega) only [X,zdB,go_sem,simprocAttr]; done))) | ((with_reducible apply vR); focus exact k2 ..) | ((with_reducible apply vE); (focus exact k3); (focus (simp -implicitDefEqProofs (disch:=omega) only [X,zdB,go_sem,simprocAttr]; done))) | ((with_reducible apply vE); (focus (apply k3 <;> omega)); (focus (simp -implicitDefEqProofs (disch:=omega) only [X,zdB,go_sem,simprocAttr]; done))) | ((with_reducible apply vR); focus exact k3 ..) | ((with_reducible apply vE); (focus exact k4); (focus (simp -implicitDefEqProofs (disch:=omega) only [X,zdB,go_sem,simprocAttr]; done))) | ((with_reducible apply vE); (focus (apply k4 <;> omega)); (focus (simp -implicitDefEqProofs (disch:=omega) only [X,zdB,go_sem,simprocAttr]; done))) | ((with_reducible apply vR); focus exact k4 ..)); simp -implicitDefEqProofs (disch:=omega) only [X,go_sem,simprocAttr]) | ((with_reducible apply vA); focus omega) | ((with_reducible apply vI); (focus (intro hr; (try simp only [zdz] at hr); exact hr)); intro hr; have hc:=hr; (try simp only [zdz] at hc); simp -implicitDefEqProofs (disch:=omega) only [hr,X,go_sem,simprocAttr]; (try clear hr))
   any_goals exact vS):p:=(e X k1 k2 k3 k4).1 h
def Rd6 (H:List AObj) (v:AV) (l:List LTerm):Prop:=(v=.e0∧l=[])∨v=avt l∨∃ i off fz t cells,v=.hs i off l.length t∧H[i]? = some (.arr fz 6 cells)∧off+l.length * 6≤cells.length∧(cells.drop off).take (l.length * 6)=l.flatMap aE
theorem aQf {H:List AObj} {v:AV} {l:List LTerm} (h:Rd6 H v l):avt l=fU dep H v:=by
 rcases h with ⟨rfl,rfl⟩ | rfl | ⟨i,off,fz,t,cells,rfl,h1,h2,h3⟩
 · rfl
 · simp only [fS,aBx,if_true]
 · simp only [fS,pers,qX,h1,h3,iF,if_true,aH,if_false,if_pos h2]
   rfl
theorem aYb {H:List AObj} {v:AV} {l:List LTerm} (h:Rd6 H v l):kQ H v (avt l)∧cD v (avt l)=[]:=by
 have h0:=aQf h
 rcases h with ⟨rfl,rfl⟩ | rfl | ⟨i,off,fz,t,cells,rfl,h1,h2,h3⟩
 · exact ⟨h0,rfl⟩
 · exact ⟨h0,rfl⟩
 · exact ⟨h0,rfl⟩
def aAe (t:LTerm):Bool:=decide (t.kind=1) || decide (t.kind=3) || decide (t.kind=4)
theorem aMp (t:LTerm): CT 130 [elT t] (.b (aAe t)):=by
 refine aQ mixed Tryz.func130 g0 ?_
 · skip
   (repeat' (first | refine gT ?_ ?_ | refine gF ?_ ?_ | refine gC ?_ ?_ | refine bM (by omega) ?_ | (intro hr; have hc:=hr; (try simp only [zdz] at hc); simp -implicitDefEqProofs (disch:=omega) only [hr,go_sem,simprocAttr]; (try clear hr))))
   all_goals (refine aP ?_ rfl; simp_all [aAe])
def mM (n:Int):Bool:=decide (-2147483647≤n) && decide (n≤2147483647)
theorem aWi (n:Int): CT 233 [.i .i64 n] (.b (mM n)):=by
 refine aQ mixed Tryz.func233 g0 ?_
 · skip
   (repeat' (first | refine gT ?_ ?_ | refine gF ?_ ?_ | refine gC ?_ ?_ | refine bM (by omega) ?_ | (intro hr; have hc:=hr; (try simp only [zdz] at hc); simp -implicitDefEqProofs (disch:=omega) only [hr,go_sem,simprocAttr]; (try clear hr))))
   all_goals (refine aP ?_ rfl; simp_all [mM] <;> omega)
def vV (a b:Int):Int:=if a < b then -1 else if b < a then 1 else 0
theorem aLh {a b:Str} (h1:¬ a < b) (h2:¬ a=b):b < a:=by
 rcases List.le_iff_lt_or_eq.1 (List.not_lt.1 h1) with h | h
 · exact h
 · exact absurd h.symm h2
def A9 (a b:Str):Int:=if a < b then -1 else if b < a then 1 else 0
theorem bAx {a b:Str} (h:a < b):A9 a b = -1:=if_pos h
theorem bAy {a b:Str} (h1:¬ a < b) (h2:¬ a=b):A9 a b=1:=by rw [A9,if_neg h1,if_pos (aLh h1 h2)]
theorem bAz {a b:Str} (h:a=b):A9 a b=0:=by subst h; have:¬ a < a:=List.lt_irrefl a; simp only [A9,if_neg this]
theorem aWe (a:Int): CT 238 [.i .i64 a] (.b false):=by
 refine aQ mixed Tryz.func238 g0 ?_
 · skip
   (repeat' (first | refine gT ?_ ?_ | refine gF ?_ ?_ | refine gC ?_ ?_ | refine bM (by omega) ?_ | (intro hr; have hc:=hr; (try simp only [zdz] at hc); simp -implicitDefEqProofs (disch:=omega) only [hr,go_sem,simprocAttr]; (try clear hr))))
   all_goals (refine aP ?_ rfl; simp_all)
theorem aWf (a:Int): CT 237 [.i .i64 a] (.b false):=by
 refine aQ mixed Tryz.func237 g0 ?_
 · skip
   (repeat' (first | refine gT ?_ ?_ | refine gF ?_ ?_ | refine gC ?_ ?_ | refine bM (by omega) ?_ | (intro hr; have hc:=hr; (try simp only [zdz] at hc); simp -implicitDefEqProofs (disch:=omega) only [hr,go_sem,simprocAttr]; (try clear hr))))
   all_goals (refine aP ?_ rfl; simp_all)
theorem aWm (a:Str): CT 239 [.s a] (.b false):=by
 refine aQ mixed Tryz.func239 g0 ?_
 · skip
   (repeat' (first | refine gT ?_ ?_ | refine gF ?_ ?_ | refine gC ?_ ?_ | refine bM (by omega) ?_ | (intro hr; have hc:=hr; (try simp only [zdz] at hc); simp -implicitDefEqProofs (disch:=omega) only [hr,go_sem,simprocAttr]; (try clear hr))))
   all_goals (refine aP ?_ rfl; simp_all)
theorem bGj (a b:Int): CT 204 [.i .i64 a,.i .i64 b] (.i .i64 (vV a b)):=by
 refine aQ mixed Tryz.func204 g0 ?_
 · skip
   (repeat' (first | refine gT ?_ ?_ | refine gF ?_ ?_ | refine gC ?_ ?_ | ((first | (refine bI (aWe a) ?_ ?_; (focus (simp -implicitDefEqProofs (disch:=omega) only [zdB,go_sem,simprocAttr]; done))) | (refine bI (aWe b) ?_ ?_; (focus (simp -implicitDefEqProofs (disch:=omega) only [zdB,go_sem,simprocAttr]; done)))); simp -implicitDefEqProofs (disch:=omega) only [go_sem,simprocAttr]) | refine bM (by omega) ?_ | (intro hr; have hc:=hr; (try simp only [zdz] at hc); simp -implicitDefEqProofs (disch:=omega) only [hr,go_sem,simprocAttr]; (try clear hr))))
   all_goals (refine aP ?_ rfl; congr 1; unfold vV; (repeat' split) <;> omega)
theorem bGk (a b:Int): CT 203 [.i .i64 a,.i .i64 b] (.i .i64 (vV a b)):=by
 refine aQ mixed Tryz.func203 g0 ?_
 · skip
   (repeat' (first | refine gT ?_ ?_ | refine gF ?_ ?_ | refine gC ?_ ?_ | ((first | (refine bI (aWf a) ?_ ?_; (focus (simp -implicitDefEqProofs (disch:=omega) only [zdB,go_sem,simprocAttr]; done))) | (refine bI (aWf b) ?_ ?_; (focus (simp -implicitDefEqProofs (disch:=omega) only [zdB,go_sem,simprocAttr]; done)))); simp -implicitDefEqProofs (disch:=omega) only [go_sem,simprocAttr]) | refine bM (by omega) ?_ | (intro hr; have hc:=hr; (try simp only [zdz] at hc); simp -implicitDefEqProofs (disch:=omega) only [hr,go_sem,simprocAttr]; (try clear hr))))
   all_goals (refine aP ?_ rfl; congr 1; unfold vV; (repeat' split) <;> omega)
theorem aWj (a b:Str): CT 205 [.s a,.s b] (.i .i64 (A9 a b)):=by
 refine aQ mixed Tryz.func205 g0 ?_
 · skip
   (repeat' (first | refine gT ?_ ?_ | refine gF ?_ ?_ | refine gC ?_ ?_ | ((first | (refine bI (aWm a) ?_ ?_; (focus (simp -implicitDefEqProofs (disch:=omega) only [zdB,go_sem,simprocAttr]; done))) | (refine bI (aWm b) ?_ ?_; (focus (simp -implicitDefEqProofs (disch:=omega) only [zdB,go_sem,simprocAttr]; done)))); simp -implicitDefEqProofs (disch:=omega) only [go_sem,simprocAttr]) | refine bM (by omega) ?_ | (intro hr; have hc:=hr; (try simp only [zdz] at hc); simp -implicitDefEqProofs (disch:=omega) only [hr,go_sem,simprocAttr]; (try clear hr))))
   all_goals (refine aP ?_ rfl; congr 1; simp only [bytesLess_eq,decide_eq_true_eq,decide_eq_false_iff_not,dM] at *; first | exact bAx (by assumption) | exact bAy (by assumption) (by assumption) | exact bAz (by assumption))
def orI:List Int→Int
 | []=>0
 | a::l=>if a=0 then orI l else a
theorem R0 {l:List Int} {k:Nat} (hz:∀ j,j < k→l.getD j 0=0):orI l=orI (l.drop k):=by
 induction k generalizing l with
 | zero=>rfl
 | succ k ih=>
   cases l with
   | nil=>simp [orI]
   | cons a l=>
     have h0:a=0:=hz 0 (by omega)
     rw [eW,← ih (fun j hj=>by have:=hz (j+1) (by omega); simpa using this),orI,if_pos h0]
theorem aWk (l:List Int) (hl:l.length≤17592186044416): CT 202 [avi l] (.i .i64 (orI l)):=by
 refine cX mixed Tryz.func202 g0 ?_
 · simp -implicitDefEqProofs (disch:=omega) only [Tryz.f202,go_sem,List.replicate,simprocAttr,avi]
   refine dD (fun (k:Nat)=>[.k,.k,.j,.k,.k,.j,.k,.k,.v (.i .i64 k),.j,.j,.j,.j,.j,.j,.j,.j,.k]) (fun k=>[]) (fun k=>k≤l.length∧∀ j,j < k→l.getD j 0=0) (fun k=>l.length - k) (0) ⟨aT _,fun j h=>by omega⟩ rfl (by simp [iL]) ?_
   rintro k j ⟨hk,ha⟩
   simp -implicitDefEqProofs (disch:=omega) only [go_sem,simprocAttr]
   (repeat' (first | refine gT ?_ ?_ | refine gF ?_ ?_ | refine gC ?_ ?_ | refine bM (by omega) ?_ | (intro hr; have hc:=hr; (try simp only [zdz] at hc); simp -implicitDefEqProofs (disch:=omega) only [hr,go_sem,simprocAttr]; (try clear hr))))
   · refine aP ?_ rfl
     have hlt:k < l.length:=by omega
     rw [R0 ha,cP hlt,orI,if_neg (by simpa [List.getD,hlt] using hc)]
     simp [List.getD,hlt]
   · exact ⟨k+1,⟨by omega,dS ha (by simpa using hc)⟩,by omega,by simp⟩
   · refine aP ?_ rfl
     rw [R0 ha,cK (by omega)]; rfl
theorem aKq {s:Str} (h:gG s=true):0 < s.length:=by
 cases s with
 | nil=>revert h; decide
 | cons a l=>simp
def bCz:Str:=[116,114,117,101]
def aVx:Str:=[102,97,108,115,101]
def bCg (s:Str):Bool:=gG s && decide (97≤((s.getD 0 0).toNat:Int)) && decide (((s.getD 0 0).toNat:Int)≤122) && !decide (s=bCz) && !decide (s=aVx)
theorem bGh (s:Str) (hs:s.length≤140737488355328): CT 235 [.s s] (.b (bCg s)):=by
 refine aQ mixed Tryz.func235 g0 ?_
 · skip
   have c:=J2 s hs
   cases h:gG s with
   | false=>
     rw [h] at c
     (repeat' (first | refine gT ?_ ?_ | refine gF ?_ ?_ | refine gC ?_ ?_ | ((refine bI (c) ?_ ?_; (focus (simp -implicitDefEqProofs (disch:=omega) only [zdB,go_sem,simprocAttr]; done))); simp -implicitDefEqProofs (disch:=omega) only [go_sem,simprocAttr]) | refine bM (by omega) ?_ | (intro hr; have hc:=hr; (try simp only [zdz] at hc); simp -implicitDefEqProofs (disch:=omega) only [hr,go_sem,simprocAttr]; (try clear hr))))
     all_goals exact aP (by simp [bCg,h]) rfl
   | true=>
     rw [h] at c
     have hpos:=aKq h
     (repeat' (first | refine gT ?_ ?_ | refine gF ?_ ?_ | refine gC ?_ ?_ | ((refine bI (c) ?_ ?_; (focus (simp -implicitDefEqProofs (disch:=omega) only [zdB,go_sem,simprocAttr]; done))); simp -implicitDefEqProofs (disch:=omega) only [go_sem,simprocAttr]) | refine bM (by omega) ?_ | (intro hr; have hc:=hr; (try simp only [zdz] at hc); simp -implicitDefEqProofs (disch:=omega) only [hr,go_sem,simprocAttr]; (try clear hr))))
     all_goals refine aP ?_ rfl
     all_goals (simp_all [bCg,bCz,aVx,decide_not] <;> (first | omega | (intros; omega) | exact decide_eq_decide.2 Iff.rfl))

theorem J7 {n:Nat}:((n:Int)=0)↔n=0:=by omega
theorem J8 {n:Nat}:((n:Int)=1)↔n=1:=by omega
theorem qE {n:Nat}:((n:Int)≤8)↔n≤8:=by omega
def sK (c:UInt8):Bool:=decide (32≤(c.toNat:Int)) && decide ((c.toNat:Int)≤126) && decide ((c.toNat:Int) ≠ 34) && decide ((c.toNat:Int) ≠ 92)
def vM (s:Str):Bool:=s.all sK && decide (s.length≤200)
theorem bAb {α:Type} {l:List α} {k:Nat} {d x:α} (h:l[k]? = some x):l.getD k d=x:=by simp [List.getD,h]
theorem aHu {s:Str} {k:Nat} {c:UInt8} (h:s[k]? = some c) (hc:sK c=false):vM s=false:=by
 have:s.all sK=false:=by
   rw [lX]
   exact ⟨c,cT h,by simp [hc]⟩
 simp [vM,this]
theorem aPd {s:Str} (h:∀ j,j < s.length→sK (s.getD j 0)=true):vM s=decide (s.length≤200):=by
 have:s.all sK=true:=aEd (d:=0) h
 simp [vM,this]
theorem bGn (s:Str) (hs:s.length≤140737488355328): CT 234 [.s s] (.b (vM s)):=by
 refine aQ mixed Tryz.func234 g0 ?_
 · skip
   refine dD (fun (k:Nat)=>[.k,.k,.j,.k,.j,.k,.k,.j,.j,.j,.j,.j,.j,.j,.j,.j,.j,.j,.j,.j,.j,.j,.j,.j,.k,.k,.k]) (fun k=>[.sit s k]) (fun k=>k≤s.length∧∀ j,j < k→sK (s.getD j 0)=true) (fun k=>s.length - k) (0) ⟨aT _,fun j h=>by omega⟩ rfl (by simp [iL]) ?_
   rintro k j ⟨hk,ha⟩
   refine zg ?_
   refine Z1 rfl ?_ ?_ ?_
   · intro hle
     refine zg ?_
     refine aP ?_ rfl
     rw [aPd (fun j hj=>ha j (by omega))]
     exact congrArg AV.b (decide_eq_decide.2 (by omega))
   · intro c hc hlt
     have hcg:=bAb (d:=0) hc
     have hk2:=aK hc
     have hc0:=hc
     refine zg ?_
     (refine zs0 ?_; repeat' first | exact trivial | refine zJ ?_ ?_ | refine zH fun hc=>?_)
     all_goals first
       | (refine aP ?_ rfl; rw [aHu hc0 (by simp only [sK,aBf,decide_eq_false_iff_not,ne_eq]; omega)]; done)
       | exact ⟨k+1,⟨by omega,dS ha (by rw [hcg]; simp only [sK,aB,decide_eq_true_eq,ne_eq]; omega)⟩,by omega,by simp⟩
   · intro c rn m hc h1 h2 h3 h4
     have hc0:=hc
     refine zg ?_
     (refine zs0 ?_; repeat' first | exact trivial | refine zJ ?_ ?_ | refine zH fun hc=>?_)
     all_goals first
       | (exfalso; omega)
       | (refine aP ?_ rfl; rw [aHu hc0 (by simp only [sK,aBf,decide_eq_false_iff_not,ne_eq]; omega)]; done)
def gS (t:LTerm) (n te so ki re:Bool):Bool:=(n || decide (t.n=0)) && (te || decide (t.text=[])) && (so || decide (t.sort=[])) && (ki || decide (t.kids=[])) && (re || decide (t.rest=[]))
def uH (t:LTerm) (so:Str):Bool:=decide (t.rest.length=0) || (decide (t.rest.length=1) && decide ((t.rest.getD 0 default).kind=6) && gG (t.rest.getD 0 default).text && decide ((t.rest.getD 0 default).sort=so) && gS (t.rest.getD 0 default) false true true false false)

def D8 (s:Str):Bool:=gG (tX s)
theorem aWh (s:Str) (hs:s.length≤140737488355328): CT 155 [.s s] (.b (D8 s)):=by
 refine aQ mixed Tryz.func155 g0 ?_
 · skip
   (repeat' (first | refine gT ?_ ?_ | refine gF ?_ ?_ | refine gC ?_ ?_ | (refine cF (aWn s hs) ?_; simp -implicitDefEqProofs (disch:=omega) only [go_sem,simprocAttr]) | (refine aNe (J2 _ (dN (aDs s) hs)) ?_; simp -implicitDefEqProofs (disch:=omega) only [go_sem,simprocAttr]) | refine bM (by omega) ?_ | (intro hr; have hc:=hr; (try simp only [zdz] at hc); simp -implicitDefEqProofs (disch:=omega) only [hr,go_sem,simprocAttr]; (try clear hr))))
   refine aP ?_ (by rfl); rfl
theorem qD {n:Nat}:((n:Int).tmod 2=0)↔n % 2=0:=by
 rw [Int.tmod_eq_emod_of_nonneg (Int.natCast_nonneg n)]; omega
def R3 (s:Str):Bool:=decide (s=[95]) || decide (s=[36])
abbrev I2:Str:=[76,105,115,116]
abbrev aHc:Str:=[77,97,112]
abbrev aHd:Str:=[65,110,121]
def nodeB (t:LTerm):Bool:=
 if t.kind=1 then mM t.n && gS t true false false false false
 else if t.kind=2 then (decide (t.n=0) || decide (t.n=1)) && gS t true false false false false
 else if t.kind=3 then vM t.text && gS t false true false false false
 else if t.kind=4 then bCg t.text && gS t false true false false false
 else if t.kind=5 then D8 t.text && decide (t.kids.length≤8) && gS t false true false true false
 else if t.kind=6 then (if R3 t.text=true then decide (t.sort=aHd) && gS t false true true false false else gG t.text && gG t.sort && gS t false true true false false)
 else if t.kind=7 then uH t I2 && gS t false false false true true
 else if t.kind=8 then uH t aHc && decide (t.kids.length % 2=0) && gS t false false false true true
 else false
theorem uL (t:LTerm) (h:nodeB t=true):t.rest.length≤1:=by
 have z:∀ {a b c d},gS t a b c d false=true→t.rest.length≤1:=by
   intro a b c d h
   simp only [gS,aB,cL,decide_eq_true_eq,aH,false_or] at h
   rw [h.2]; simp
 have r:∀ {s},uH t s=true→t.rest.length≤1:=by
   intro s h
   simp only [uH,aB,cL,decide_eq_true_eq] at h
   omega
 unfold nodeB at h
 repeat' split at h
 all_goals try simp only [aB] at h
 all_goals first | exact z h.2 | exact r h.1 | exact r h.1.1 | cases h
end Go.Proofs.YtifefbhllfdmlaaGreatDoor
