/-
  What functions of the chapter return, as plain functions of what they are given; no condition beyond those that each theorem names.
-/
import Derived.Test.YtifefbhllfdmlaaGreatDoorTeP81
import Derived.Test.YtifefbhllfdmlaaGreatDoorSoP82
import Derived.Sort.Walk0
set_option maxRecDepth 100000
set_option linter.unusedSimpArgs false
set_option linter.unusedVariables false
set_option maxHeartbeats 4000000
namespace Go.Proofs.YtifefbhllfdmlaaGreatDoor
open Go Go.Vo
open Nat (reduceAdd reduceSub reduceMul reduceLeDiff reduceLT reduceEqDiff)
open Int (reduceNeg)

inductive OkT:LTerm→Prop
 | mk {t:LTerm}:t.text.length≤140737488355328→t.sort.length≤140737488355328 → -9223372036854775808≤t.n→t.n≤9223372036854775807→t.kids.length≤1466015503701→t.rest.length≤1466015503701→(∀ k ∈ t.kids,OkT k)→(∀ k ∈ t.rest,OkT k)→OkT t
section
variable {t:LTerm} (h:OkT t)
include h
theorem OkT.text:t.text.length≤140737488355328:=by cases h; assumption
theorem OkT.sort:t.sort.length≤140737488355328:=by cases h; assumption
theorem OkT.nlo : -9223372036854775808≤t.n:=by cases h; assumption
theorem OkT.nhi:t.n≤9223372036854775807:=by cases h; assumption
theorem OkT.kids:t.kids.length≤1466015503701:=by cases h; assumption
theorem OkT.rest:t.rest.length≤1466015503701:=by cases h; assumption
theorem OkT.kid:∀ k ∈ t.kids,OkT k:=by cases h; assumption
theorem OkT.rst:∀ k ∈ t.rest,OkT k:=by cases h; assumption
end
abbrev tZ:LTerm:=.mk 0 0 [] [] [] []
def elT (t:LTerm):AV:=.agg (aC t)
def bKm (t:LTerm) (e:Int):AV:=.tup [.agg (aC t),.i .i64 e]
section
variable (k n:Int) (t s:Str) (ks rs:List LTerm)
theorem bHq:(LTerm.mk k n t s ks rs).kind=k:=rfl
theorem cAq:(LTerm.mk k n t s ks rs).n=n:=rfl
theorem bFf:(LTerm.mk k n t s ks rs).text=t:=rfl
theorem bFm:(LTerm.mk k n t s ks rs).sort=s:=rfl
theorem bHr:(LTerm.mk k n t s ks rs).kids=ks:=rfl
theorem bFw:(LTerm.mk k n t s ks rs).rest=rs:=rfl
end
theorem bUq:((2:Int)=0)=False:=by decide
attribute [go_sem] bUq ite_self elT bKm bHq cAq bFf bFm bHr bFw
theorem zdB:(∀ l,avs l=.sl (l.map .s) l.length)∧(∀ l,avb l=.sl (l.flatMap cD) l.length)∧(∀ l,avi l=.sl (l.map (.i .i64)) l.length)∧(∀ l,avo l=.sl (l.flatMap bK) l.length)∧(∀ s,aO s=[avs s.sorts,avb s.below,avo s.ops,avo s.funs,avs s.values])∧(∀ o,bK o=[.s o.name,avs o.args,.s o.sort,avb o.pieces,.i .i64 o.prec,.i .i64 o.assoc,avi o.strict])∧(∀ b,cD b=[.s b.1,.s b.2])∧(∀ t,elT t=.agg (aC t))∧(∀ l,avt l=.sl (l.flatMap aC) l.length)∧(∀ t,aC t=[.i .i64 t.kind,.i .i64 t.n,.s t.text,.s t.sort,avt t.kids,avt t.rest]):=⟨fun _=>rfl,fun _=>rfl,fun _=>rfl,fun _=>rfl,fun _=>rfl,fun _=>rfl,fun _=>rfl,fun _=>rfl,fun _=>rfl,bC⟩
theorem cF {P:Program} {G:fS} {dr:Option DR} {d:Option Nat} {os:List fZ} {K:List AV→List AObj→Prop} {env:List AV} {h:List AObj} {f:FuncId} {A A':List AV} {r:AV} (s:Ctr P G f A' r)
 (k:dG P G dr os K (gN env d (mat r (gG r h A)).1) (mat r (gG r h A)).2) (hA:A.map (gH dep h)=A':=by (simp -implicitDefEqProofs (disch:=omega) only [zdB,go_sem,↓reduceIte,reduceAdd,reduceSub,reduceMul,reduceLeDiff,reduceLT,reduceEqDiff,reduceNeg,Nat.reduceBEq]; done)):wS P G dr f A d os K env h:=bF s hA k
theorem zt1 {K1:Prop} {p q:Prop} (k1:K1) (h:q) (e:K1→Cv q p:=by
   intro k1
   repeat' first | with_reducible apply vT | with_reducible apply vF | with_reducible apply vC | ((first | ((with_reducible apply vE); (focus exact k1); (focus (simp -implicitDefEqProofs (disch:=omega) only [zdB,go_sem,simprocAttr]; done))) | ((with_reducible apply vE); (focus (apply k1 <;> omega)); (focus (simp -implicitDefEqProofs (disch:=omega) only [zdB,go_sem,simprocAttr]; done))) | ((with_reducible apply vR); focus exact k1 ..)); simp -implicitDefEqProofs (disch:=omega) only [go_sem,simprocAttr]) | ((with_reducible apply vA); focus omega) | ((with_reducible apply vI); (focus (intro hr; (try simp only [zdz] at hr); exact hr)); intro hr; have hc:=hr; (try simp only [zdz] at hc); simp -implicitDefEqProofs (disch:=omega) only [hr,go_sem,simprocAttr]; (try clear hr))
   any_goals exact vS):p:=(e k1).1 h
theorem zy1 {K1:Prop} {x:Prop} {p q:Prop} (X:x) (k1:K1) (h:q) (e:x→K1→Cv q p:=by
   intro X k1
   repeat' first | with_reducible apply vT | with_reducible apply vF | with_reducible apply vC | ((first | ((with_reducible apply vE); (focus exact k1); (focus (simp -implicitDefEqProofs (disch:=omega) only [X,zdB,go_sem,simprocAttr]; done))) | ((with_reducible apply vE); (focus (apply k1 <;> omega)); (focus (simp -implicitDefEqProofs (disch:=omega) only [X,zdB,go_sem,simprocAttr]; done))) | ((with_reducible apply vR); focus exact k1 ..)); simp -implicitDefEqProofs (disch:=omega) only [X,go_sem,simprocAttr]) | ((with_reducible apply vA); focus omega) | ((with_reducible apply vI); (focus (intro hr; (try simp only [zdz] at hr); exact hr)); intro hr; have hc:=hr; (try simp only [zdz] at hc); simp -implicitDefEqProofs (disch:=omega) only [hr,X,go_sem,simprocAttr]; (try clear hr))
   any_goals exact vS):p:=(e X k1).1 h
theorem zt2 {K1:Prop} {K2:Prop} {p q:Prop} (k1:K1) (k2:K2) (h:q) (e:K1→K2→Cv q p:=by
   intro k1 k2
   repeat' first | with_reducible apply vT | with_reducible apply vF | with_reducible apply vC | ((first | ((with_reducible apply vE); (focus exact k1); (focus (simp -implicitDefEqProofs (disch:=omega) only [zdB,go_sem,simprocAttr]; done))) | ((with_reducible apply vE); (focus (apply k1 <;> omega)); (focus (simp -implicitDefEqProofs (disch:=omega) only [zdB,go_sem,simprocAttr]; done))) | ((with_reducible apply vR); focus exact k1 ..) | ((with_reducible apply vE); (focus exact k2); (focus (simp -implicitDefEqProofs (disch:=omega) only [zdB,go_sem,simprocAttr]; done))) | ((with_reducible apply vE); (focus (apply k2 <;> omega)); (focus (simp -implicitDefEqProofs (disch:=omega) only [zdB,go_sem,simprocAttr]; done))) | ((with_reducible apply vR); focus exact k2 ..)); simp -implicitDefEqProofs (disch:=omega) only [go_sem,simprocAttr]) | ((with_reducible apply vA); focus omega) | ((with_reducible apply vI); (focus (intro hr; (try simp only [zdz] at hr); exact hr)); intro hr; have hc:=hr; (try simp only [zdz] at hc); simp -implicitDefEqProofs (disch:=omega) only [hr,go_sem,simprocAttr]; (try clear hr))
   any_goals exact vS):p:=(e k1 k2).1 h
theorem zy2 {K1:Prop} {K2:Prop} {x:Prop} {p q:Prop} (X:x) (k1:K1) (k2:K2) (h:q) (e:x→K1→K2→Cv q p:=by
   intro X k1 k2
   repeat' first | with_reducible apply vT | with_reducible apply vF | with_reducible apply vC | ((first | ((with_reducible apply vE); (focus exact k1); (focus (simp -implicitDefEqProofs (disch:=omega) only [X,zdB,go_sem,simprocAttr]; done))) | ((with_reducible apply vE); (focus (apply k1 <;> omega)); (focus (simp -implicitDefEqProofs (disch:=omega) only [X,zdB,go_sem,simprocAttr]; done))) | ((with_reducible apply vR); focus exact k1 ..) | ((with_reducible apply vE); (focus exact k2); (focus (simp -implicitDefEqProofs (disch:=omega) only [X,zdB,go_sem,simprocAttr]; done))) | ((with_reducible apply vE); (focus (apply k2 <;> omega)); (focus (simp -implicitDefEqProofs (disch:=omega) only [X,zdB,go_sem,simprocAttr]; done))) | ((with_reducible apply vR); focus exact k2 ..)); simp -implicitDefEqProofs (disch:=omega) only [X,go_sem,simprocAttr]) | ((with_reducible apply vA); focus omega) | ((with_reducible apply vI); (focus (intro hr; (try simp only [zdz] at hr); exact hr)); intro hr; have hc:=hr; (try simp only [zdz] at hc); simp -implicitDefEqProofs (disch:=omega) only [hr,X,go_sem,simprocAttr]; (try clear hr))
   any_goals exact vS):p:=(e X k1 k2).1 h
theorem zt3 {K1:Prop} {K2:Prop} {K3:Prop} {p q:Prop} (k1:K1) (k2:K2) (k3:K3) (h:q) (e:K1→K2→K3→Cv q p:=by
   intro k1 k2 k3
   repeat' first | with_reducible apply vT | with_reducible apply vF | with_reducible apply vC | ((first | ((with_reducible apply vE); (focus exact k1); (focus (simp -implicitDefEqProofs (disch:=omega) only [zdB,go_sem,simprocAttr]; done))) | ((with_reducible apply vE); (focus (apply k1 <;> omega)); (focus (simp -implicitDefEqProofs (disch:=omega) only [zdB,go_sem,simprocAttr]; done))) | ((with_reducible apply vR); focus exact k1 ..) | ((with_reducible apply vE); (focus exact k2); (focus (simp -implicitDefEqProofs (disch:=omega) only [zdB,go_sem,simprocAttr]; done))) | ((with_reducible apply vE); (focus (apply k2 <;> omega)); (focus (simp -implicitDefEqProofs (disch:=omega) only [zdB,go_sem,simprocAttr]; done))) | ((with_reducible apply vR); focus exact k2 ..) | ((with_reducible apply vE); (focus exact k3); (focus (simp -implicitDefEqProofs (disch:=omega) only [zdB,go_sem,simprocAttr]; done))) | ((with_reducible apply vE); (focus (apply k3 <;> omega)); (focus (simp -implicitDefEqProofs (disch:=omega) only [zdB,go_sem,simprocAttr]; done))) | ((with_reducible apply vR); focus exact k3 ..)); simp -implicitDefEqProofs (disch:=omega) only [go_sem,simprocAttr]) | ((with_reducible apply vA); focus omega) | ((with_reducible apply vI); (focus (intro hr; (try simp only [zdz] at hr); exact hr)); intro hr; have hc:=hr; (try simp only [zdz] at hc); simp -implicitDefEqProofs (disch:=omega) only [hr,go_sem,simprocAttr]; (try clear hr))
   any_goals exact vS):p:=(e k1 k2 k3).1 h
theorem zy3 {K1:Prop} {K2:Prop} {K3:Prop} {x:Prop} {p q:Prop} (X:x) (k1:K1) (k2:K2) (k3:K3) (h:q) (e:x→K1→K2→K3→Cv q p:=by
   intro X k1 k2 k3
   repeat' first | with_reducible apply vT | with_reducible apply vF | with_reducible apply vC | ((first | ((with_reducible apply vE); (focus exact k1); (focus (simp -implicitDefEqProofs (disch:=omega) only [X,zdB,go_sem,simprocAttr]; done))) | ((with_reducible apply vE); (focus (apply k1 <;> omega)); (focus (simp -implicitDefEqProofs (disch:=omega) only [X,zdB,go_sem,simprocAttr]; done))) | ((with_reducible apply vR); focus exact k1 ..) | ((with_reducible apply vE); (focus exact k2); (focus (simp -implicitDefEqProofs (disch:=omega) only [X,zdB,go_sem,simprocAttr]; done))) | ((with_reducible apply vE); (focus (apply k2 <;> omega)); (focus (simp -implicitDefEqProofs (disch:=omega) only [X,zdB,go_sem,simprocAttr]; done))) | ((with_reducible apply vR); focus exact k2 ..) | ((with_reducible apply vE); (focus exact k3); (focus (simp -implicitDefEqProofs (disch:=omega) only [X,zdB,go_sem,simprocAttr]; done))) | ((with_reducible apply vE); (focus (apply k3 <;> omega)); (focus (simp -implicitDefEqProofs (disch:=omega) only [X,zdB,go_sem,simprocAttr]; done))) | ((with_reducible apply vR); focus exact k3 ..)); simp -implicitDefEqProofs (disch:=omega) only [X,go_sem,simprocAttr]) | ((with_reducible apply vA); focus omega) | ((with_reducible apply vI); (focus (intro hr; (try simp only [zdz] at hr); exact hr)); intro hr; have hc:=hr; (try simp only [zdz] at hc); simp -implicitDefEqProofs (disch:=omega) only [hr,X,go_sem,simprocAttr]; (try clear hr))
   any_goals exact vS):p:=(e X k1 k2 k3).1 h
theorem zt4 {K1:Prop} {K2:Prop} {K3:Prop} {K4:Prop} {p q:Prop} (k1:K1) (k2:K2) (k3:K3) (k4:K4) (h:q) (e:K1→K2→K3→K4→Cv q p:=by
   intro k1 k2 k3 k4
   repeat' first | with_reducible apply vT | with_reducible apply vF | with_reducible apply vC | ((first | ((with_reducible apply vE); (focus exact k1); (focus (simp -implicitDefEqProofs (disch:=omega) only [zdB,go_sem,simprocAttr]; done))) | ((with_reducible apply vE); (focus (apply k1 <;> omega)); (focus (simp -implicitDefEqProofs (disch:=omega) only [zdB,go_sem,simprocAttr]; done))) | ((with_reducible apply vR); focus exact k1 ..) | ((with_reducible apply vE); (focus exact k2); (focus (simp -implicitDefEqProofs (disch:=omega) only [zdB,go_sem,simprocAttr]; done))) | ((with_reducible apply vE); (focus (apply k2 <;> omega)); (focus (simp -implicitDefEqProofs (disch:=omega) only [zdB,go_sem,simprocAttr]; done))) | ((with_reducible apply vR); focus exact k2 ..) | ((with_reducible apply vE); (focus exact k3); (focus (simp -implicitDefEqProofs (disch:=omega) only [zdB,go_sem,simprocAttr]; done))) | ((with_reducible apply vE); (focus (apply k3 <;> omega)); (focus (simp -implicitDefEqProofs (disch:=omega) only [zdB,go_sem,simprocAttr]; done))) | ((with_reducible apply vR); focus exact k3 ..) | ((with_reducible apply vE); (focus exact k4); (focus (simp -implicitDefEqProofs (disch:=omega) only [zdB,go_sem,simprocAttr]; done))) | ((with_reducible apply vE); (focus (apply k4 <;> omega)); (focus (simp -implicitDefEqProofs (disch:=omega) only [zdB,go_sem,simprocAttr]; done))) | ((with_reducible apply vR); focus exact k4 ..)); simp -implicitDefEqProofs (disch:=omega) only [go_sem,simprocAttr]) | ((with_reducible apply vA); focus omega) | ((with_reducible apply vI); (focus (intro hr; (try simp only [zdz] at hr); exact hr)); intro hr; have hc:=hr; (try simp only [zdz] at hc); simp -implicitDefEqProofs (disch:=omega) only [hr,go_sem,simprocAttr]; (try clear hr))
   any_goals exact vS):p:=(e k1 k2 k3 k4).1 h
theorem zy4 {K1:Prop} {K2:Prop} {K3:Prop} {K4:Prop} {x:Prop} {p q:Prop} (X:x) (k1:K1) (k2:K2) (k3:K3) (k4:K4) (h:q) (e:x→K1→K2→K3→K4→Cv q p:=by
   intro X k1 k2 k3 k4
   repeat' first | with_reducible apply vT | with_reducible apply vF | with_reducible apply vC | ((first | ((with_reducible apply vE); (focus exact k1); (focus (simp -implicitDefEqProofs (disch:=omega) only [X,zdB,go_sem,simprocAttr]; done))) | ((with_reducible apply vE); (focus (apply k1 <;> omega)); (focus (simp -implicitDefEqProofs (disch:=omega) only [X,zdB,go_sem,simprocAttr]; done))) | ((with_reducible apply vR); focus exact k1 ..) | ((with_reducible apply vE); (focus exact k2); (focus (simp -implicitDefEqProofs (disch:=omega) only [X,zdB,go_sem,simprocAttr]; done))) | ((with_reducible apply vE); (focus (apply k2 <;> omega)); (focus (simp -implicitDefEqProofs (disch:=omega) only [X,zdB,go_sem,simprocAttr]; done))) | ((with_reducible apply vR); focus exact k2 ..) | ((with_reducible apply vE); (focus exact k3); (focus (simp -implicitDefEqProofs (disch:=omega) only [X,zdB,go_sem,simprocAttr]; done))) | ((with_reducible apply vE); (focus (apply k3 <;> omega)); (focus (simp -implicitDefEqProofs (disch:=omega) only [X,zdB,go_sem,simprocAttr]; done))) | ((with_reducible apply vR); focus exact k3 ..) | ((with_reducible apply vE); (focus exact k4); (focus (simp -implicitDefEqProofs (disch:=omega) only [X,zdB,go_sem,simprocAttr]; done))) | ((with_reducible apply vE); (focus (apply k4 <;> omega)); (focus (simp -implicitDefEqProofs (disch:=omega) only [X,zdB,go_sem,simprocAttr]; done))) | ((with_reducible apply vR); focus exact k4 ..)); simp -implicitDefEqProofs (disch:=omega) only [X,go_sem,simprocAttr]) | ((with_reducible apply vA); focus omega) | ((with_reducible apply vI); (focus (intro hr; (try simp only [zdz] at hr); exact hr)); intro hr; have hc:=hr; (try simp only [zdz] at hc); simp -implicitDefEqProofs (disch:=omega) only [hr,X,go_sem,simprocAttr]; (try clear hr))
   any_goals exact vS):p:=(e X k1 k2 k3 k4).1 h
def Rd6 (H:List AObj) (v:AV) (l:List LTerm):Prop:=(v=.e0∧l=[])∨v=avt l∨∃ i off fz t cells,v=.hs i off l.length t∧H[i]? = some (.arr fz 6 cells)∧off+l.length * 6≤cells.length∧(cells.drop off).take (l.length * 6)=l.flatMap aC
theorem aWq {H:List AObj} {v:AV} {l:List LTerm} (h:Rd6 H v l):avt l=gH dep H v:=by
 rcases h with ⟨rfl,rfl⟩ | rfl | ⟨i,off,fz,t,cells,rfl,h1,h2,h3⟩
 · rfl
 · simp only [fV,aGz,if_true]
 · simp only [fV,pers,rH,h1,h3,iH,if_true,aM,if_false,if_pos h2]
   rfl
theorem D2 {H:List AObj} {v:AV} {l:List LTerm} (h:Rd6 H v l):lD H v (avt l)∧bW v (avt l)=[]:=by
 have h0:=aWq h
 rcases h with ⟨rfl,rfl⟩ | rfl | ⟨i,off,fz,t,cells,rfl,h1,h2,h3⟩
 · exact ⟨h0,rfl⟩
 · exact ⟨h0,rfl⟩
 · exact ⟨h0,rfl⟩
theorem yL {H:List AObj}:Rd6 H .e0 []:=.inl ⟨rfl,rfl⟩
theorem aGy {H:List AObj} {l:List LTerm}:Rd6 H (.sl (l.flatMap aC) l.length) l:=.inr (.inl rfl)
theorem bCy {H:List AObj} {t:LTerm} {v4 v5:AV} {c:Int} (r4:Rd6 H v4 t.kids) (r5:Rd6 H v5 t.rest):Fin H (.tup [.agg [.i .i64 t.kind,.i .i64 t.n,.s t.text,.s t.sort,v4,v5],.i .i64 c]) (bKm t c):=by
 have e4:=D2 r4
 have e5:=D2 r5
 have hn:bW (.tup [.agg [.i .i64 t.kind,.i .i64 t.n,.s t.text,.s t.sort,v4,v5],.i .i64 c]) (bKm t c)=[]:=by
   simp only [bKm,bW,finIdsL,bC,e4.2,e5.2,List.append_nil]
 refine .inr ⟨?_,?_,?_⟩
 · rw [bKm,bC]; exact ⟨⟨rfl,rfl,rfl,rfl,e4.1,e5.1,trivial⟩,rfl,trivial⟩
 · rw [hn]; exact cR
 · rw [hn]; simp
def zG (t:LTerm):Bool:=decide (t.kind=1) || decide (t.kind=3) || decide (t.kind=4)
theorem bEa (t:LTerm): CT 192 [elT t] (.b (zG t)):=by
 refine aL mixed Tryz.func192 g0 ?_
 · skip
   (repeat' (first | refine gT ?_ ?_ | refine gF ?_ ?_ | refine gC ?_ ?_ | refine bB (by omega) ?_ | (intro hr; have hc:=hr; (try simp only [zdz] at hc); simp -implicitDefEqProofs (disch:=omega) only [hr,go_sem,simprocAttr]; (try clear hr))))
   all_goals (refine aF ?_ rfl; simp_all [zG])
theorem aSz (t:LTerm): CT 130 [elT t] (.b (zG t)):=by
 refine aL mixed Tryz.func130 g0 ?_
 · skip
   (repeat' (first | refine gT ?_ ?_ | refine gF ?_ ?_ | refine gC ?_ ?_ | refine bB (by omega) ?_ | (intro hr; have hc:=hr; (try simp only [zdz] at hc); simp -implicitDefEqProofs (disch:=omega) only [hr,go_sem,simprocAttr]; (try clear hr))))
   all_goals (refine aF ?_ rfl; simp_all [zG])
def nF (n:Int):Bool:=decide (-2147483647≤n) && decide (n≤2147483647)
theorem bDv (n:Int): CT 233 [.i .i64 n] (.b (nF n)):=by
 refine aL mixed Tryz.func233 g0 ?_
 · skip
   (repeat' (first | refine gT ?_ ?_ | refine gF ?_ ?_ | refine gC ?_ ?_ | refine bB (by omega) ?_ | (intro hr; have hc:=hr; (try simp only [zdz] at hc); simp -implicitDefEqProofs (disch:=omega) only [hr,go_sem,simprocAttr]; (try clear hr))))
   all_goals (refine aF ?_ rfl; simp_all [nF] <;> omega)
def qR (a b:Int):Int:=if a < b then -1 else if b < a then 1 else 0
theorem aRi {a b:Str} (h1:¬ a < b) (h2:¬ a=b):b < a:=by
 rcases List.le_iff_lt_or_eq.1 (List.not_lt.1 h1) with h | h
 · exact h
 · exact absurd h.symm h2
def rM (a b:Str):Int:=if a < b then -1 else if b < a then 1 else 0
theorem aTh {a b:Str} (h:a < b):rM a b = -1:=if_pos h
theorem aTi {a b:Str} (h1:¬ a < b) (h2:¬ a=b):rM a b=1:=by rw [rM,if_neg h1,if_pos (aRi h1 h2)]
theorem aFh {a b:Str} (h:a=b):rM a b=0:=by subst h; have:¬ a < a:=List.lt_irrefl a; simp only [rM,if_neg this]
theorem aSv (a b:Int): CT 241 [.i .i64 a,.i .i64 b] (.i .i64 (qR a b)):=by
 refine aL mixed Tryz.func241 g0 ?_
 · skip
   (repeat' (first | refine gT ?_ ?_ | refine gF ?_ ?_ | refine gC ?_ ?_ | refine bB (by omega) ?_ | (intro hr; have hc:=hr; (try simp only [zdz] at hc); simp -implicitDefEqProofs (disch:=omega) only [hr,go_sem,simprocAttr]; (try clear hr))))
   all_goals (refine aF ?_ rfl; congr 1; unfold qR; (repeat' split) <;> omega)
theorem bDq (a:Int): CT 238 [.i .i64 a] (.b false):=by
 refine aL mixed Tryz.func238 g0 ?_
 · skip
   (repeat' (first | refine gT ?_ ?_ | refine gF ?_ ?_ | refine gC ?_ ?_ | refine bB (by omega) ?_ | (intro hr; have hc:=hr; (try simp only [zdz] at hc); simp -implicitDefEqProofs (disch:=omega) only [hr,go_sem,simprocAttr]; (try clear hr))))
   all_goals (refine aF ?_ rfl; simp_all)
theorem bDr (a:Int): CT 237 [.i .i64 a] (.b false):=by
 refine aL mixed Tryz.func237 g0 ?_
 · skip
   (repeat' (first | refine gT ?_ ?_ | refine gF ?_ ?_ | refine gC ?_ ?_ | refine bB (by omega) ?_ | (intro hr; have hc:=hr; (try simp only [zdz] at hc); simp -implicitDefEqProofs (disch:=omega) only [hr,go_sem,simprocAttr]; (try clear hr))))
   all_goals (refine aF ?_ rfl; simp_all)
theorem bEb (a:Str): CT 239 [.s a] (.b false):=by
 refine aL mixed Tryz.func239 g0 ?_
 · skip
   (repeat' (first | refine gT ?_ ?_ | refine gF ?_ ?_ | refine gC ?_ ?_ | refine bB (by omega) ?_ | (intro hr; have hc:=hr; (try simp only [zdz] at hc); simp -implicitDefEqProofs (disch:=omega) only [hr,go_sem,simprocAttr]; (try clear hr))))
   all_goals (refine aF ?_ rfl; simp_all)
theorem bQa (a b:Int): CT 204 [.i .i64 a,.i .i64 b] (.i .i64 (qR a b)):=by
 refine aL mixed Tryz.func204 g0 ?_
 · skip
   (repeat' (first | refine gT ?_ ?_ | refine gF ?_ ?_ | refine gC ?_ ?_ | ((first | (refine bF (bDq a) ?_ ?_; (focus (simp -implicitDefEqProofs (disch:=omega) only [zdB,go_sem,simprocAttr]; done))) | (refine bF (bDq b) ?_ ?_; (focus (simp -implicitDefEqProofs (disch:=omega) only [zdB,go_sem,simprocAttr]; done)))); simp -implicitDefEqProofs (disch:=omega) only [go_sem,simprocAttr]) | refine bB (by omega) ?_ | (intro hr; have hc:=hr; (try simp only [zdz] at hc); simp -implicitDefEqProofs (disch:=omega) only [hr,go_sem,simprocAttr]; (try clear hr))))
   all_goals (refine aF ?_ rfl; congr 1; unfold qR; (repeat' split) <;> omega)
theorem bQb (a b:Int): CT 203 [.i .i64 a,.i .i64 b] (.i .i64 (qR a b)):=by
 refine aL mixed Tryz.func203 g0 ?_
 · skip
   (repeat' (first | refine gT ?_ ?_ | refine gF ?_ ?_ | refine gC ?_ ?_ | ((first | (refine bF (bDr a) ?_ ?_; (focus (simp -implicitDefEqProofs (disch:=omega) only [zdB,go_sem,simprocAttr]; done))) | (refine bF (bDr b) ?_ ?_; (focus (simp -implicitDefEqProofs (disch:=omega) only [zdB,go_sem,simprocAttr]; done)))); simp -implicitDefEqProofs (disch:=omega) only [go_sem,simprocAttr]) | refine bB (by omega) ?_ | (intro hr; have hc:=hr; (try simp only [zdz] at hc); simp -implicitDefEqProofs (disch:=omega) only [hr,go_sem,simprocAttr]; (try clear hr))))
   all_goals (refine aF ?_ rfl; congr 1; unfold qR; (repeat' split) <;> omega)
theorem bDu (a b:Str): CT 242 [.s a,.s b] (.i .i64 (rM a b)):=by
 refine aL mixed Tryz.func242 g0 ?_
 · skip
   (repeat' (first | refine gT ?_ ?_ | refine gF ?_ ?_ | refine gC ?_ ?_ | refine bB (by omega) ?_ | (intro hr; have hc:=hr; (try simp only [zdz] at hc); simp -implicitDefEqProofs (disch:=omega) only [hr,go_sem,simprocAttr]; (try clear hr))))
   all_goals (refine aF ?_ rfl; congr 1; simp only [bytesLess_eq,decide_eq_true_eq,decide_eq_false_iff_not,cT] at *; first | exact aTh (by assumption) | exact aTi (by assumption) (by assumption) | exact aFh (by assumption))
theorem bDw (a b:Str): CT 205 [.s a,.s b] (.i .i64 (rM a b)):=by
 refine aL mixed Tryz.func205 g0 ?_
 · skip
   (repeat' (first | refine gT ?_ ?_ | refine gF ?_ ?_ | refine gC ?_ ?_ | ((first | (refine bF (bEb a) ?_ ?_; (focus (simp -implicitDefEqProofs (disch:=omega) only [zdB,go_sem,simprocAttr]; done))) | (refine bF (bEb b) ?_ ?_; (focus (simp -implicitDefEqProofs (disch:=omega) only [zdB,go_sem,simprocAttr]; done)))); simp -implicitDefEqProofs (disch:=omega) only [go_sem,simprocAttr]) | refine bB (by omega) ?_ | (intro hr; have hc:=hr; (try simp only [zdz] at hc); simp -implicitDefEqProofs (disch:=omega) only [hr,go_sem,simprocAttr]; (try clear hr))))
   all_goals (refine aF ?_ rfl; congr 1; simp only [bytesLess_eq,decide_eq_true_eq,decide_eq_false_iff_not,cT] at *; first | exact aTh (by assumption) | exact aTi (by assumption) (by assumption) | exact aFh (by assumption))
def orI:List Int→Int
 | []=>0
 | a::l=>if a=0 then orI l else a
theorem aAt {l:List Int} {k:Nat} (hz:∀ j,j < k→l.getD j 0=0):orI l=orI (l.drop k):=by
 induction k generalizing l with
 | zero=>rfl
 | succ k ih=>
   cases l with
   | nil=>simp [orI]
   | cons a l=>
     have h0:a=0:=hz 0 (by omega)
     rw [fL,← ih (fun j hj=>by have:=hz (j+1) (by omega); simpa using this),orI,if_pos h0]
theorem bDx (l:List Int) (hl:l.length≤17592186044416): CT 202 [avi l] (.i .i64 (orI l)):=by
 refine bQ mixed Tryz.func202 g0 ?_
 · simp -implicitDefEqProofs (disch:=omega) only [Tryz.f202,go_sem,List.replicate,simprocAttr,avi]
   refine bP (fun (k:Nat)=>[.k,.k,.j,.k,.k,.j,.k,.k,.v (.i .i64 k),.j,.j,.j,.j,.j,.j,.j,.j,.k]) (fun k=>[]) (fun k=>k≤l.length∧∀ j,j < k→l.getD j 0=0) (fun k=>l.length - k) (0) ⟨aG _,fun j h=>by omega⟩ rfl (by simp [eN]) ?_
   rintro k j ⟨hk,ha⟩
   simp -implicitDefEqProofs (disch:=omega) only [go_sem,simprocAttr]
   (repeat' (first | refine gT ?_ ?_ | refine gF ?_ ?_ | refine gC ?_ ?_ | refine bB (by omega) ?_ | (intro hr; have hc:=hr; (try simp only [zdz] at hc); simp -implicitDefEqProofs (disch:=omega) only [hr,go_sem,simprocAttr]; (try clear hr))))
   · refine aF ?_ rfl
     have hlt:k < l.length:=by omega
     rw [aAt ha,bH hlt,orI,if_neg (by simpa [List.getD,hlt] using hc)]
     simp [List.getD,hlt]
   · exact ⟨k+1,⟨by omega,bD ha (by simpa using hc)⟩,by omega,by simp⟩
   · refine aF ?_ rfl
     rw [aAt ha,aY (by omega)]; rfl
theorem aAy {s:Str} (h:dN s=true):0 < s.length:=by
 cases s with
 | nil=>revert h; decide
 | cons a l=>simp
def bFc:Str:=[116,114,117,101]
def aSg:Str:=[102,97,108,115,101]
def aYg (s:Str):Bool:=dN s && decide (97≤((s.getD 0 0).toNat:Int)) && decide (((s.getD 0 0).toNat:Int)≤122) && !decide (s=bFc) && !decide (s=aSg)
theorem bPx (s:Str) (hs:s.length≤140737488355328): CT 235 [.s s] (.b (aYg s)):=by
 refine aL mixed Tryz.func235 g0 ?_
 · skip
   have c:=T8 s hs
   cases h:dN s with
   | false=>
     rw [h] at c
     (repeat' (first | refine gT ?_ ?_ | refine gF ?_ ?_ | refine gC ?_ ?_ | ((refine bF (c) ?_ ?_; (focus (simp -implicitDefEqProofs (disch:=omega) only [zdB,go_sem,simprocAttr]; done))); simp -implicitDefEqProofs (disch:=omega) only [go_sem,simprocAttr]) | refine bB (by omega) ?_ | (intro hr; have hc:=hr; (try simp only [zdz] at hc); simp -implicitDefEqProofs (disch:=omega) only [hr,go_sem,simprocAttr]; (try clear hr))))
     all_goals exact aF (by simp [aYg,h]) rfl
   | true=>
     rw [h] at c
     have hpos:=aAy h
     (repeat' (first | refine gT ?_ ?_ | refine gF ?_ ?_ | refine gC ?_ ?_ | ((refine bF (c) ?_ ?_; (focus (simp -implicitDefEqProofs (disch:=omega) only [zdB,go_sem,simprocAttr]; done))); simp -implicitDefEqProofs (disch:=omega) only [go_sem,simprocAttr]) | refine bB (by omega) ?_ | (intro hr; have hc:=hr; (try simp only [zdz] at hc); simp -implicitDefEqProofs (disch:=omega) only [hr,go_sem,simprocAttr]; (try clear hr))))
     all_goals refine aF ?_ rfl
     all_goals (simp_all [aYg,bFc,aSg,decide_not] <;> (first | omega | (intros; omega) | exact decide_eq_decide.2 Iff.rfl))
theorem bPv (s:Str) (hs:s.length≤140737488355328): CT 260 [.s s] (.b (aYg s)):=by
 refine aL mixed Tryz.func260 g0 ?_
 · skip
   have c:=T7 s hs
   cases h:dN s with
   | false=>
     rw [h] at c
     (repeat' (first | refine gT ?_ ?_ | refine gF ?_ ?_ | refine gC ?_ ?_ | ((refine bF (c) ?_ ?_; (focus (simp -implicitDefEqProofs (disch:=omega) only [zdB,go_sem,simprocAttr]; done))); simp -implicitDefEqProofs (disch:=omega) only [go_sem,simprocAttr]) | refine bB (by omega) ?_ | (intro hr; have hc:=hr; (try simp only [zdz] at hc); simp -implicitDefEqProofs (disch:=omega) only [hr,go_sem,simprocAttr]; (try clear hr))))
     all_goals exact aF (by simp [aYg,h]) rfl
   | true=>
     rw [h] at c
     have hpos:=aAy h
     (repeat' (first | refine gT ?_ ?_ | refine gF ?_ ?_ | refine gC ?_ ?_ | ((refine bF (c) ?_ ?_; (focus (simp -implicitDefEqProofs (disch:=omega) only [zdB,go_sem,simprocAttr]; done))); simp -implicitDefEqProofs (disch:=omega) only [go_sem,simprocAttr]) | refine bB (by omega) ?_ | (intro hr; have hc:=hr; (try simp only [zdz] at hc); simp -implicitDefEqProofs (disch:=omega) only [hr,go_sem,simprocAttr]; (try clear hr))))
     all_goals refine aF ?_ rfl
     all_goals (simp_all [aYg,bFc,aSg,decide_not] <;> (first | omega | (intros; omega) | exact decide_eq_decide.2 Iff.rfl))

theorem H1 {n:Nat}:((n:Int)=0)↔n=0:=by omega
theorem H2 {n:Nat}:((n:Int)=1)↔n=1:=by omega
theorem qT {n:Nat}:((n:Int)≤8)↔n≤8:=by omega
def rA (c:UInt8):Bool:=decide (32≤(c.toNat:Int)) && decide ((c.toNat:Int)≤126) && decide ((c.toNat:Int) ≠ 34) && decide ((c.toNat:Int) ≠ 92)
def wA (s:Str):Bool:=s.all rA && decide (s.length≤200)
theorem aYr {α:Type} {l:List α} {k:Nat} {d:α} (h:k < l.length):l[k]? = some (l.getD k d):=by simp [List.getD,h]
theorem bHz {α:Type} {l:List α} {k:Nat} {d x:α} (h:l[k]? = some x):l.getD k d=x:=by simp [List.getD,h]
theorem aDi {s:Str} {k:Nat} {c:UInt8} (h:s[k]? = some c) (hc:rA c=false):wA s=false:=by
 have:s.all rA=false:=by
   rw [fR]
   exact ⟨c,cP h,by simp [hc]⟩
 simp [wA,this]
theorem aGi {s:Str} (h:∀ j,j < s.length→rA (s.getD j 0)=true):wA s=decide (s.length≤200):=by
 have:s.all rA=true:=kC (d:=0) h
 simp [wA,this]
theorem bPw (s:Str) (hs:s.length≤140737488355328): CT 259 [.s s] (.b (wA s)):=by
 refine aL mixed Tryz.func259 g0 ?_
 · skip
   refine bP (fun (k:Nat)=>[.k,.k,.j,.j,.k,.k,.v (.i .i64 k),.j,.j,.j,.j,.j,.j,.j,.j,.j,.j,.j,.j,.j,.j,.j,.j,.j,.j,.j,.j,.j,.j,.j,.j,.j,.k,.k,.k]) (fun k=>[]) (fun k=>k≤s.length∧∀ j,j < k→rA (s.getD j 0)=true) (fun k=>s.length - k) (0) ⟨aG _,fun j h=>by omega⟩ rfl (by simp [eN]) ?_
   rintro k j ⟨hk,ha⟩
   refine zg ?_
   (refine zs0 ?_; repeat' first | exact trivial | refine zJ ?_ ?_ | refine zH fun hc=>?_)
   all_goals first
     | (refine aF ?_ rfl; rw [aDi (k:=k) (aYr (d:=0) (by omega)) (by simp only [rA,iG,decide_eq_false_iff_not,ne_eq]; omega)]; done)
     | exact ⟨k+1,⟨by omega,bD ha (by simp only [rA,aA,decide_eq_true_eq,ne_eq]; omega)⟩,by omega,by simp⟩
     | (refine aF ?_ rfl; rw [aGi (fun j hj=>ha j (by omega))]; exact congrArg AV.b (decide_eq_decide.2 (by omega)))
theorem bQf (s:Str) (hs:s.length≤140737488355328): CT 234 [.s s] (.b (wA s)):=by
 refine aL mixed Tryz.func234 g0 ?_
 · skip
   refine bP (fun (k:Nat)=>[.k,.k,.j,.k,.j,.k,.k,.j,.j,.j,.j,.j,.j,.j,.j,.j,.j,.j,.j,.j,.j,.j,.j,.j,.k,.k,.k]) (fun k=>[.sit s k]) (fun k=>k≤s.length∧∀ j,j < k→rA (s.getD j 0)=true) (fun k=>s.length - k) (0) ⟨aG _,fun j h=>by omega⟩ rfl (by simp [eN]) ?_
   rintro k j ⟨hk,ha⟩
   refine zg ?_
   refine aEi rfl ?_ ?_ ?_
   · intro hle
     refine zg ?_
     refine aF ?_ rfl
     rw [aGi (fun j hj=>ha j (by omega))]
     exact congrArg AV.b (decide_eq_decide.2 (by omega))
   · intro c hc hlt
     have hcg:=bHz (d:=0) hc
     have hk2:=aQ hc
     have hc0:=hc
     refine zg ?_
     (refine zs0 ?_; repeat' first | exact trivial | refine zJ ?_ ?_ | refine zH fun hc=>?_)
     all_goals first
       | (refine aF ?_ rfl; rw [aDi hc0 (by simp only [rA,iG,decide_eq_false_iff_not,ne_eq]; omega)]; done)
       | exact ⟨k+1,⟨by omega,bD ha (by rw [hcg]; simp only [rA,aA,decide_eq_true_eq,ne_eq]; omega)⟩,by omega,by simp⟩
   · intro c rn m hc h1 h2 h3 h4
     have hc0:=hc
     refine zg ?_
     (refine zs0 ?_; repeat' first | exact trivial | refine zJ ?_ ?_ | refine zH fun hc=>?_)
     all_goals first
       | (exfalso; omega)
       | (refine aF ?_ rfl; rw [aDi hc0 (by simp only [rA,iG,decide_eq_false_iff_not,ne_eq]; omega)]; done)
def eY (t:LTerm) (n te so ki re:Bool):Bool:=(n || decide (t.n=0)) && (te || decide (t.text=[])) && (so || decide (t.sort=[])) && (ki || decide (t.kids=[])) && (re || decide (t.rest=[]))
theorem bJe (t:LTerm): CT 258 [elT t,.b true,.b false,.b false,.b false,.b false] (.b (eY t true false false false false)):=by
 refine aL mixed Tryz.func258 g0 ?_
 · skip
   (refine zs0 ?_; repeat' first | exact trivial | refine zJ ?_ ?_ | refine zH fun hc=>?_)
   all_goals (refine aF ?_ rfl; simp_all [eY])
theorem bJd (t:LTerm): CT 258 [elT t,.b false,.b true,.b false,.b false,.b false] (.b (eY t false true false false false)):=by
 refine aL mixed Tryz.func258 g0 ?_
 · skip
   (refine zs0 ?_; repeat' first | exact trivial | refine zJ ?_ ?_ | refine zH fun hc=>?_)
   all_goals (refine aF ?_ rfl; simp_all [eY])
theorem bJc (t:LTerm): CT 258 [elT t,.b false,.b true,.b false,.b true,.b false] (.b (eY t false true false true false)):=by
 refine aL mixed Tryz.func258 g0 ?_
 · skip
   (refine zs0 ?_; repeat' first | exact trivial | refine zJ ?_ ?_ | refine zH fun hc=>?_)
   all_goals (refine aF ?_ rfl; simp_all [eY])
theorem aSu (t:LTerm): CT 258 [elT t,.b false,.b true,.b true,.b false,.b false] (.b (eY t false true true false false)):=by
 refine aL mixed Tryz.func258 g0 ?_
 · skip
   (refine zs0 ?_; repeat' first | exact trivial | refine zJ ?_ ?_ | refine zH fun hc=>?_)
   all_goals (refine aF ?_ rfl; simp_all [eY])
theorem bJb (t:LTerm): CT 258 [elT t,.b false,.b false,.b false,.b true,.b true] (.b (eY t false false false true true)):=by
 refine aL mixed Tryz.func258 g0 ?_
 · skip
   (refine zs0 ?_; repeat' first | exact trivial | refine zJ ?_ ?_ | refine zH fun hc=>?_)
   all_goals (refine aF ?_ rfl; simp_all [eY])
def qE (t:LTerm) (so:Str):Bool:=decide (t.rest.length=0) || (decide (t.rest.length=1) && decide ((t.rest.getD 0 default).kind=6) && dN (t.rest.getD 0 default).text && decide ((t.rest.getD 0 default).sort=so) && eY (t.rest.getD 0 default) false true true false false)
theorem bDp (t:LTerm) (so:Str) (ht:OkT t): CT 261 [elT t,.s so] (.b (qE t so)):=by
 refine aL mixed Tryz.func261 g0 ?_
 · skip
   have h1:0 < t.rest.length→OkT (t.rest.getD 0 default):=fun h=>ht.rst _ (aU h)
   (repeat' (first | refine gT ?_ ?_ | refine gF ?_ ?_ | refine gC ?_ ?_ | ((first | refine cF (T7 (t.rest.getD 0 default).text (h1 (by omega)).text) ?_ | refine cF (aSu (t.rest.getD 0 default)) ?_); simp -implicitDefEqProofs (disch:=omega) only [go_sem,simprocAttr]) | refine bB (by omega) ?_ | (intro hr; have hc:=hr; (try simp only [zdz] at hc); simp -implicitDefEqProofs (disch:=omega) only [hr,go_sem,simprocAttr]; (try clear hr))))
   all_goals simp only [H1,H2] at *
   all_goals (refine aF ?_ rfl; simp_all only [qE,decide_true,decide_false,dD,cT,Bool.true_and,Bool.false_and,Bool.and_false,Bool.and_true,Nat.one_ne_zero])

def yM (s:Str):Bool:=dN (tG s)
theorem bDt (s:Str) (hs:s.length≤140737488355328): CT 155 [.s s] (.b (yM s)):=by
 refine aL mixed Tryz.func155 g0 ?_
 · skip
   (repeat' (first | refine gT ?_ ?_ | refine gF ?_ ?_ | refine gC ?_ ?_ | (refine cF (bEe s hs) ?_; simp -implicitDefEqProofs (disch:=omega) only [go_sem,simprocAttr]) | (refine aMl (T8 _ (dI (U6 s) hs)) ?_; simp -implicitDefEqProofs (disch:=omega) only [go_sem,simprocAttr]) | refine bB (by omega) ?_ | (intro hr; have hc:=hr; (try simp only [zdz] at hc); simp -implicitDefEqProofs (disch:=omega) only [hr,go_sem,simprocAttr]; (try clear hr))))
   refine aF ?_ (by rfl); rfl
theorem qS {n:Nat}:((n:Int).tmod 2=0)↔n % 2=0:=by
 rw [Int.tmod_eq_emod_of_nonneg (Int.natCast_nonneg n)]; omega
def vO (s:Str):Bool:=decide (s=[95]) || decide (s=[36])
abbrev sA:Str:=[76,105,115,116]
abbrev E4:Str:=[77,97,112]
abbrev aJu:Str:=[65,110,121]
def nodeB (t:LTerm):Bool:=
 if t.kind=1 then nF t.n && eY t true false false false false
 else if t.kind=2 then (decide (t.n=0) || decide (t.n=1)) && eY t true false false false false
 else if t.kind=3 then wA t.text && eY t false true false false false
 else if t.kind=4 then aYg t.text && eY t false true false false false
 else if t.kind=5 then yM t.text && decide (t.kids.length≤8) && eY t false true false true false
 else if t.kind=6 then (if vO t.text=true then decide (t.sort=aJu) && eY t false true true false false else dN t.text && dN t.sort && eY t false true true false false)
 else if t.kind=7 then qE t sA && eY t false false false true true
 else if t.kind=8 then qE t E4 && decide (t.kids.length % 2=0) && eY t false false false true true
 else false
theorem pE (t:LTerm) (h:nodeB t=true):t.rest.length≤1:=by
 have z:∀ {a b c d},eY t a b c d false=true→t.rest.length≤1:=by
   intro a b c d h
   simp only [eY,aA,bJ,decide_eq_true_eq,aM,false_or] at h
   rw [h.2]; simp
 have r:∀ {s},qE t s=true→t.rest.length≤1:=by
   intro s h
   simp only [qE,aA,bJ,decide_eq_true_eq] at h
   omega
 unfold nodeB at h
 repeat' split at h
 all_goals try simp only [aA] at h
 all_goals first | exact z h.2 | exact r h.1 | exact r h.1.1 | cases h
theorem bPy (t:LTerm) (ht:OkT t): CT 240 [elT t] (.b (nodeB t)):=by
 refine aL mixed Tryz.func240 g0 ?_
 · skip
   (repeat' (first | refine gT ?_ ?_ | refine gF ?_ ?_ | refine gC ?_ ?_ | ((first | refine cF (bPw t.text ht.text) ?_ | refine cF (bPv t.text ht.text) ?_ | refine cF (aTe t.text ht.text) ?_ | (refine bF (T7 t.text ht.text) ?_ ?_; (focus (simp -implicitDefEqProofs (disch:=omega) only [zdB,go_sem,simprocAttr]; done))) | (refine bF (T7 t.sort ht.sort) ?_ ?_; (focus (simp -implicitDefEqProofs (disch:=omega) only [zdB,go_sem,simprocAttr]; done))) | (refine bF (bDp t sA ht) ?_ ?_; (focus (simp -implicitDefEqProofs (disch:=omega) only [zdB,go_sem,simprocAttr]; done))) | (refine bF (bDp t E4 ht) ?_ ?_; (focus (simp -implicitDefEqProofs (disch:=omega) only [zdB,go_sem,simprocAttr]; done))) | (refine bF (bJe t) ?_ ?_; (focus (simp -implicitDefEqProofs (disch:=omega) only [zdB,go_sem,simprocAttr]; done))) | (refine bF (bJd t) ?_ ?_; (focus (simp -implicitDefEqProofs (disch:=omega) only [zdB,go_sem,simprocAttr]; done))) | (refine bF (bJc t) ?_ ?_; (focus (simp -implicitDefEqProofs (disch:=omega) only [zdB,go_sem,simprocAttr]; done))) | (refine bF (aSu t) ?_ ?_; (focus (simp -implicitDefEqProofs (disch:=omega) only [zdB,go_sem,simprocAttr]; done))) | (refine bF (bJb t) ?_ ?_; (focus (simp -implicitDefEqProofs (disch:=omega) only [zdB,go_sem,simprocAttr]; done)))); simp -implicitDefEqProofs (disch:=omega) only [go_sem,simprocAttr]) | refine bB (by omega) ?_ | (intro hr; have hc:=hr; (try simp only [zdz] at hc); simp -implicitDefEqProofs (disch:=omega) only [hr,go_sem,simprocAttr]; (try clear hr))))
   all_goals try simp only [H1,H2,qT,qS] at *
   all_goals refine aF ?_ rfl
   all_goals (simp_all [nodeB,nF,vO,yM] <;> (intros; omega))
end Go.Proofs.YtifefbhllfdmlaaGreatDoor
