/-
  What functions of the chapter return, as plain functions of what they are given; no condition beyond those that each theorem names.
-/
import Derived.Test.YtifefbhllfdmlaaGreatDoorVaP125
import Derived.Test.YtifefbhllfdmlaaGreatDoorVoP128
import Derived.Test.YtifefbhllfdmlaaGreatDoorVaP123
import Derived.Test.YtifefbhllfdmlaaGreatDoorSoP123
set_option maxRecDepth 100000
set_option linter.unusedSimpArgs false
set_option linter.unusedVariables false
set_option maxHeartbeats 4000000
namespace Go.Proofs.YtifefbhllfdmlaaGreatDoor
open Go Go.Vo
open Nat (reduceAdd reduceSub reduceMul reduceLeDiff reduceLT reduceEqDiff)
open Int (reduceNeg)

abbrev ints (p:List Int):List AV:=p.map (.i .i64)
theorem E9 {pre g:List AObj} {sz n:Nat} {out:AV} {cells:List AV} (ho:fD sz pre.length g out cells n) (hp:persL cells=true):Fin (pre++g) out (.sl cells n):=by
 rcases ho with ⟨rfl,rfl,rfl⟩ | ⟨i,rfl,hi,hl⟩
 · exact .inr ⟨rfl,by simp [cD],by simp [cD]⟩
 · refine .inr ⟨?_,by simp [cD],by simp [cD]⟩
   show AV.sl cells n=fU dep (pre++g) (.hs (i+pre.length) 0 n false)
   have hg:(pre++g)[i+pre.length]? = some (.arr false sz cells):=by
     rw [aF (by omega)]; simpa using hi
   have hd:(cells.drop 0).take (n * sz)=cells:=by rw [dX,aJ (by omega)]
   simp only [fS,pers,qX,hg,hd,hp,if_true,aH,if_false]
   rw [if_pos (by omega)]
theorem aMz (p:List Int) (hp:p.length≤1000000): CT 119 [.sl (ints p) p.length] (.own 1 (ints p) p.length):=by
 refine aQ mixed Tryz.func119 g0 ?_
 · skip
   refine aVn (fun h=>?_) ?_
   · refine zg ?_
     obtain rfl:=bO.1 h
     exact yQ (pre:=[]) (g:=[]) (.inl ⟨rfl,rfl,rfl⟩) fX
   · (repeat' (first | refine gT ?_ ?_ | refine gF ?_ ?_ | refine gC ?_ ?_ | refine bM (by omega) ?_ | (intro hr; have hc:=hr; (try simp only [zdz] at hc); simp -implicitDefEqProofs (disch:=omega) only [hr,go_sem,↓reduceIte,reduceAdd,reduceSub,reduceMul,reduceLeDiff,reduceLT,reduceEqDiff,reduceNeg,Nat.reduceBEq]; (try clear hr))))
     · cases hc
     · exact yQ (pre:=[]) (g:=[.arr false 1 (ints p)]) (.inr ⟨0,rfl,rfl,by simp [ints]⟩) fX
theorem aMy (p:List Int) (hp:p.length≤1000000): CT 119 [.sl (ints p) p.length] (.sl (ints p) p.length):=by
 refine aQ mixed Tryz.func119 g0 ?_
 · skip
   refine aVn (fun h=>?_) ?_
   · refine zg ?_
     obtain rfl:=bO.1 h
     exact E9 (pre:=[]) (g:=[]) (sz:=1) (.inl ⟨rfl,rfl,rfl⟩) fX
   · (repeat' (first | refine gT ?_ ?_ | refine gF ?_ ?_ | refine gC ?_ ?_ | refine bM (by omega) ?_ | (intro hr; have hc:=hr; (try simp only [zdz] at hc); simp -implicitDefEqProofs (disch:=omega) only [hr,go_sem,↓reduceIte,reduceAdd,reduceSub,reduceMul,reduceLeDiff,reduceLT,reduceEqDiff,reduceNeg,Nat.reduceBEq]; (try clear hr))))
     · cases hc
     · exact E9 (pre:=[]) (g:=[.arr false 1 (ints p)]) (.inr ⟨0,rfl,rfl,by simp [ints]⟩) fX
def lO (g g':List AObj):Prop:=∀ (i:Nat) (o:AObj),g[i]? = some o→(∀ c:List AV,o ≠ .arr false 10 c)→g'[i]? = some o
theorem lO.refl (g:List AObj):lO g g:=fun _ _ h _=>h
theorem lO.trans {a b c:List AObj} (h:lO a b) (k:lO b c):lO a c:=fun i o x y=>k i o (h i o x y) y
theorem lO.app (g m:List AObj):lO g (g++m):=fun i o x _=>by rw [aC (aK x)]; exact x
abbrev aBh (l:List LAsk) (g:List AObj):AV→List AObj→Prop:=fun r h'=>r=.tup []∧∃ out' g',h'=.box false [out']::g'∧fD 10 1 g' out' (l.flatMap aL) l.length∧lO g g'
theorem bBl (a:LAsk):aL a=[.sl (ints a.path) a.path.length,.i .i64 a.test.op,.i .i64 a.test.term.kind,.i .i64 a.test.term.n,.s a.test.term.text,.s a.test.term.sort,.sl (a.test.term.kids.flatMap aE) a.test.term.kids.length,.sl (a.test.term.rest.flatMap aE) a.test.term.rest.length,.s a.test.text,.i .i64 a.test.n]:=rfl
theorem bIq (te:LTest) (p:List Int) (g:List AObj) (A B:Nat) (hA:g[A]? = some (.box false [.ptr 0 0])) (hB:g[B]? = some (.box false [.sl (ints p) p.length])) (ht:OkT te.term) (hp:p.length≤1000000): ACalls Tryz.prog G0 131 [.agg (fY te),.ptr (A+1) 0,.ptr (B+1) 0] (.box false [.e0]::g) (aBh [⟨p,te⟩] g):=by
 refine hJ (rx:=true) (th:=fun i=>if i=1 then some ⟨some (g.length+2),[],false,true,false,[10],[],0⟩ else none) mixed Tryz.func131 ?_
 · simp -implicitDefEqProofs (disch:=omega) only [Tryz.f131,go_sem,List.replicate,↓reduceIte,reduceAdd,reduceSub,reduceMul,reduceLeDiff,reduceLT,reduceEqDiff,reduceNeg,Nat.reduceBEq,fY,avt]
   have hA1:=aK hA
   have hB1:=aK hB
   have hAm:∀ m:List AObj,(g++m)[A]? = some (.box false [.ptr 0 0]):=fun m=>by rw [aC hA1]; exact hA
   have hBm:∀ m:List AObj,(g++m)[B]? = some (.box false [.sl (ints p) p.length]):=fun m=>by rw [aC hB1]; exact hB
   have hA2:(A+1 < g.length+2)=True:=eq_true (by omega)
   have hB2:(B+1 < g.length+2)=True:=eq_true (by omega)
   refine zh (zA2 hA (zA2 hB (zA2 hAm (zA2 hBm (zA2 hA2 (zA2 hB2 (zA2 true_and and_true))))))) ?_
   (repeat' (first | refine gT ?_ ?_ | refine gF ?_ ?_ | refine gC ?_ ?_ | ((refine bI (aMy p hp) ?_ ?_; (focus (simp -implicitDefEqProofs (disch:=omega) only [hA,hB,hAm,hBm,hA2,hB2,true_and,and_true,gI,zdB,go_sem,↓reduceIte,reduceAdd,reduceSub,reduceMul,reduceLeDiff,reduceLT,reduceEqDiff,reduceNeg,Nat.reduceBEq]; done))); simp -implicitDefEqProofs (disch:=omega) only [hA,hB,hAm,hBm,hA2,hB2,true_and,and_true,gI,go_sem,↓reduceIte,reduceAdd,reduceSub,reduceMul,reduceLeDiff,reduceLT,reduceEqDiff,reduceNeg,Nat.reduceBEq]) | refine bM (by omega) ?_ | (intro hr; have hc:=hr; (try simp only [zdz] at hc); simp -implicitDefEqProofs (disch:=omega) only [hr,hA,hB,hAm,hBm,hA2,hB2,true_and,and_true,gI,go_sem,↓reduceIte,reduceAdd,reduceSub,reduceMul,reduceLeDiff,reduceLT,reduceEqDiff,reduceNeg,Nat.reduceBEq]; (try clear hr))))
   refine ⟨rfl,_,_,rfl,.inr ⟨g.length+2,rfl,by rw [aF (by omega)]; simp [bBl],by simp [aL]⟩,.app _ _⟩
theorem bBt {g more:List AObj} {q:Nat} {l:List LAsk} {a:LAsk} (hi:g[q]? = some (.arr false 10 (l.flatMap aL))) (hm:more.length=2):aBh (l++[a]) g (.tup []) (.box false [.hs (g.length+2+1) 0 (l.length+1) false]::((g++more).set q .dead++[.arr false 10 (l.flatMap aL++aL a)])):=by
 have hq:=aK hi
 refine ⟨rfl,_,_,rfl,.inr ⟨g.length+2,?_,?_,?_⟩,?_⟩
 · rw [aG]; rfl
 · rw [aF (by simp; omega)]; simp [hm]
 · rw [vY]
 · intro i o hio hn
   have hio':=aK hio
   have hne:q ≠ i:=by rintro rfl; rw [hi] at hio; cases hio; exact hn _ rfl
   rw [aC (by simp; omega),dE hne,aC hio']
   exact hio
theorem bIp (te:LTest) (p:List Int) (l:List LAsk) (q:Nat) (g:List AObj) (A B:Nat) (hA:g[A]? = some (.box false [.ptr 0 0])) (hB:g[B]? = some (.box false [.sl (ints p) p.length])) (ht:OkT te.term) (hp:p.length≤1000000) (hl:l.length≤1000000) (hi:g[q]? = some (.arr false 10 (l.flatMap aL))): ACalls Tryz.prog G0 131 [.agg (fY te),.ptr (A+1) 0,.ptr (B+1) 0] (.box false [.hs (q+1) 0 l.length false]::g) (aBh (l++[⟨p,te⟩]) g):=by
 refine hJ (rx:=true) (th:=fun i=>if i=1 then some ⟨some (g.length+2),[q+1],false,true,false,[10],[],0⟩ else none) mixed Tryz.func131 ?_
 · simp -implicitDefEqProofs (disch:=omega) only [Tryz.f131,go_sem,List.replicate,↓reduceIte,reduceAdd,reduceSub,reduceMul,reduceLeDiff,reduceLT,reduceEqDiff,reduceNeg,Nat.reduceBEq,fY,avt]
   have hA1:=aK hA
   have hB1:=aK hB
   have hAm:∀ m:List AObj,(g++m)[A]? = some (.box false [.ptr 0 0]):=fun m=>by rw [aC hA1]; exact hA
   have hBm:∀ m:List AObj,(g++m)[B]? = some (.box false [.sl (ints p) p.length]):=fun m=>by rw [aC hB1]; exact hB
   have hA2:(A+1 < g.length+2)=True:=eq_true (by omega)
   have hB2:(B+1 < g.length+2)=True:=eq_true (by omega)
   have hAi:(A=q)=False:=eq_false (by rintro rfl; rw [hi] at hA; cases hA)
   have hBi:(B=q)=False:=eq_false (by rintro rfl; rw [hi] at hB; cases hB)
   have hq:=aK hi
   have him:∀ m:List AObj,(g++m)[q]? = some (.arr false 10 (l.flatMap aL)):=fun m=>by rw [aC hq]; exact hi
   have b1:((l.length+1) * 152≤140737488355328)=True:=eq_true (by omega)
   have b2:(l.length≤140737488355327)=True:=eq_true (by omega)
   have b3:∀ n:Nat,(n≤n)=True:=fun n=>eq_true (aX n)
   refine zh (zA2 hA (zA2 hB (zA2 hAm (zA2 hBm (zA2 hA2 (zA2 hB2 (zA2 true_and (zA2 and_true (zA2 hAi (zA2 hBi (zA2 not_false_eq_true (zA2 him (zA2 @b1 (zA2 @b2 b3)))))))))))))) ?_
   (repeat' (first | refine gT ?_ ?_ | refine gF ?_ ?_ | refine gC ?_ ?_ | ((refine bI (aMy p hp) ?_ ?_; (focus (simp -implicitDefEqProofs (disch:=omega) only [hA,hB,hAm,hBm,hA2,hB2,true_and,and_true,hAi,hBi,not_false_eq_true,him,b1,b2,b3,gI,zdB,go_sem,↓reduceIte,reduceAdd,reduceSub,reduceMul,reduceLeDiff,reduceLT,reduceEqDiff,reduceNeg,Nat.reduceBEq]; done))); simp -implicitDefEqProofs (disch:=omega) only [hA,hB,hAm,hBm,hA2,hB2,true_and,and_true,hAi,hBi,not_false_eq_true,him,b1,b2,b3,gI,go_sem,↓reduceIte,reduceAdd,reduceSub,reduceMul,reduceLeDiff,reduceLT,reduceEqDiff,reduceNeg,Nat.reduceBEq]) | refine bM (by omega) ?_ | (intro hr; have hc:=hr; (try simp only [zdz] at hc); simp -implicitDefEqProofs (disch:=omega) only [hr,hA,hB,hAm,hBm,hA2,hB2,true_and,and_true,hAi,hBi,not_false_eq_true,him,b1,b2,b3,gI,go_sem,↓reduceIte,reduceAdd,reduceSub,reduceMul,reduceLeDiff,reduceLT,reduceEqDiff,reduceNeg,Nat.reduceBEq]; (try clear hr))))
   exact bBt (a:=⟨p,te⟩) hi rfl
theorem bBu (te:LTest) (p:List Int) (l:List LAsk) (out:AV) (g:List AObj) (A B:Nat) (hA:g[A]? = some (.box false [.ptr 0 0])) (hB:g[B]? = some (.box false [.sl (ints p) p.length])) (ht:OkT te.term) (hp:p.length≤1000000) (hl:l.length≤1000000) (ho:fD 10 1 g out (l.flatMap aL) l.length) :
   ACalls Tryz.prog G0 131 [.agg (fY te),.ptr (A+1) 0,.ptr (B+1) 0] (.box false [out]::g) (aBh (l++[⟨p,te⟩]) g):=by
 rcases ho with ⟨rfl,_,h⟩ | ⟨q,rfl,hi,_⟩
 · obtain rfl:=bO.1 h
   exact bIq te p g A B hA hB ht hp
 · exact bIp te p l q g A B hA hB ht hp hl hi

theorem oB {g g':List AObj} {i:Nat} {o:AObj} (h:lO g g') (hi:g[i]? = some o) (ho:∀ c:List AV,o ≠ .arr false 10 c):g'[i]? = some o:=h i o hi ho
theorem K9 {k:IntKind}:∀ {p:List Int},(p.map (AV.i k)).all aAj=true
 | []=>rfl
 | a::l=>by rw [aO,hY,K9 (p:=l)]; rfl
theorem aFq:OkT zT:=.mk (by simp [LTerm.text]) (by simp [LTerm.sort]) (by simp [LTerm.n]) (by simp [LTerm.n]) (by simp [LTerm.kids]) (by simp [LTerm.rest]) (by simp [LTerm.kids]) (by simp [LTerm.rest])
theorem G6 {t:LTerm} {te:LTest} {p:List Int} {l:List LAsk} {out:AV} {g:List AObj} {cs:List AV} (ht:OkT te.term) (hp:p.length≤1000000) (hl:l.length≤1000000) (ho:fD 10 1 g out (l.flatMap aL) l.length) (hc:cs=fY te) :
   ACalls Tryz.prog G0 131 [.agg cs,.ptr (g.length+1) 0,.ptr (g.length+2+1) 0] (.box false [out]::(g++[.box false [.ptr 0 0],.box false [.i .i64 (t).kind,.i .i64 (t).n,.s (t).text,.s (t).sort,.sl ((t).kids.flatMap aE) (t).kids.length,.sl ((t).rest.flatMap aE) (t).rest.length],.box false [.sl (ints p) p.length]])) (aBh (l++[⟨p,te⟩]) (g++[.box false [.ptr 0 0],.box false [.i .i64 (t).kind,.i .i64 (t).n,.s (t).text,.s (t).sort,.sl ((t).kids.flatMap aE) (t).kids.length,.sl ((t).rest.flatMap aE) (t).rest.length],.box false [.sl (ints p) p.length]])):=by
 subst hc
 exact bBu te p l out _ g.length (g.length+2) (by simp) (by simp) ht hp hl (ho.more _)
theorem aPh (t:LTerm) (p:List Int) (l:List LAsk) (out:AV) (g:List AObj) (ht:OkT t) (hp:p.length≤1000000) (hl:l.length≤1000000) (ho:fD 10 1 g out (l.flatMap aL) l.length) (h5:¬ t.kind=5) (h7:¬ t.kind=7): ACalls Tryz.prog G0 77 [.ptr 0 0,elT t,.sl (ints p) p.length] (.box false [out]::g) (aBh (l++dI t p) g):=by
 refine fO (rx:=true) (th:=fun i=>if i=19 then some ⟨none,[],true,true,true,[],[],0⟩ else none) mixed Tryz.func77 rfl (by kernel_rfl) (by kernel_rfl) (ac:=?_) ?_ ?_
 rotate_left
 · simp only [strip,kC,A7,RX.off,ckF,ckX,zOf,exd,vOf,bL,bB,bU,bR,bC,bS,aW,bC,dO,dK,gL,lI,bV,dQ,bJ,aU,fN,anyPre,Region.binds,bX,bY,aH,if_true,if_false,cS,cR,aM,aS,bE,aO,bL,bB,List.append_nil,aOv,xY,vO,rU,dH,bP,cA,bC,bU,bR,dM,beq_self_eq_true,iK,Nat.reduceBEq,tI,rJ,tE,jY,aLf,hX,iN,dO,dV,Z4,Z3,↓reduceIte,Nat.reduceEqDiff,Nat.reduceBEq,jX,kS,lG,splitK,yK,S2,bB,hX,iN,bX,bY,bS,aM,aW,bU,bR]
   rfl
 · simp -implicitDefEqProofs (disch:=omega) only [Tryz.f77,go_sem,List.replicate,simprocAttr]
   rw [jR,if_neg h5,if_neg h7]
   rcases (by omega:t.kind=8∨(¬ t.kind=8∧t.kind=6)∨(¬ t.kind=8∧¬ t.kind=6)) with h8 | ⟨h8,h6⟩ | ⟨h8,h6⟩
   · rw [if_pos h8]
     have h6:¬ t.kind=6:=by omega
     refine zh (zA2 (zf h5) (zA2 (zf h7) (zA2 (zt h8) (zf h6)))) ?_
     refine mY 0 rfl ?_
     refine zg ?_
     refine gB (G6 (te:=⟨5,zT,[],0⟩) (by first | exact ht | exact aFq) hp hl ho rfl) ?_
     rintro r h' ⟨rfl,out',g',rfl,ho',hs'⟩
     refine zg ?_
     exact ⟨rfl,out',g',rfl,ho',(lO.app g _).trans hs'⟩
   · rw [if_neg h8,if_pos h6]
     refine zh (zA2 (zf h5) (zA2 (zf h7) (zA2 (zf h8) (zt h6)))) ?_
     (refine zx0 (zA2 (zf h5) (zA2 (zf h7) (zA2 (zf h8) (zt h6)))) ?_; repeat' first | exact trivial | refine zJ ?_ ?_ | refine zH fun hc=>?_)
     rw [if_neg hc]
     refine mY 0 rfl ?_
     refine zg ?_
     refine gB (G6 (te:=⟨6,zT,t.sort,0⟩) (by first | exact ht | exact aFq) hp hl ho rfl) ?_
     rintro r h' ⟨rfl,out',g',rfl,ho',hs'⟩
     refine zg ?_
     exact ⟨rfl,out',g',rfl,ho',(lO.app g _).trans hs'⟩
     rw [if_pos hc,List.append_nil]
     exact ⟨rfl,out,_,rfl,ho.more _,.app _ _⟩
   · rw [if_neg h8,if_neg h6]
     refine zh (zA2 (zf h5) (zA2 (zf h7) (zA2 (zf h8) (zf h6)))) ?_
     refine gB (G6 (te:=⟨1,t,[],0⟩) (by first | exact ht | exact aFq) hp hl ho rfl) ?_
     rintro r h' ⟨rfl,out',g',rfl,ho',hs'⟩
     refine zg ?_
     exact ⟨rfl,out',g',rfl,ho',(lO.app g _).trans hs'⟩
theorem aIc (t:LTerm) (p:List Int) (l:List LAsk) (out:AV) (g:List AObj) (ht:OkT t) (hp:p.length≤1000) (hl:l.length+(testsL t.kids p 0).length < 1000000) (ho:fD 10 1 g out (l.flatMap aL) l.length) (h5:t.kind=5) (ih:∀ k,k < t.kids.length→∀ (l:List LAsk) (out:AV) (g:List AObj),l.length+(dI (t.kids.getD k default) (p++[(k:Int)])).length≤1000000→fD 10 1 g out (l.flatMap aL) l.length→ACalls Tryz.prog G0 77 [.ptr 0 0,elT (t.kids.getD k default),.sl (ints (p++[(k:Int)])) (p.length+1)] (.box false [out]::g) (aBh (l++dI (t.kids.getD k default) (p++[(k:Int)])) g)): ACalls Tryz.prog G0 77 [.ptr 0 0,elT t,.sl (ints p) p.length] (.box false [out]::g) (aBh (l++dI t p) g):=by
 refine fO (rx:=true) (th:=fun i=>if i=19 then some ⟨none,[],true,true,true,[],[],0⟩ else none) mixed Tryz.func77 rfl (by kernel_rfl) (by kernel_rfl) (ac:=?_) ?_ ?_
 rotate_left
 · simp only [strip,kC,A7,RX.off,ckF,ckX,zOf,exd,vOf,bL,bB,bU,bR,bC,bS,aW,bC,dO,dK,gL,lI,bV,dQ,bJ,aU,fN,anyPre,Region.binds,bX,bY,aH,if_true,if_false,cS,cR,aM,aS,bE,aO,bL,bB,List.append_nil,aOv,xY,vO,rU,dH,bP,cA,bC,bU,bR,dM,beq_self_eq_true,iK,Nat.reduceBEq,tI,rJ,tE,jY,aLf,hX,iN,dO,dV,Z4,Z3,↓reduceIte,Nat.reduceEqDiff,Nat.reduceBEq,jX,kS,lG,splitK,yK,S2,bB,hX,iN,bX,bY,bS,aM,aW,bU,bR]
   rfl
 · simp -implicitDefEqProofs (disch:=omega) only [Tryz.f77,go_sem,List.replicate,simprocAttr]
   rw [jR,if_pos h5]
   have hkk:=ht.kids
   have h6:¬ t.kind=6:=by omega
   refine zh (zA2 (zt h5) (zf h6)) ?_
   refine mY 0 rfl ?_
   refine zg ?_
   refine gB (G6 (te:=⟨2,zT,t.text,t.kids.length⟩) aFq (by omega) (by omega) ho rfl) ?_
   rintro r h' ⟨rfl,out1,g1,rfl,ho1,hs1⟩
   have eA:g1[g.length]? = some (.box false [.ptr 0 0]):=hs1 _ _ (by simp) (fun c h=>by cases h)
   have eT:g1[g.length+1]? = some (.box false [.i .i64 (t).kind,.i .i64 (t).n,.s (t).text,.s (t).sort,.sl ((t).kids.flatMap aE) (t).kids.length,.sl ((t).rest.flatMap aE) (t).rest.length]):=hs1 _ _ (by simp) (fun c h=>by cases h)
   have eB:g1[g.length+2]? = some (.box false [.sl (ints p) p.length]):=hs1 _ _ (by simp) (fun c h=>by cases h)
   have hs2:lO g g1:=(lO.app g _).trans hs1
   refine zh (zA2 eA (zA2 eT eB)) ?_
   refine dD (fun (s:Nat × AV × List AObj)=>[.k,.k,.k,.k,.k,.k,.k,.k,.j,.j,.k,.k,.k,.k,.k,.k,.k,.k,.k,.k,.k,.k,.k,.k,.k,.k,.k,.k,.k,.k,.k,.k,.k,.k,.k,.k,.k,.k,.k,.k,.k,.k,.k,.k,.k,.k,.k,.k,.k,.k,.k,.k,.k,.k,.k,.k,.k,.k,.v (.i .i64 (s.1:Nat)),.j,.j,.j,.j,.j,.j,.j,.j,.j,.j,.j,.j,.j]) (fun s=>(.box false [s.2.1]::s.2.2)) (fun s=>s.1≤t.kids.length∧fD 10 1 s.2.2 s.2.1 ((l++[(⟨p,⟨2,zT,t.text,t.kids.length⟩⟩:LAsk)]++testsL (t.kids.take s.1) p 0).flatMap aL) (l++[(⟨p,⟨2,zT,t.text,t.kids.length⟩⟩:LAsk)]++testsL (t.kids.take s.1) p 0).length∧lO g1 s.2.2) (fun s=>t.kids.length - s.1) ((0,out1,g1)) ⟨aT _,by simpa [testsL] using ho1,.refl _⟩ rfl (by simp [iL]) ?_
   rintro ⟨k,out,h2⟩ j ⟨hk,ho2,hs3⟩
   dsimp only at hk ho2 hs3
   have fA:=oB hs3 eA (fun c h=>by cases h)
   have fT:=oB hs3 eT (fun c h=>by cases h)
   have fB:=oB hs3 eB (fun c h=>by cases h)
   have lA:=aK fA
   have lB:=aK fB
   have mA:∀ m:List AObj,(h2++m)[g.length]? = some (.box false [.ptr 0 0]):=fun m=>by rw [aC lA]; exact fA
   have mB:∀ m:List AObj,(h2++m)[g.length+2]? = some (.box false [.sl (ints p) p.length]):=fun m=>by rw [aC lB]; exact fB
   by_cases hlt:k < t.kids.length
   · have hki:(k:Int) < ((t.kids.length:Nat):Int):=by omega
     have qA:∀ n:Nat,(g.length+1 < h2.length+(n+1))=True:=fun n=>eq_true (by omega)
     have qB:∀ n:Nat,(g.length+2+1 < h2.length+(n+1))=True:=fun n=>eq_true (by omega)
     simp -implicitDefEqProofs (disch:=omega) only [zt hki,mA,mB,fA,fB,qA,qB,true_and,and_true,go_sem,simprocAttr]
     (repeat' (first | refine gT ?_ ?_ | refine gF ?_ ?_ | refine gC ?_ ?_ | ((refine bI (aMz p (by omega)) ?_ ?_; (focus (simp -implicitDefEqProofs (disch:=omega) only [zt hki,mA,mB,fA,fB,qA,qB,true_and,and_true,zdB,go_sem,simprocAttr]; done))); simp -implicitDefEqProofs (disch:=omega) only [zt hki,mA,mB,fA,fB,qA,qB,true_and,and_true,go_sem,simprocAttr]) | refine bM (by omega) ?_ | (intro hr; have hc:=hr; (try simp only [zdz] at hc); simp -implicitDefEqProofs (disch:=omega) only [hr,zt hki,mA,mB,fA,fB,qA,qB,true_and,and_true,go_sem,simprocAttr]; (try clear hr))))
     have htl:=nY (l:=t.kids) (p:=p) (i:=0) hlt
     rw [cZ] at htl
     have hm:=rN (l:=t.kids) (p:=p) (k:=k+1)
     rw [htl,aG] at hm
     have htk:List.take (p.length+1) (List.map (AV.i IntKind.i64) p++[AV.i IntKind.i64 (k:Int)])=List.map (AV.i IntKind.i64) p++[AV.i IntKind.i64 (k:Int)]:=aJ (by simp)
     have hps:persL (List.map (AV.i IntKind.i64) p++[AV.i IntKind.i64 (k:Int)])=true:=by rw [kD,fX]; rfl
     have hea:(List.map (AV.i IntKind.i64) p++[AV.i IntKind.i64 (k:Int)]).all aAj=true:=by rw [jZ,K9]; rfl
     refine mY 2 rfl ?_
     refine zh (zA2 htk (zA2 hps hea)) ?_
     have ci:=ih k hlt (l++[(⟨p,⟨2,zT,t.text,t.kids.length⟩⟩:LAsk)]++testsL (t.kids.take k) p 0) out (h2++[.box false [.i .i64 (t.kids.getD k default).kind,.i .i64 (t.kids.getD k default).n,.s (t.kids.getD k default).text,.s (t.kids.getD k default).sort,.sl ((t.kids.getD k default).kids.flatMap aE) (t.kids.getD k default).kids.length,.sl ((t.kids.getD k default).rest.flatMap aE) (t.kids.getD k default).rest.length],.dead,.arr true 1 (ints p++[.i .i64 (k:Int)])]) (by simp only [aG,aD,aY]; omega) (ho2.more _)
     simp only [ints,bF,aO,bE,elT,bT,avt] at ci
     refine gB ci ?_
     rintro r h' ⟨rfl,out3,h3,rfl,ho3,hs4⟩
     refine zg ?_
     refine ⟨(k+1,out3,h3),⟨by dsimp only; omega,?_,hs3.trans ((lO.app _ _).trans hs4)⟩,by dsimp only; omega,rfl,by simp⟩
     dsimp only
     rw [htl]
     rw [bW,bW,aBd,aG,aD] at ho3
     exact ho3
   · have hki:¬ (k:Int) < ((t.kids.length:Nat):Int):=by omega
     have hkt:t.kids.take k=t.kids:=aJ (by omega)
     rw [hkt] at ho2
     refine zh (zf hki) ?_
     exact ⟨rfl,out,h2,rfl,by simpa using ho2,hs2.trans hs3⟩
theorem aEw (t:LTerm) (p:List Int) (l:List LAsk) (out:AV) (g:List AObj) (ht:OkT t) (hp:p.length≤1000) (hl:l.length+(testsL t.kids p 0).length < 1000000) (ho:fD 10 1 g out (l.flatMap aL) l.length) (h7:t.kind=7) (hr:0 < t.rest.length) (ih:∀ k,k < t.kids.length→∀ (l:List LAsk) (out:AV) (g:List AObj),l.length+(dI (t.kids.getD k default) (p++[(k:Int)])).length≤1000000→fD 10 1 g out (l.flatMap aL) l.length→ACalls Tryz.prog G0 77 [.ptr 0 0,elT (t.kids.getD k default),.sl (ints (p++[(k:Int)])) (p.length+1)] (.box false [out]::g) (aBh (l++dI (t.kids.getD k default) (p++[(k:Int)])) g)): ACalls Tryz.prog G0 77 [.ptr 0 0,elT t,.sl (ints p) p.length] (.box false [out]::g) (aBh (l++dI t p) g):=by
 refine fO (rx:=true) (th:=fun i=>if i=19 then some ⟨none,[],true,true,true,[],[],0⟩ else none) mixed Tryz.func77 rfl (by kernel_rfl) (by kernel_rfl) (ac:=?_) ?_ ?_
 rotate_left
 · simp only [strip,kC,A7,RX.off,ckF,ckX,zOf,exd,vOf,bL,bB,bU,bR,bC,bS,aW,bC,dO,dK,gL,lI,bV,dQ,bJ,aU,fN,anyPre,Region.binds,bX,bY,aH,if_true,if_false,cS,cR,aM,aS,bE,aO,bL,bB,List.append_nil,aOv,xY,vO,rU,dH,bP,cA,bC,bU,bR,dM,beq_self_eq_true,iK,Nat.reduceBEq,tI,rJ,tE,jY,aLf,hX,iN,dO,dV,Z4,Z3,↓reduceIte,Nat.reduceEqDiff,Nat.reduceBEq,jX,kS,lG,splitK,yK,S2,bB,hX,iN,bX,bY,bS,aM,aW,bU,bR]
   rfl
 · simp -implicitDefEqProofs (disch:=omega) only [Tryz.f77,go_sem,List.replicate,simprocAttr]
   have h5:¬ t.kind=5:=by omega
   have h6:¬ t.kind=6:=by omega
   have hri:(0:Int) < ((t.rest.length:Nat):Int):=by omega
   rw [jR,if_neg h5,if_pos h7,if_pos hr]
   have hkk:=ht.kids
   refine zh (zA2 (zf h5) (zA2 (zf h6) (zA2 (zt h7) (zt hri)))) ?_
   (refine zx0 (zA2 (zf h5) (zA2 (zf h6) (zA2 (zt h7) (zt hri)))) ?_; repeat' first | exact trivial | refine zJ ?_ ?_ | refine zH fun hc=>?_)
   refine mY 0 rfl ?_
   refine zg ?_
   refine gB (G6 (te:=⟨4,zT,[],t.kids.length⟩) aFq (by omega) (by omega) ho rfl) ?_
   rintro r h' ⟨rfl,out1,g1,rfl,ho1,hs1⟩
   have eA:g1[g.length]? = some (.box false [.ptr 0 0]):=hs1 _ _ (by simp) (fun c h=>by cases h)
   have eT:g1[g.length+1]? = some (.box false [.i .i64 (t).kind,.i .i64 (t).n,.s (t).text,.s (t).sort,.sl ((t).kids.flatMap aE) (t).kids.length,.sl ((t).rest.flatMap aE) (t).rest.length]):=hs1 _ _ (by simp) (fun c h=>by cases h)
   have eB:g1[g.length+2]? = some (.box false [.sl (ints p) p.length]):=hs1 _ _ (by simp) (fun c h=>by cases h)
   have hs2:lO g g1:=(lO.app g _).trans hs1
   refine zh (zA2 eA (zA2 eT eB)) ?_
   refine dD (fun (s:Nat × AV × List AObj)=>[.k,.k,.k,.k,.k,.k,.k,.k,.j,.j,.k,.k,.k,.k,.k,.k,.k,.k,.k,.k,.k,.k,.k,.k,.k,.k,.k,.k,.k,.k,.k,.k,.k,.k,.k,.k,.k,.k,.k,.k,.k,.k,.k,.k,.k,.k,.k,.k,.k,.k,.k,.k,.k,.k,.k,.k,.k,.k,.v (.i .i64 (s.1:Nat)),.j,.j,.j,.j,.j,.j,.j,.j,.j,.j,.j,.j,.j]) (fun s=>(.box false [s.2.1]::s.2.2)) (fun s=>s.1≤t.kids.length∧fD 10 1 s.2.2 s.2.1 ((l++[(⟨p,⟨4,zT,[],t.kids.length⟩⟩:LAsk)]++testsL (t.kids.take s.1) p 0).flatMap aL) (l++[(⟨p,⟨4,zT,[],t.kids.length⟩⟩:LAsk)]++testsL (t.kids.take s.1) p 0).length∧lO g1 s.2.2) (fun s=>t.kids.length - s.1) ((0,out1,g1)) ⟨aT _,by simpa [testsL] using ho1,.refl _⟩ rfl (by simp [iL]) ?_
   rintro ⟨k,out,h2⟩ j ⟨hk,ho2,hs3⟩
   dsimp only at hk ho2 hs3
   have fA:=oB hs3 eA (fun c h=>by cases h)
   have fT:=oB hs3 eT (fun c h=>by cases h)
   have fB:=oB hs3 eB (fun c h=>by cases h)
   have lA:=aK fA
   have lB:=aK fB
   have mA:∀ m:List AObj,(h2++m)[g.length]? = some (.box false [.ptr 0 0]):=fun m=>by rw [aC lA]; exact fA
   have mB:∀ m:List AObj,(h2++m)[g.length+2]? = some (.box false [.sl (ints p) p.length]):=fun m=>by rw [aC lB]; exact fB
   by_cases hlt:k < t.kids.length
   · have hki:(k:Int) < ((t.kids.length:Nat):Int):=by omega
     have qA:∀ n:Nat,(g.length+1 < h2.length+(n+1))=True:=fun n=>eq_true (by omega)
     have qB:∀ n:Nat,(g.length+2+1 < h2.length+(n+1))=True:=fun n=>eq_true (by omega)
     simp -implicitDefEqProofs (disch:=omega) only [zt hki,mA,mB,fA,fB,qA,qB,true_and,and_true,go_sem,simprocAttr]
     (repeat' (first | refine gT ?_ ?_ | refine gF ?_ ?_ | refine gC ?_ ?_ | ((refine bI (aMz p (by omega)) ?_ ?_; (focus (simp -implicitDefEqProofs (disch:=omega) only [zt hki,mA,mB,fA,fB,qA,qB,true_and,and_true,zdB,go_sem,simprocAttr]; done))); simp -implicitDefEqProofs (disch:=omega) only [zt hki,mA,mB,fA,fB,qA,qB,true_and,and_true,go_sem,simprocAttr]) | refine bM (by omega) ?_ | (intro hr; have hc:=hr; (try simp only [zdz] at hc); simp -implicitDefEqProofs (disch:=omega) only [hr,zt hki,mA,mB,fA,fB,qA,qB,true_and,and_true,go_sem,simprocAttr]; (try clear hr))))
     have htl:=nY (l:=t.kids) (p:=p) (i:=0) hlt
     rw [cZ] at htl
     have hm:=rN (l:=t.kids) (p:=p) (k:=k+1)
     rw [htl,aG] at hm
     have htk:List.take (p.length+1) (List.map (AV.i IntKind.i64) p++[AV.i IntKind.i64 (k:Int)])=List.map (AV.i IntKind.i64) p++[AV.i IntKind.i64 (k:Int)]:=aJ (by simp)
     have hps:persL (List.map (AV.i IntKind.i64) p++[AV.i IntKind.i64 (k:Int)])=true:=by rw [kD,fX]; rfl
     have hea:(List.map (AV.i IntKind.i64) p++[AV.i IntKind.i64 (k:Int)]).all aAj=true:=by rw [jZ,K9]; rfl
     refine mY 2 rfl ?_
     refine zh (zA2 htk (zA2 hps hea)) ?_
     have ci:=ih k hlt (l++[(⟨p,⟨4,zT,[],t.kids.length⟩⟩:LAsk)]++testsL (t.kids.take k) p 0) out (h2++[.box false [.i .i64 (t.kids.getD k default).kind,.i .i64 (t.kids.getD k default).n,.s (t.kids.getD k default).text,.s (t.kids.getD k default).sort,.sl ((t.kids.getD k default).kids.flatMap aE) (t.kids.getD k default).kids.length,.sl ((t.kids.getD k default).rest.flatMap aE) (t.kids.getD k default).rest.length],.dead,.arr true 1 (ints p++[.i .i64 (k:Int)])]) (by simp only [aG,aD,aY]; omega) (ho2.more _)
     simp only [ints,bF,aO,bE,elT,bT,avt] at ci
     refine gB ci ?_
     rintro r h' ⟨rfl,out3,h3,rfl,ho3,hs4⟩
     refine zg ?_
     refine ⟨(k+1,out3,h3),⟨by dsimp only; omega,?_,hs3.trans ((lO.app _ _).trans hs4)⟩,by dsimp only; omega,rfl,by simp⟩
     dsimp only
     rw [htl]
     rw [bW,bW,aBd,aG,aD] at ho3
     exact ho3
   · have hki:¬ (k:Int) < ((t.kids.length:Nat):Int):=by omega
     have hkt:t.kids.take k=t.kids:=aJ (by omega)
     rw [hkt] at ho2
     refine zh (zf hki) ?_
     exact ⟨rfl,out,h2,rfl,by simpa using ho2,hs2.trans hs3⟩
theorem aEv (t:LTerm) (p:List Int) (l:List LAsk) (out:AV) (g:List AObj) (ht:OkT t) (hp:p.length≤1000) (hl:l.length+(testsL t.kids p 0).length < 1000000) (ho:fD 10 1 g out (l.flatMap aL) l.length) (h7:t.kind=7) (hr:¬ 0 < t.rest.length) (ih:∀ k,k < t.kids.length→∀ (l:List LAsk) (out:AV) (g:List AObj),l.length+(dI (t.kids.getD k default) (p++[(k:Int)])).length≤1000000→fD 10 1 g out (l.flatMap aL) l.length→ACalls Tryz.prog G0 77 [.ptr 0 0,elT (t.kids.getD k default),.sl (ints (p++[(k:Int)])) (p.length+1)] (.box false [out]::g) (aBh (l++dI (t.kids.getD k default) (p++[(k:Int)])) g)): ACalls Tryz.prog G0 77 [.ptr 0 0,elT t,.sl (ints p) p.length] (.box false [out]::g) (aBh (l++dI t p) g):=by
 refine fO (rx:=true) (th:=fun i=>if i=19 then some ⟨none,[],true,true,true,[],[],0⟩ else none) mixed Tryz.func77 rfl (by kernel_rfl) (by kernel_rfl) (ac:=?_) ?_ ?_
 rotate_left
 · simp only [strip,kC,A7,RX.off,ckF,ckX,zOf,exd,vOf,bL,bB,bU,bR,bC,bS,aW,bC,dO,dK,gL,lI,bV,dQ,bJ,aU,fN,anyPre,Region.binds,bX,bY,aH,if_true,if_false,cS,cR,aM,aS,bE,aO,bL,bB,List.append_nil,aOv,xY,vO,rU,dH,bP,cA,bC,bU,bR,dM,beq_self_eq_true,iK,Nat.reduceBEq,tI,rJ,tE,jY,aLf,hX,iN,dO,dV,Z4,Z3,↓reduceIte,Nat.reduceEqDiff,Nat.reduceBEq,jX,kS,lG,splitK,yK,S2,bB,hX,iN,bX,bY,bS,aM,aW,bU,bR]
   rfl
 · simp -implicitDefEqProofs (disch:=omega) only [Tryz.f77,go_sem,List.replicate,simprocAttr]
   have h5:¬ t.kind=5:=by omega
   have h6:¬ t.kind=6:=by omega
   have hri:¬ (0:Int) < ((t.rest.length:Nat):Int):=by omega
   rw [jR,if_neg h5,if_pos h7,if_neg hr]
   have hkk:=ht.kids
   refine zh (zA2 (zf h5) (zA2 (zf h6) (zA2 (zt h7) (zf hri)))) ?_
   (refine zx0 (zA2 (zf h5) (zA2 (zf h6) (zA2 (zt h7) (zf hri)))) ?_; repeat' first | exact trivial | refine zJ ?_ ?_ | refine zH fun hc=>?_)
   refine mY 0 rfl ?_
   refine zg ?_
   refine gB (G6 (te:=⟨3,zT,[],t.kids.length⟩) aFq (by omega) (by omega) ho rfl) ?_
   rintro r h' ⟨rfl,out1,g1,rfl,ho1,hs1⟩
   have eA:g1[g.length]? = some (.box false [.ptr 0 0]):=hs1 _ _ (by simp) (fun c h=>by cases h)
   have eT:g1[g.length+1]? = some (.box false [.i .i64 (t).kind,.i .i64 (t).n,.s (t).text,.s (t).sort,.sl ((t).kids.flatMap aE) (t).kids.length,.sl ((t).rest.flatMap aE) (t).rest.length]):=hs1 _ _ (by simp) (fun c h=>by cases h)
   have eB:g1[g.length+2]? = some (.box false [.sl (ints p) p.length]):=hs1 _ _ (by simp) (fun c h=>by cases h)
   have hs2:lO g g1:=(lO.app g _).trans hs1
   refine zh (zA2 eA (zA2 eT eB)) ?_
   refine dD (fun (s:Nat × AV × List AObj)=>[.k,.k,.k,.k,.k,.k,.k,.k,.j,.j,.k,.k,.k,.k,.k,.k,.k,.k,.k,.k,.k,.k,.k,.k,.k,.k,.k,.k,.k,.k,.k,.k,.k,.k,.k,.k,.k,.k,.k,.k,.k,.k,.k,.k,.k,.k,.k,.k,.k,.k,.k,.k,.k,.k,.k,.k,.k,.k,.v (.i .i64 (s.1:Nat)),.j,.j,.j,.j,.j,.j,.j,.j,.j,.j,.j,.j,.j]) (fun s=>(.box false [s.2.1]::s.2.2)) (fun s=>s.1≤t.kids.length∧fD 10 1 s.2.2 s.2.1 ((l++[(⟨p,⟨3,zT,[],t.kids.length⟩⟩:LAsk)]++testsL (t.kids.take s.1) p 0).flatMap aL) (l++[(⟨p,⟨3,zT,[],t.kids.length⟩⟩:LAsk)]++testsL (t.kids.take s.1) p 0).length∧lO g1 s.2.2) (fun s=>t.kids.length - s.1) ((0,out1,g1)) ⟨aT _,by simpa [testsL] using ho1,.refl _⟩ rfl (by simp [iL]) ?_
   rintro ⟨k,out,h2⟩ j ⟨hk,ho2,hs3⟩
   dsimp only at hk ho2 hs3
   have fA:=oB hs3 eA (fun c h=>by cases h)
   have fT:=oB hs3 eT (fun c h=>by cases h)
   have fB:=oB hs3 eB (fun c h=>by cases h)
   have lA:=aK fA
   have lB:=aK fB
   have mA:∀ m:List AObj,(h2++m)[g.length]? = some (.box false [.ptr 0 0]):=fun m=>by rw [aC lA]; exact fA
   have mB:∀ m:List AObj,(h2++m)[g.length+2]? = some (.box false [.sl (ints p) p.length]):=fun m=>by rw [aC lB]; exact fB
   by_cases hlt:k < t.kids.length
   · have hki:(k:Int) < ((t.kids.length:Nat):Int):=by omega
     have qA:∀ n:Nat,(g.length+1 < h2.length+(n+1))=True:=fun n=>eq_true (by omega)
     have qB:∀ n:Nat,(g.length+2+1 < h2.length+(n+1))=True:=fun n=>eq_true (by omega)
     simp -implicitDefEqProofs (disch:=omega) only [zt hki,mA,mB,fA,fB,qA,qB,true_and,and_true,go_sem,simprocAttr]
     (repeat' (first | refine gT ?_ ?_ | refine gF ?_ ?_ | refine gC ?_ ?_ | ((refine bI (aMz p (by omega)) ?_ ?_; (focus (simp -implicitDefEqProofs (disch:=omega) only [zt hki,mA,mB,fA,fB,qA,qB,true_and,and_true,zdB,go_sem,simprocAttr]; done))); simp -implicitDefEqProofs (disch:=omega) only [zt hki,mA,mB,fA,fB,qA,qB,true_and,and_true,go_sem,simprocAttr]) | refine bM (by omega) ?_ | (intro hr; have hc:=hr; (try simp only [zdz] at hc); simp -implicitDefEqProofs (disch:=omega) only [hr,zt hki,mA,mB,fA,fB,qA,qB,true_and,and_true,go_sem,simprocAttr]; (try clear hr))))
     have htl:=nY (l:=t.kids) (p:=p) (i:=0) hlt
     rw [cZ] at htl
     have hm:=rN (l:=t.kids) (p:=p) (k:=k+1)
     rw [htl,aG] at hm
     have htk:List.take (p.length+1) (List.map (AV.i IntKind.i64) p++[AV.i IntKind.i64 (k:Int)])=List.map (AV.i IntKind.i64) p++[AV.i IntKind.i64 (k:Int)]:=aJ (by simp)
     have hps:persL (List.map (AV.i IntKind.i64) p++[AV.i IntKind.i64 (k:Int)])=true:=by rw [kD,fX]; rfl
     have hea:(List.map (AV.i IntKind.i64) p++[AV.i IntKind.i64 (k:Int)]).all aAj=true:=by rw [jZ,K9]; rfl
     refine mY 2 rfl ?_
     refine zh (zA2 htk (zA2 hps hea)) ?_
     have ci:=ih k hlt (l++[(⟨p,⟨3,zT,[],t.kids.length⟩⟩:LAsk)]++testsL (t.kids.take k) p 0) out (h2++[.box false [.i .i64 (t.kids.getD k default).kind,.i .i64 (t.kids.getD k default).n,.s (t.kids.getD k default).text,.s (t.kids.getD k default).sort,.sl ((t.kids.getD k default).kids.flatMap aE) (t.kids.getD k default).kids.length,.sl ((t.kids.getD k default).rest.flatMap aE) (t.kids.getD k default).rest.length],.dead,.arr true 1 (ints p++[.i .i64 (k:Int)])]) (by simp only [aG,aD,aY]; omega) (ho2.more _)
     simp only [ints,bF,aO,bE,elT,bT,avt] at ci
     refine gB ci ?_
     rintro r h' ⟨rfl,out3,h3,rfl,ho3,hs4⟩
     refine zg ?_
     refine ⟨(k+1,out3,h3),⟨by dsimp only; omega,?_,hs3.trans ((lO.app _ _).trans hs4)⟩,by dsimp only; omega,rfl,by simp⟩
     dsimp only
     rw [htl]
     rw [bW,bW,aBd,aG,aD] at ho3
     exact ho3
   · have hki:¬ (k:Int) < ((t.kids.length:Nat):Int):=by omega
     have hkt:t.kids.take k=t.kids:=aJ (by omega)
     rw [hkt] at ho2
     refine zh (zf hki) ?_
     exact ⟨rfl,out,h2,rfl,by simpa using ho2,hs2.trans hs3⟩
theorem bFr:∀ t:LTerm,OkT t→∀ (p:List Int) (l:List LAsk) (out:AV) (g:List AObj),p.length+highT t≤1000→l.length+(dI t p).length≤1000000→fD 10 1 g out (l.flatMap aL) l.length→ACalls Tryz.prog G0 77 [.ptr 0 0,elT t,.sl (ints p) p.length] (.box false [out]::g) (aBh (l++dI t p) g):=
 fR (Q := fun t=>OkT t→∀ (p:List Int) (l:List LAsk) (out:AV) (g:List AObj),p.length+highT t≤1000→l.length+(dI t p).length≤1000000→fD 10 1 g out (l.flatMap aL) l.length→ACalls Tryz.prog G0 77 [.ptr 0 0,elT t,.sl (ints p) p.length] (.box false [out]::g) (aBh (l++dI t p) g)) fun t hk _ ht p l out g hp hn ho=>by
   have hH:∀ (l:List LTerm) (k:Nat),k < l.length→highT (l.getD k default)≤highL l:=by
     intro l
     induction l with
     | nil=>intro k h; simp at h
     | cons x l ih=>
       intro k h
       rw [highL]
       cases k with
       | zero=>simp only [iT]; omega
       | succ k=>have:=ih k (by simpa using h); simp only [List.getD_cons_succ]; omega
   have e:=wR t
   by_cases h57:t.kind=5∨t.kind=7
   · have hr:=aEr (p:=p) h57
     have ih:∀ k,k < t.kids.length→∀ (l:List LAsk) (out:AV) (g:List AObj),l.length+(dI (t.kids.getD k default) (p++[(k:Int)])).length≤1000000→fD 10 1 g out (l.flatMap aL) l.length→ACalls Tryz.prog G0 77 [.ptr 0 0,elT (t.kids.getD k default),.sl (ints (p++[(k:Int)])) (p.length+1)] (.box false [out]::g) (aBh (l++dI (t.kids.getD k default) (p++[(k:Int)])) g):=fun k h l out g hn ho=>by
       have h1:=hH t.kids k h
       have:=hk _ (cC (d:=default) h) (ht.kid _ (cC (d:=default) h)) (p++[(k:Int)]) l out g (by simp only [aG,aD,aY]; omega) hn ho
       rw [aG] at this
       exact this
     rcases h57 with h5 | h7
     · exact aIc t p l out g ht (by omega) (by omega) ho h5 ih
     · by_cases hrest:0 < t.rest.length
       · exact aEw t p l out g ht (by omega) (by omega) ho h7 hrest ih
       · exact aEv t p l out g ht (by omega) (by omega) ho h7 hrest ih
   · exact aPh t p l out g ht (by omega) (by omega) ho (fun h=>h57 (.inl h)) (fun h=>h57 (.inr h))
theorem F5 (t:LTerm) (ht:OkT t) (hp:highT t≤1000) (hn:(dI t []).length≤1000000): CT 43 [elT t] (ava (dI t [])):=by
 refine aQ mixed Tryz.func43 g0 ?_
 · skip
   have c:=bFr t ht [] [] .e0 [] (by simpa using hp) (by simpa using hn) kK
   simp only [ints,bE,elT,bT,avt,bJ,aY] at c
   refine mY 2 rfl ?_
   refine zg ?_
   refine gB (Vo.frame (is:=[1]) g0 c (by simp) rfl ?_ ?_) ?_
   · intro i o ho
     cases i with
     | zero=>simp only [bP,aA] at ho; subst ho; rfl
     | succ i=>simp at ho
   · simp only [renL,ren,renL_pers _ _ iF,emb]; rfl
   · rintro r' h' ⟨r0,h1,⟨rfl,out',g',rfl,ho',_⟩,_,rfl,rfl⟩
     rcases ho' with ⟨rfl,e1,e2⟩ | ⟨q,rfl,hi,hil⟩
     · simp only [pR,aO,kH,aD,aY,cZ,eW,dX,AObj.ren,renL,ren]
       refine zg ?_
       rw [ava,e1,e2]
       exact E9 (pre:=[]) (sz:=10) (.inl ⟨rfl,rfl,rfl⟩) rfl
     · simp only [pR,aO,kH,aD,aY,cZ,eW,dX,AObj.ren,renL,ren]
       refine zg ?_
       exact E9 (pre:=[_,_]) (sz:=10) (.inr ⟨q,by simp [emb]; omega,by rw [dR,hi]; simp [AObj.ren,renL_pers _ _ yC],hil⟩) yC
theorem bGa (s:dF) (t:LTerm) (hm:Small s) (hs:OkS s) (ht:OkT t): CT 13 [.agg (cB s),elT t] (aDv (O2 s t)):=by
 refine cX mixed Tryz.func13 g0 ?_
 · simp -implicitDefEqProofs (disch:=omega) only [Tryz.f13,go_sem,List.replicate,simprocAttr,aDv]
   have c1:=T6 s t hm hs ht
   rcases iC (A8 s t) with h | h
   · have hv:=lY h
     have hv2:=hv
     simp only [jQ,aB,decide_eq_true_eq] at hv2
     have c2:=F5 t ht (by omega) (dN (pC t []) (by omega))
     have c3:=aWl t ht
     rw [h] at c1
     (refine zy3 @ava.eq_1 c1 c2 c3 ?_; repeat' first | exact trivial | refine zJ ?_ ?_ | refine zH fun hc=>?_)
     all_goals exact aP (by rw [O2,if_pos h]) (by simp [pers,persL,ava,yC,mat])
   · rw [h] at c1
     (refine zt1 c1 ?_; repeat' first | exact trivial | refine zJ ?_ ?_ | refine zH fun hc=>?_)
     all_goals exact .inr ⟨by rw [O2,if_neg (by rw [h]; simp)]; exact ⟨rfl,rfl,trivial⟩,fL,fun i hi=>absurd hi (by show ¬ i ∈ []; simp)⟩

def kL (s:dF) (x:LTest) (so:Bool):Bool:=
 if x.op=1 then decide (1≤x.term.kind) && (decide (x.term.kind≤4) && (jQ nodeB x.term && (decide (x.text=[]) && decide (x.n=0))))
 else if x.op=2 then decide (x.term=zT) && (D8 x.text && (decide (0≤x.n) && decide (x.n≤8)))
 else if x.op=3∨x.op=4 then decide (x.term=zT) && (decide (x.text=[]) && (decide (0≤x.n) && decide (x.n≤2000)))
 else if x.op=5∨x.op=7 then decide (x.term=zT) && (decide (x.text=[]) && decide (x.n=0))
 else if x.op=6 then decide (x.term=zT) && (decide (x.n=0) && (!so || iI s x.text))
 else false
theorem bDg (t:LTerm) (ht:OkT t):CT 154 [elT t,.agg [.i .i64 0,.i .i64 0,.s [],.s [],.sl [] 0,.sl [] 0]] (.b (decide (t=zT))):=aMn t zT ht aFq
structure OkX (x:LTest):Prop where
 term:OkT x.term
 text:x.text.length≤140737488355328
theorem bFq (s:dF) (x:LTest) (so:Bool) (hx:OkX x): CT 98 [cU s,.agg (fY x),.b so] (.b (kL s x so)):=by
 refine cX mixed Tryz.func98 g0 ?_
 · simp -implicitDefEqProofs (disch:=omega) only [Tryz.f98,go_sem,List.replicate,simprocAttr,fY,avt]
   have c1:=bDg x.term hx.term
   have c2:=aMr x.term hx.term
   have c3:=aWh x.text hx.text
   have c4:=J1 s x.text
   (refine zt4 c1 c2 c3 c4 ?_; repeat' first | exact trivial | refine zJ ?_ ?_ | refine zH fun hc=>?_)
   all_goals clear c1 c2 c3 c4
   all_goals exact aP (by (simp_all [kL,bO]) <;> (intros; omega)) rfl
def aZw (s:dF) (x:LTest) (t:LTerm):Bool:=
 if x.op=1 then decide (x.term=t)
 else if x.op=2 then decide (t.kind=5) && (decide (t.text=x.text) && decide ((t.kids.length:Int)=x.n))
 else if x.op=3 then decide (t.kind=7) && decide ((t.kids.length:Int)=x.n)
 else if x.op=4 then decide (t.kind=7) && decide (x.n≤(t.kids.length:Int))
 else if x.op=5 then decide (t.kind=8)
 else if x.op=7 then decide (t.kind=8) && decide (t.kids.length=0)
 else vX s (B3 s t) x.text
theorem bFo (s:dF) (x:LTest) (t:LTerm) (hs:Small s) (hx:OkX x) (ht:OkT t): CT 101 [cU s,.agg (fY x),elT t] (.b (aZw s x t)):=by
 refine cX mixed Tryz.func101 g0 ?_
 · simp -implicitDefEqProofs (disch:=omega) only [Tryz.f101,go_sem,List.replicate,simprocAttr,fY,avt]
   have c1:=aMn x.term t hx.term ht
   have c2:=aMq s t
   have c3:=aSq s (B3 s t) x.text hs
   (refine zt3 c1 c2 c3 ?_; repeat' first | exact trivial | refine zJ ?_ ?_ | refine zH fun hc=>?_)
   all_goals clear c1 c2 c3
   all_goals exact aP (by (simp_all [aZw]) <;> (intros; omega)) rfl
def aEk:LTerm→List Int→Option LTerm
 | t,[]=>some t
 | t,i::p=>if 0≤i∧i < (t.kids.length:Int) then aEk (t.kids.getD i.toNat default) p else none
def fV (s:dF) (a:LAsk) (t:LTerm):Bool:=match aEk t a.path with
 | some u=>aZw s a.test u
 | none=>false

theorem aDi (s:dF) (a:LAsk) (t:LTerm) (hs:Small s) (hx:OkX a.test) (hp:a.path.length≤1000000) (ht:OkT t): CT 51 [cU s,.agg (aL a),elT t] (.b (fV s a t)):=by
 refine cX mixed Tryz.func51 g0 ?_
 · simp -implicitDefEqProofs (disch:=omega) only [Tryz.f51,go_sem,List.replicate,simprocAttr,aL,avt]
   (refine zs0 ?_; repeat' first | exact trivial | refine zJ ?_ ?_ | refine zH fun hc=>?_)
   refine dD (fun (s:Nat × LTerm)=>[.k,.k,.k,.k,.k,.k,.j,.k,.j,.k,.k,.k,.v (.i .i64 (s.1:Nat)),.j,.j,.j,.j,.j,.j,.j,.j,.j,.j,.j,.j,.j,.j,.j,.j,.j,.j,.k,.k,.k,.k,.k]) (fun s=>[.box false (aL a),.box false [.i .i64 (s.2).kind,.i .i64 (s.2).n,.s (s.2).text,.s (s.2).sort,.sl ((s.2).kids.flatMap aE) (s.2).kids.length,.sl ((s.2).rest.flatMap aE) (s.2).rest.length]]) (fun s=>s.1≤a.path.length∧OkT s.2∧aEk t a.path=aEk s.2 (a.path.drop s.1)) (fun s=>a.path.length - s.1) ((0,t)) ⟨aT _,ht,rfl⟩ rfl (by simp [iL]) ?_
   rintro ⟨k,u⟩ j ⟨hk,hu,hw⟩
   dsimp only at hk hu hw
   have hku:=hu.kids
   by_cases hlt:k < a.path.length
   · have hki:(k:Int) < ((a.path.length:Nat):Int):=by omega
     have hd:a.path.drop k=a.path.getD k 0::a.path.drop (k+1):=by
       rw [cP hlt]; simp [List.getD,hlt]
     rw [hd,aEk] at hw
     refine zh (zA2 (zt hki) @aL.eq_1) ?_
     (refine zx0 (zA2 (zt hki) @aL.eq_1) ?_; repeat' first | exact trivial | refine zJ ?_ ?_ | refine zH fun hc=>?_)
     · rw [if_neg (by omega)] at hw
       exact aP (by rw [fV,hw]) rfl
     · have hi:0≤a.path.getD k 0∧a.path.getD k 0 < (u.kids.length:Int):=by omega
       rw [if_pos hi] at hw
       exact ⟨(k+1,u.kids.getD (a.path.getD k 0).toNat default),⟨by dsimp only; omega,hu.kid _ (cC (by omega)),hw⟩,by dsimp only; omega,rfl,by simp⟩
     · rw [if_neg (by omega)] at hw
       exact aP (by rw [fV,hw]) rfl
   · have hki:¬ (k:Int) < ((a.path.length:Nat):Int):=by omega
     rw [cK (by omega),aEk] at hw
     have c:=bFo s a.test u hs hx hu
     simp only [fY,avt] at c
     refine zh (zA2 (zf hki) @aL.eq_1) ?_
     (refine zy1 (zA2 (zf hki) @aL.eq_1) c ?_; repeat' first | exact trivial | refine zJ ?_ ?_ | refine zH fun hc=>?_)
     exact aP (by rw [fV,hw]) rfl
def wE (i:Int):Bool:=decide (i < 0) || decide (2000 < i)
theorem bIf (i:Int): CT 97 [.i .i64 i] (.b (wE i)):=by
 refine aQ mixed Tryz.func97 g0 ?_
 · skip
   (refine zs0 ?_; repeat' first | exact trivial | refine zJ ?_ ?_ | refine zH fun hc=>?_)
   all_goals exact aP (by (simp_all [wE]) <;> (intros; omega)) rfl
theorem bEg (l:List Int) (hl:l.length≤1000000): CT 153 [.sl (ints l) l.length,.fn 97 [] []] (.i .i64 (idx wE l)):=by
 refine aQ mixed Tryz.func153 g0 ?_
 · skip
   (refine zs0 ?_; repeat' first | exact trivial | refine zJ ?_ ?_ | refine zH fun hc=>?_)
   refine dD (fun (k:Nat)=>[.k,.k,.k,.k,.j,.j,.k,.k,.v (.i .i64 (k:Nat)),.j,.j,.j,.j,.j,.j,.j,.j,.j,.j]) (fun k=>[]) (fun k=>k≤l.length∧∀ j,j < k→wE (l.getD j 0)=false) (fun k=>l.length - k) (0) ⟨aT _,fun j h=>by omega⟩ rfl (by simp [iL]) ?_
   rintro k j ⟨hk,hn⟩
   have c:=bIf (l.getD k 0)
   refine zg ?_
   (refine zt1 c ?_; repeat' first | exact trivial | refine zJ ?_ ?_ | refine zH fun hc=>?_)
   · refine aP ?_ (by rfl)
     rw [mT (d:=0) (k:=k) (by omega) hc hn]
   · exact ⟨k+1,⟨by omega,rY hn hc⟩,by omega,rfl⟩
   · refine aP ?_ (by rfl)
     rw [mU (fun j hj=>hn j (by omega))]
theorem bEx (l:List Int) (hl:l.length≤1000000): CT 96 [.sl (ints l) l.length,.fn 97 [] []] (.b (l.any wE)):=by
 refine aQ mixed Tryz.func96 g0 ?_
 · skip
   (refine zt1 (bEg l hl) ?_; repeat' first | exact trivial | refine zJ ?_ ?_ | refine zH fun hc=>?_)
   all_goals exact aP (by rw [pU]) rfl
def isAskV (s:dF) (a:LAsk):Bool:=decide (a.path.length≤60) && (!a.path.any wE && kL s a.test true)
structure OkK (a:LAsk):Prop where
 test:OkX a.test
 path:a.path.length≤1000000
theorem yW (s:dF) (a:LAsk) (ha:OkK a): CT 49 [cU s,.agg (aL a)] (.b (isAskV s a)):=by
 refine cX mixed Tryz.func49 g0 ?_
 · simp -implicitDefEqProofs (disch:=omega) only [Tryz.f49,go_sem,List.replicate,simprocAttr,aL,avt]
   have c1:=bEx a.path ha.path
   have c2:=bFq s a.test true ha.test
   simp only [fY,avt] at c2
   rw [isAskV]
   generalize a.path.any wE=A at *
   generalize kL s a.test true=B at *
   (refine zt2 c1 c2 ?_; repeat' first | exact trivial | refine zJ ?_ ?_ | refine zH fun hc=>?_)
   all_goals clear c1 c2
   all_goals exact aP (by (simp_all) <;> (intros; omega)) rfl
def aLg (s:dF) (a:LAsk) (t:LTerm):Bool × Int:=if (gK s && (isAskV s a && nK s t))=true then (fV s a t,0) else (false,2)
def aDq (r:Bool × Int):AV:=.tup [.b r.1,.i .i64 r.2]
theorem bFz (s:dF) (a:LAsk) (t:LTerm) (hm:Small s) (hs:OkS s) (ha:OkK a) (ht:OkT t): CT 15 [.agg (cB s),.agg (aL a),elT t] (aDq (aLg s a t)):=by
 refine cX mixed Tryz.func15 g0 ?_
 · simp -implicitDefEqProofs (disch:=omega) only [Tryz.f15,go_sem,List.replicate,simprocAttr,aDq,aL,avt]
   have c1:=aGd s hm hs
   have c3:=yW s a ha
   have c4:=aMs s t hm ht
   have c5:=aDi s a t hm ha.test ha.path ht
   simp only [aL,avt] at c3 c5
   rw [aLg]
   rcases iC (gK s) with h | h
   · have c2:=T5 s hm (iB h)
     rw [h] at c1
     (repeat' (first | refine gT ?_ ?_ | refine gF ?_ ?_ | refine gC ?_ ?_ | ((first | (refine bI (c1) ?_ ?_; (focus (simp -implicitDefEqProofs (disch:=omega) only [zdB,go_sem,simprocAttr]; done))) | (refine bI (c2) ?_ ?_; (focus (simp -implicitDefEqProofs (disch:=omega) only [zdB,go_sem,simprocAttr]; done))) | (refine bI (c3) ?_ ?_; (focus (simp -implicitDefEqProofs (disch:=omega) only [zdB,go_sem,simprocAttr]; done))) | (refine bI (c4) ?_ ?_; (focus (simp -implicitDefEqProofs (disch:=omega) only [zdB,go_sem,simprocAttr]; done))) | (refine bI (c5) ?_ ?_; (focus (simp -implicitDefEqProofs (disch:=omega) only [zdB,go_sem,simprocAttr]; done)))); simp -implicitDefEqProofs (disch:=omega) only [go_sem,simprocAttr]) | refine bM (by omega) ?_ | (intro hr; have hc:=hr; (try simp only [zdz] at hc); simp -implicitDefEqProofs (disch:=omega) only [hr,go_sem,simprocAttr]; (try clear hr))))
     all_goals clear c1 c2 c3 c4 c5
     all_goals exact aP (by simp_all) rfl
   · rw [h] at c1
     (refine zt1 c1 ?_; repeat' first | exact trivial | refine zJ ?_ ?_ | refine zH fun hc=>?_)
     all_goals exact aP (by rw [h]; rfl) rfl

@[simp] theorem bCd:nodesL []=0:=rfl
@[simp] theorem bEj:highL []=0:=rfl

def PathOk (p:List Int):Prop:=p.length≤140737488355328∧∀ i ∈ p,-9223372036854775808≤i∧i≤9223372036854775807


theorem bKl:(41:Nat) ≠ 3:=by decide
theorem bRp {h:List AObj}:iX Tryz.prog h .cap #[41] [.e0]=some (.i .i64 0,h):=aNb bPe
theorem bMv {dr:Option DR} {d:Option Nat} {os:List fI} {K:List AV→List AObj→Prop} {env:List AV} {h:List AObj} {s x:Operand}:dW Tryz.prog G0 dr (.call ⟨.builtin .append,#[s,x],#[41,3]⟩) d os K env h=N4 Tryz.prog G0 dr (Tryz.prog.underlying 3) (nR Tryz.prog h 41 (aev G0 env s) (aev G0 env x)) d os K env:=sV bKl
attribute [go_sem] bRp
attribute [go_sem ↓] bMv
theorem bFf (n:Nat) (hn:n≤1000000): CT 221 [.e0,.i .i64 n] (.own 10 [] 0):=by
 refine aQ mixed Tryz.func221 g0 ?_
 · skip
   (refine zs0 ?_; repeat' first | exact trivial | refine zJ ?_ ?_ | refine zH fun hc=>?_)
   · exfalso; omega
   · rw [if_pos (by omega),if_neg (by omega)]
     refine zg ?_
     refine ⟨by simp [List.length_flatten],?_⟩
     exact .inr ⟨⟨rfl,rfl,_,rfl,by simp,by simp,rfl⟩,by simp [cD],by simp [cD,iW]⟩
   · exact .inr ⟨⟨rfl,rfl⟩,by simp [cD],by simp [cD]⟩
theorem Z7 {l:List (List LAsk)} {k:Nat} (h:k < l.length):(l.map ava)[k]? = some (ava (l.getD k [])):=by simp [h]
attribute [go_sem] Z7 ava
def M4 (l:List (List LAsk)):Nat:=l.flatten.length
@[simp] theorem bIx:M4 []=0:=rfl
theorem xJ {l:List (List LAsk)} {k:Nat} (h:k < l.length):M4 (l.take (k+1))=M4 (l.take k)+(l.getD k []).length:=by
 rw [fZ (d:=[]) h]; simp [M4]
theorem aIk {l:List (List LAsk)} {k:Nat}:M4 (l.take k)≤M4 l:=by
 have h:(l.take k++l.drop k).flatten.length=l.flatten.length:=by rw [eV]
 unfold M4
 rw [kO,aG] at h
 omega
theorem aIl {l:List (List LAsk)} {k:Nat} (h:k < l.length):M4 (l.take k)+(l.getD k []).length≤M4 l:=by
 rw [← xJ h]; exact aIk
theorem aDf (l:List (List LAsk)) (hl:l.length≤1000) (hs:M4 l≤1000000): CT 181 [.sl (l.map ava) l.length] (ava l.flatten):=by
 refine aQ mixed Tryz.func181 g0 ?_
 · skip
   refine dD (fun (k:Nat)=>[.k,.k,.k,.v (.i .i64 (M4 (l.take k):Nat)),.k,.j,.k,.k,.k,.k,.k,.v (.i .i64 k),.j,.j,.j,.j,.j,.j,.j,.j,.j,.j,.j,.k,.k,.k,.k,.k,.k,.k,.k,.k,.k,.k,.k,.k]) (fun k=>[]) (fun k=>k≤l.length) (fun k=>l.length - k) (0) (aT _) rfl (by simp [iL]) ?_
   rintro k j hk
   have hat:k < l.length→M4 (l.take k)+(l.getD k []).length≤M4 l:=aIl
   have hkk:=aIk (l:=l) (k:=k)
   refine zg ?_
   (refine zs0 ?_; repeat' first | exact trivial | refine zJ ?_ ?_ | refine zH fun hc=>?_)
   · exfalso; omega
   · refine ⟨k+1,by omega,by omega,?_,by simp⟩
     rw [xJ (by omega)]; simp
   · have h1:k=l.length:=by omega
     subst h1
     refine aNd (bFf (M4 l) (by omega)) (by simp -implicitDefEqProofs (disch:=omega) only [aPo,go_sem,simprocAttr]) ?_
     refine zg ?_
     refine dD (fun (t:Nat × AV × List AObj)=>[.k,.k,.k,.k,.k,.k,.v (t.2.1),.k,.j,.k,.k,.k,.k,.k,.k,.k,.k,.k,.k,.k,.k,.k,.k,.k,.k,.k,.k,.v (.i .i64 (t.1:Nat)),.j,.j,.j,.j,.j,.j,.j,.k]) (fun t=>t.2.2) (fun t=>t.1≤l.length∧fD 10 0 t.2.2 t.2.1 ((l.take t.1).flatten.flatMap aL) (M4 (l.take t.1))) (fun t=>l.length - t.1) ((0,.hs 0 0 0 false,[.arr false 10 []])) ⟨aT _,.inr ⟨0,rfl,rfl,rfl⟩⟩ rfl (by simp [iL]) ?_
     rintro ⟨k,out,g⟩ j ⟨hk,ho⟩
     dsimp only at hk ho
     have hat:k < l.length→M4 (l.take k)+(l.getD k []).length≤M4 l:=aIl
     refine zg ?_
     (refine zs0 ?_; repeat' first | exact trivial | refine zJ ?_ ?_ | refine zH fun hc=>?_)
     · refine fE (more:=[]) (pre:=[]) (news:=(l.getD k []).flatMap aL) (m:=(l.getD k []).length) ho rfl (by simp) bOl bNb bNd bOp rfl (by decide) (by simp -implicitDefEqProofs (disch:=omega) only [go_sem,simprocAttr]) (by simp -implicitDefEqProofs (disch:=omega) only [go_sem,simprocAttr]) ⟨by omega,by omega⟩ ?_
       intro out' g' ho' _
       refine zg ?_
       refine ⟨(k+1,out',g'),⟨by omega,?_⟩,by simp; omega,rfl,by simp⟩
       dsimp only
       rw [xJ (by omega),fZ (d:=[]) (by omega),kO,eJ]
       simpa using ho'
     · have h1:k=l.length:=by omega
       subst h1
       rw [jB] at ho
       exact E9 (pre:=[]) (sz:=10) ho yC
end Go.Proofs.YtifefbhllfdmlaaGreatDoor
