/-
  What functions of the chapter return, as plain functions of what they are given; no condition beyond those that each theorem names.
-/
import Derived.Test.YtifefbhllfdmlaaGreatDoorVaP103
import Derived.Test.YtifefbhllfdmlaaGreatDoorVoP108
import Derived.Test.YtifefbhllfdmlaaGreatDoorVaP101
import Derived.Test.YtifefbhllfdmlaaGreatDoorSoP103
set_option maxRecDepth 100000
set_option linter.unusedSimpArgs false
set_option linter.unusedVariables false
set_option maxHeartbeats 4000000
namespace Go.Proofs.YtifefbhllfdmlaaGreatDoor
open Go Go.Vo
open Nat (reduceAdd reduceSub reduceMul reduceLeDiff reduceLT reduceEqDiff)
open Int (reduceNeg)

abbrev ints (p:List Int):List AV:=p.map (.i .i64)
theorem Z3 {pre g:List AObj} {sz n:Nat} {out:AV} {cells:List AV} (ho:eP sz pre.length g out cells n) (hp:persL cells=true):Fin (pre++g) out (.sl cells n):=by
 rcases ho with ⟨rfl,rfl,rfl⟩ | ⟨i,rfl,hi,hl⟩
 · exact .inr ⟨rfl,by simp [bY],by simp [bY]⟩
 · refine .inr ⟨?_,by simp [bY],by simp [bY]⟩
   show AV.sl cells n=gB dep (pre++g) (.hs (i+pre.length) 0 n false)
   have hg:(pre++g)[i+pre.length]? = some (.arr false sz cells):=by
     rw [aH (by omega)]; simpa using hi
   have hd:(cells.drop 0).take (n * sz)=cells:=by rw [cS,aJ (by omega)]
   simp only [gO,pers,wR,hg,hd,hp,if_true,aP,if_false]
   rw [if_pos (by omega)]
theorem aQw (p:List Int) (hp:p.length≤1000000): CT 119 [.sl (ints p) p.length] (.own 1 (ints p) p.length):=by
 refine aE mixed Tryz.func119 g0 ?_
 · skip
   refine aZj (fun h=>?_) ?_
   · refine zg ?_
     obtain rfl:=List.length_eq_zero_iff.1 h
     exact oQ (pre:=[]) (g:=[]) (.inl ⟨rfl,rfl,rfl⟩) iT
   · (repeat' (first | refine gT ?_ ?_ | refine gF ?_ ?_ | refine gC ?_ ?_ | refine aK (by omega) ?_ | (intro hr; have hc:=hr; (try simp only [zdz] at hc); simp -implicitDefEqProofs (disch:=omega) only [hr,go_sem,↓reduceIte,reduceAdd,reduceSub,reduceMul,reduceLeDiff,reduceLT,reduceEqDiff,reduceNeg,Nat.reduceBEq]; (try clear hr))))
     · cases hc
     · exact oQ (pre:=[]) (g:=[.arr false 1 (ints p)]) (.inr ⟨0,rfl,rfl,by simp [ints]⟩) iT
theorem bAx (p:List Int) (hp:p.length≤1000000): CT 119 [.sl (ints p) p.length] (.sl (ints p) p.length):=by
 refine aE mixed Tryz.func119 g0 ?_
 · skip
   refine aZj (fun h=>?_) ?_
   · refine zg ?_
     obtain rfl:=List.length_eq_zero_iff.1 h
     exact Z3 (pre:=[]) (g:=[]) (sz:=1) (.inl ⟨rfl,rfl,rfl⟩) iT
   · (repeat' (first | refine gT ?_ ?_ | refine gF ?_ ?_ | refine gC ?_ ?_ | refine aK (by omega) ?_ | (intro hr; have hc:=hr; (try simp only [zdz] at hc); simp -implicitDefEqProofs (disch:=omega) only [hr,go_sem,↓reduceIte,reduceAdd,reduceSub,reduceMul,reduceLeDiff,reduceLT,reduceEqDiff,reduceNeg,Nat.reduceBEq]; (try clear hr))))
     · cases hc
     · exact Z3 (pre:=[]) (g:=[.arr false 1 (ints p)]) (.inr ⟨0,rfl,rfl,by simp [ints]⟩) iT
def lY (g g':List AObj):Prop:=∀ (i:Nat) (o:AObj),g[i]? = some o→(∀ c:List AV,o ≠ .arr false 10 c)→g'[i]? = some o
theorem lY.refl (g:List AObj):lY g g:=fun _ _ h _=>h
theorem lY.trans {a b c:List AObj} (h:lY a b) (k:lY b c):lY a c:=fun i o x y=>k i o (h i o x y) y
theorem lY.app (g m:List AObj):lY g (g++m):=fun i o x _=>by rw [aD (aO x)]; exact x
abbrev aEa (l:List kD) (g:List AObj):AV→List AObj→Prop:=fun r h'=>r=.tup []∧∃ out' g',h'=.box false [out']::g'∧eP 10 1 g' out' (l.flatMap bT) l.length∧lY g g'
theorem bGl (a:kD):bT a=[.sl (ints a.path) a.path.length,.i .i64 a.test.op,.i .i64 a.test.term.kind,.i .i64 a.test.term.n,.s a.test.term.text,.s a.test.term.sort,.sl (a.test.term.kids.flatMap aA) a.test.term.kids.length,.sl (a.test.term.rest.flatMap aA) a.test.term.rest.length,.s a.test.text,.i .i64 a.test.n]:=rfl
theorem bPc (te:LTest) (p:List Int) (g:List AObj) (A B:Nat) (hA:g[A]? = some (.box false [.ptr 0 0])) (hB:g[B]? = some (.box false [.sl (ints p) p.length])) (ht:OkT te.term) (hp:p.length≤1000000): ACalls Tryz.prog G0 131 [.agg (iR te),.ptr (A+1) 0,.ptr (B+1) 0] (.box false [.e0]::g) (aEa [⟨p,te⟩] g):=by
 refine cY (rx:=true) (th:=fun i=>if i=1 then some ⟨some (g.length+2),[],false,true,false,[10],[],0⟩ else none) mixed Tryz.func131 ?_
 · simp -implicitDefEqProofs (disch:=omega) only [Tryz.f131,go_sem,List.replicate,↓reduceIte,reduceAdd,reduceSub,reduceMul,reduceLeDiff,reduceLT,reduceEqDiff,reduceNeg,Nat.reduceBEq,iR,avt]
   have hA1:=aO hA
   have hB1:=aO hB
   have hAm:∀ m:List AObj,(g++m)[A]? = some (.box false [.ptr 0 0]):=fun m=>by rw [aD hA1]; exact hA
   have hBm:∀ m:List AObj,(g++m)[B]? = some (.box false [.sl (ints p) p.length]):=fun m=>by rw [aD hB1]; exact hB
   have hA2:(A+1 < g.length+2)=True:=eq_true (by omega)
   have hB2:(B+1 < g.length+2)=True:=eq_true (by omega)
   refine zh (zA2 hA (zA2 hB (zA2 hAm (zA2 hBm (zA2 hA2 (zA2 hB2 (zA2 true_and and_true))))))) ?_
   (repeat' (first | refine gT ?_ ?_ | refine gF ?_ ?_ | refine gC ?_ ?_ | ((refine aY (bAx p hp) ?_ ?_; (focus (simp -implicitDefEqProofs (disch:=omega) only [hA,hB,hAm,hBm,hA2,hB2,true_and,and_true,gE,zdB,go_sem,↓reduceIte,reduceAdd,reduceSub,reduceMul,reduceLeDiff,reduceLT,reduceEqDiff,reduceNeg,Nat.reduceBEq]; done))); simp -implicitDefEqProofs (disch:=omega) only [hA,hB,hAm,hBm,hA2,hB2,true_and,and_true,gE,go_sem,↓reduceIte,reduceAdd,reduceSub,reduceMul,reduceLeDiff,reduceLT,reduceEqDiff,reduceNeg,Nat.reduceBEq]) | refine aK (by omega) ?_ | (intro hr; have hc:=hr; (try simp only [zdz] at hc); simp -implicitDefEqProofs (disch:=omega) only [hr,hA,hB,hAm,hBm,hA2,hB2,true_and,and_true,gE,go_sem,↓reduceIte,reduceAdd,reduceSub,reduceMul,reduceLeDiff,reduceLT,reduceEqDiff,reduceNeg,Nat.reduceBEq]; (try clear hr))))
   refine ⟨rfl,_,_,rfl,.inr ⟨g.length+2,rfl,by rw [aH (by omega)]; simp [bGl],by simp [bT]⟩,.app _ _⟩
theorem bGu {g more:List AObj} {q:Nat} {l:List kD} {a:kD} (hi:g[q]? = some (.arr false 10 (l.flatMap bT))) (hm:more.length=2):aEa (l++[a]) g (.tup []) (.box false [.hs (g.length+2+1) 0 (l.length+1) false]::((g++more).set q .dead++[.arr false 10 (l.flatMap bT++bT a)])):=by
 have hq:=aO hi
 refine ⟨rfl,_,_,rfl,.inr ⟨g.length+2,?_,?_,?_⟩,?_⟩
 · rw [List.length_append]; rfl
 · rw [aH (by simp; omega)]; simp [hm]
 · rw [yB]
 · intro i o hio hn
   have hio':=aO hio
   have hne:q ≠ i:=by rintro rfl; rw [hi] at hio; cases hio; exact hn _ rfl
   rw [aD (by simp; omega),dC hne,aD hio']
   exact hio
theorem bPb (te:LTest) (p:List Int) (l:List kD) (q:Nat) (g:List AObj) (A B:Nat) (hA:g[A]? = some (.box false [.ptr 0 0])) (hB:g[B]? = some (.box false [.sl (ints p) p.length])) (ht:OkT te.term) (hp:p.length≤1000000) (hl:l.length≤1000000) (hi:g[q]? = some (.arr false 10 (l.flatMap bT))): ACalls Tryz.prog G0 131 [.agg (iR te),.ptr (A+1) 0,.ptr (B+1) 0] (.box false [.hs (q+1) 0 l.length false]::g) (aEa (l++[⟨p,te⟩]) g):=by
 refine cY (rx:=true) (th:=fun i=>if i=1 then some ⟨some (g.length+2),[q+1],false,true,false,[10],[],0⟩ else none) mixed Tryz.func131 ?_
 · simp -implicitDefEqProofs (disch:=omega) only [Tryz.f131,go_sem,List.replicate,↓reduceIte,reduceAdd,reduceSub,reduceMul,reduceLeDiff,reduceLT,reduceEqDiff,reduceNeg,Nat.reduceBEq,iR,avt]
   have hA1:=aO hA
   have hB1:=aO hB
   have hAm:∀ m:List AObj,(g++m)[A]? = some (.box false [.ptr 0 0]):=fun m=>by rw [aD hA1]; exact hA
   have hBm:∀ m:List AObj,(g++m)[B]? = some (.box false [.sl (ints p) p.length]):=fun m=>by rw [aD hB1]; exact hB
   have hA2:(A+1 < g.length+2)=True:=eq_true (by omega)
   have hB2:(B+1 < g.length+2)=True:=eq_true (by omega)
   have hAi:(A=q)=False:=eq_false (by rintro rfl; rw [hi] at hA; cases hA)
   have hBi:(B=q)=False:=eq_false (by rintro rfl; rw [hi] at hB; cases hB)
   have hq:=aO hi
   have him:∀ m:List AObj,(g++m)[q]? = some (.arr false 10 (l.flatMap bT)):=fun m=>by rw [aD hq]; exact hi
   have b1:((l.length+1) * 152≤140737488355328)=True:=eq_true (by omega)
   have b2:(l.length≤140737488355327)=True:=eq_true (by omega)
   have b3:∀ n:Nat,(n≤n)=True:=fun n=>eq_true (bA n)
   refine zh (zA2 hA (zA2 hB (zA2 hAm (zA2 hBm (zA2 hA2 (zA2 hB2 (zA2 true_and (zA2 and_true (zA2 hAi (zA2 hBi (zA2 not_false_eq_true (zA2 him (zA2 @b1 (zA2 @b2 b3)))))))))))))) ?_
   (repeat' (first | refine gT ?_ ?_ | refine gF ?_ ?_ | refine gC ?_ ?_ | ((refine aY (bAx p hp) ?_ ?_; (focus (simp -implicitDefEqProofs (disch:=omega) only [hA,hB,hAm,hBm,hA2,hB2,true_and,and_true,hAi,hBi,not_false_eq_true,him,b1,b2,b3,gE,zdB,go_sem,↓reduceIte,reduceAdd,reduceSub,reduceMul,reduceLeDiff,reduceLT,reduceEqDiff,reduceNeg,Nat.reduceBEq]; done))); simp -implicitDefEqProofs (disch:=omega) only [hA,hB,hAm,hBm,hA2,hB2,true_and,and_true,hAi,hBi,not_false_eq_true,him,b1,b2,b3,gE,go_sem,↓reduceIte,reduceAdd,reduceSub,reduceMul,reduceLeDiff,reduceLT,reduceEqDiff,reduceNeg,Nat.reduceBEq]) | refine aK (by omega) ?_ | (intro hr; have hc:=hr; (try simp only [zdz] at hc); simp -implicitDefEqProofs (disch:=omega) only [hr,hA,hB,hAm,hBm,hA2,hB2,true_and,and_true,hAi,hBi,not_false_eq_true,him,b1,b2,b3,gE,go_sem,↓reduceIte,reduceAdd,reduceSub,reduceMul,reduceLeDiff,reduceLT,reduceEqDiff,reduceNeg,Nat.reduceBEq]; (try clear hr))))
   exact bGu (a:=⟨p,te⟩) hi rfl
theorem bGv (te:LTest) (p:List Int) (l:List kD) (out:AV) (g:List AObj) (A B:Nat) (hA:g[A]? = some (.box false [.ptr 0 0])) (hB:g[B]? = some (.box false [.sl (ints p) p.length])) (ht:OkT te.term) (hp:p.length≤1000000) (hl:l.length≤1000000) (ho:eP 10 1 g out (l.flatMap bT) l.length) :
   ACalls Tryz.prog G0 131 [.agg (iR te),.ptr (A+1) 0,.ptr (B+1) 0] (.box false [out]::g) (aEa (l++[⟨p,te⟩]) g):=by
 rcases ho with ⟨rfl,_,h⟩ | ⟨q,rfl,hi,_⟩
 · obtain rfl:=List.length_eq_zero_iff.1 h
   exact bPc te p g A B hA hB ht hp
 · exact bPb te p l q g A B hA hB ht hp hl hi

theorem qF {g g':List AObj} {i:Nat} {o:AObj} (h:lY g g') (hi:g[i]? = some o) (ho:∀ c:List AV,o ≠ .arr false 10 c):g'[i]? = some o:=h i o hi ho
theorem Q1 {k:IntKind}:∀ {p:List Int},(p.map (AV.i k)).all aJr=true
 | []=>rfl
 | a::l=>by rw [aZ,dH,Q1 (p:=l)]; rfl
theorem aNt:OkT zT:=.mk (by simp [LTerm.text]) (by simp [LTerm.sort]) (by simp [LTerm.n]) (by simp [LTerm.n]) (by simp [LTerm.kids]) (by simp [LTerm.rest]) (by simp [LTerm.kids]) (by simp [LTerm.rest])
theorem M0 {t:LTerm} {te:LTest} {p:List Int} {l:List kD} {out:AV} {g:List AObj} {cs:List AV} (ht:OkT te.term) (hp:p.length≤1000000) (hl:l.length≤1000000) (ho:eP 10 1 g out (l.flatMap bT) l.length) (hc:cs=iR te) :
   ACalls Tryz.prog G0 131 [.agg cs,.ptr (g.length+1) 0,.ptr (g.length+2+1) 0] (.box false [out]::(g++[.box false [.ptr 0 0],.box false [.i .i64 (t).kind,.i .i64 (t).n,.s (t).text,.s (t).sort,.sl ((t).kids.flatMap aA) (t).kids.length,.sl ((t).rest.flatMap aA) (t).rest.length],.box false [.sl (ints p) p.length]])) (aEa (l++[⟨p,te⟩]) (g++[.box false [.ptr 0 0],.box false [.i .i64 (t).kind,.i .i64 (t).n,.s (t).text,.s (t).sort,.sl ((t).kids.flatMap aA) (t).kids.length,.sl ((t).rest.flatMap aA) (t).rest.length],.box false [.sl (ints p) p.length]])):=by
 subst hc
 exact bGv te p l out _ g.length (g.length+2) (by simp) (by simp) ht hp hl (ho.more _)
theorem aTa (t:LTerm) (p:List Int) (l:List kD) (out:AV) (g:List AObj) (ht:OkT t) (hp:p.length≤1000000) (hl:l.length≤1000000) (ho:eP 10 1 g out (l.flatMap bT) l.length) (h5:¬ t.kind=5) (h7:¬ t.kind=7): ACalls Tryz.prog G0 77 [.ptr 0 0,elT t,.sl (ints p) p.length] (.box false [out]::g) (aEa (l++dZ t p) g):=by
 refine yD (rx:=true) (th:=fun i=>if i=19 then some ⟨none,[],true,true,true,[],[],0⟩ else none) mixed Tryz.func77 rfl (by kernel_rfl) (by kernel_rfl) (ac:=?_) ?_ ?_
 rotate_left
 · simp only [strip,uQ,aMd,RX.off,ckF,ckX,zOf,exd,vOf,fI,fX,dG,dF,cN,Bool.and_true,Bool.and_false,cN,oZ,eQ,lU,tS,fV,qW,cH,cC,iZ,anyPre,Region.binds,Bool.not_true,Bool.not_false,aP,if_true,if_false,jI,iG,Bool.true_and,Bool.false_and,bO,aZ,fI,fX,List.append_nil,bOa,aIs,aOz,G8,sX,cU,dB,cN,dG,dF,cO,beq_self_eq_true,Option.some_beq_some,Nat.reduceBEq,aFt,X8,aFo,oN,bHe,wK,List.any_nil,oZ,dY,bJg,bJf,↓reduceIte,Nat.reduceEqDiff,Nat.reduceBEq,wQ,uP,xN,splitK,aJg,bEl,fX,wK,List.any_nil,Bool.not_true,Bool.not_false,Bool.and_true,Bool.true_and,Bool.and_false,dG,dF]
   rfl
 · simp -implicitDefEqProofs (disch:=omega) only [Tryz.f77,go_sem,List.replicate,simprocAttr]
   rw [lL,if_neg h5,if_neg h7]
   rcases (by omega:t.kind=8∨(¬ t.kind=8∧t.kind=6)∨(¬ t.kind=8∧¬ t.kind=6)) with h8 | ⟨h8,h6⟩ | ⟨h8,h6⟩
   · rw [if_pos h8]
     have h6:¬ t.kind=6:=by omega
     refine zh (zA2 (zf h5) (zA2 (zf h7) (zA2 (zt h8) (zf h6)))) ?_
     refine nH 0 rfl ?_
     refine zg ?_
     refine eZ (M0 (te:=⟨5,zT,[],0⟩) (by first | exact ht | exact aNt) hp hl ho rfl) ?_
     rintro r h' ⟨rfl,out',g',rfl,ho',hs'⟩
     refine zg ?_
     exact ⟨rfl,out',g',rfl,ho',(lY.app g _).trans hs'⟩
   · rw [if_neg h8,if_pos h6]
     refine zh (zA2 (zf h5) (zA2 (zf h7) (zA2 (zf h8) (zt h6)))) ?_
     (refine zx0 (zA2 (zf h5) (zA2 (zf h7) (zA2 (zf h8) (zt h6)))) ?_; repeat' first | exact trivial | refine zJ ?_ ?_ | refine zH fun hc=>?_)
     rw [if_neg hc]
     refine nH 0 rfl ?_
     refine zg ?_
     refine eZ (M0 (te:=⟨6,zT,t.sort,0⟩) (by first | exact ht | exact aNt) hp hl ho rfl) ?_
     rintro r h' ⟨rfl,out',g',rfl,ho',hs'⟩
     refine zg ?_
     exact ⟨rfl,out',g',rfl,ho',(lY.app g _).trans hs'⟩
     rw [if_pos hc,List.append_nil]
     exact ⟨rfl,out,_,rfl,ho.more _,.app _ _⟩
   · rw [if_neg h8,if_neg h6]
     refine zh (zA2 (zf h5) (zA2 (zf h7) (zA2 (zf h8) (zf h6)))) ?_
     refine eZ (M0 (te:=⟨1,t,[],0⟩) (by first | exact ht | exact aNt) hp hl ho rfl) ?_
     rintro r h' ⟨rfl,out',g',rfl,ho',hs'⟩
     refine zg ?_
     exact ⟨rfl,out',g',rfl,ho',(lY.app g _).trans hs'⟩
theorem aLo (t:LTerm) (p:List Int) (l:List kD) (out:AV) (g:List AObj) (ht:OkT t) (hp:p.length≤1000) (hl:l.length+(testsL t.kids p 0).length < 1000000) (ho:eP 10 1 g out (l.flatMap bT) l.length) (h5:t.kind=5) (ih:∀ k,k < t.kids.length→∀ (l:List kD) (out:AV) (g:List AObj),l.length+(dZ (t.kids.getD k default) (p++[(k:Int)])).length≤1000000→eP 10 1 g out (l.flatMap bT) l.length→ACalls Tryz.prog G0 77 [.ptr 0 0,elT (t.kids.getD k default),.sl (ints (p++[(k:Int)])) (p.length+1)] (.box false [out]::g) (aEa (l++dZ (t.kids.getD k default) (p++[(k:Int)])) g)): ACalls Tryz.prog G0 77 [.ptr 0 0,elT t,.sl (ints p) p.length] (.box false [out]::g) (aEa (l++dZ t p) g):=by
 refine yD (rx:=true) (th:=fun i=>if i=19 then some ⟨none,[],true,true,true,[],[],0⟩ else none) mixed Tryz.func77 rfl (by kernel_rfl) (by kernel_rfl) (ac:=?_) ?_ ?_
 rotate_left
 · simp only [strip,uQ,aMd,RX.off,ckF,ckX,zOf,exd,vOf,fI,fX,dG,dF,cN,Bool.and_true,Bool.and_false,cN,oZ,eQ,lU,tS,fV,qW,cH,cC,iZ,anyPre,Region.binds,Bool.not_true,Bool.not_false,aP,if_true,if_false,jI,iG,Bool.true_and,Bool.false_and,bO,aZ,fI,fX,List.append_nil,bOa,aIs,aOz,G8,sX,cU,dB,cN,dG,dF,cO,beq_self_eq_true,Option.some_beq_some,Nat.reduceBEq,aFt,X8,aFo,oN,bHe,wK,List.any_nil,oZ,dY,bJg,bJf,↓reduceIte,Nat.reduceEqDiff,Nat.reduceBEq,wQ,uP,xN,splitK,aJg,bEl,fX,wK,List.any_nil,Bool.not_true,Bool.not_false,Bool.and_true,Bool.true_and,Bool.and_false,dG,dF]
   rfl
 · simp -implicitDefEqProofs (disch:=omega) only [Tryz.f77,go_sem,List.replicate,simprocAttr]
   rw [lL,if_pos h5]
   have hkk:=ht.kids
   have h6:¬ t.kind=6:=by omega
   refine zh (zA2 (zt h5) (zf h6)) ?_
   refine nH 0 rfl ?_
   refine zg ?_
   refine eZ (M0 (te:=⟨2,zT,t.text,t.kids.length⟩) aNt (by omega) (by omega) ho rfl) ?_
   rintro r h' ⟨rfl,out1,g1,rfl,ho1,hs1⟩
   have eA:g1[g.length]? = some (.box false [.ptr 0 0]):=hs1 _ _ (by simp) (fun c h=>by cases h)
   have eT:g1[g.length+1]? = some (.box false [.i .i64 (t).kind,.i .i64 (t).n,.s (t).text,.s (t).sort,.sl ((t).kids.flatMap aA) (t).kids.length,.sl ((t).rest.flatMap aA) (t).rest.length]):=hs1 _ _ (by simp) (fun c h=>by cases h)
   have eB:g1[g.length+2]? = some (.box false [.sl (ints p) p.length]):=hs1 _ _ (by simp) (fun c h=>by cases h)
   have hs2:lY g g1:=(lY.app g _).trans hs1
   refine zh (zA2 eA (zA2 eT eB)) ?_
   refine bQ (fun (s:Nat × AV × List AObj)=>[.k,.k,.k,.k,.k,.k,.k,.k,.j,.j,.k,.k,.k,.k,.k,.k,.k,.k,.k,.k,.k,.k,.k,.k,.k,.k,.k,.k,.k,.k,.k,.k,.k,.k,.k,.k,.k,.k,.k,.k,.k,.k,.k,.k,.k,.k,.k,.k,.k,.k,.k,.k,.k,.k,.k,.k,.k,.k,.v (.i .i64 (s.1:Nat)),.j,.j,.j,.j,.j,.j,.j,.j,.j,.j,.j,.j,.j]) (fun s=>(.box false [s.2.1]::s.2.2)) (fun s=>s.1≤t.kids.length∧eP 10 1 s.2.2 s.2.1 ((l++[(⟨p,⟨2,zT,t.text,t.kids.length⟩⟩:kD)]++testsL (t.kids.take s.1) p 0).flatMap bT) (l++[(⟨p,⟨2,zT,t.text,t.kids.length⟩⟩:kD)]++testsL (t.kids.take s.1) p 0).length∧lY g1 s.2.2) (fun s=>t.kids.length - s.1) ((0,out1,g1)) ⟨aF _,by simpa [testsL] using ho1,.refl _⟩ rfl (by simp [fD]) ?_
   rintro ⟨k,out,h2⟩ j ⟨hk,ho2,hs3⟩
   dsimp only at hk ho2 hs3
   have fA:=qF hs3 eA (fun c h=>by cases h)
   have fT:=qF hs3 eT (fun c h=>by cases h)
   have fB:=qF hs3 eB (fun c h=>by cases h)
   have lA:=aO fA
   have lB:=aO fB
   have mA:∀ m:List AObj,(h2++m)[g.length]? = some (.box false [.ptr 0 0]):=fun m=>by rw [aD lA]; exact fA
   have mB:∀ m:List AObj,(h2++m)[g.length+2]? = some (.box false [.sl (ints p) p.length]):=fun m=>by rw [aD lB]; exact fB
   by_cases hlt:k < t.kids.length
   · have hki:(k:Int) < ((t.kids.length:Nat):Int):=by omega
     have qA:∀ n:Nat,(g.length+1 < h2.length+(n+1))=True:=fun n=>eq_true (by omega)
     have qB:∀ n:Nat,(g.length+2+1 < h2.length+(n+1))=True:=fun n=>eq_true (by omega)
     simp -implicitDefEqProofs (disch:=omega) only [zt hki,mA,mB,fA,fB,qA,qB,true_and,and_true,go_sem,simprocAttr]
     (repeat' (first | refine gT ?_ ?_ | refine gF ?_ ?_ | refine gC ?_ ?_ | ((refine aY (aQw p (by omega)) ?_ ?_; (focus (simp -implicitDefEqProofs (disch:=omega) only [zt hki,mA,mB,fA,fB,qA,qB,true_and,and_true,zdB,go_sem,simprocAttr]; done))); simp -implicitDefEqProofs (disch:=omega) only [zt hki,mA,mB,fA,fB,qA,qB,true_and,and_true,go_sem,simprocAttr]) | refine aK (by omega) ?_ | (intro hr; have hc:=hr; (try simp only [zdz] at hc); simp -implicitDefEqProofs (disch:=omega) only [hr,zt hki,mA,mB,fA,fB,qA,qB,true_and,and_true,go_sem,simprocAttr]; (try clear hr))))
     have htl:=qC (l:=t.kids) (p:=p) (i:=0) hlt
     rw [dM] at htl
     have hm:=tK (l:=t.kids) (p:=p) (k:=k+1)
     rw [htl,List.length_append] at hm
     have htk:List.take (p.length+1) (List.map (AV.i IntKind.i64) p++[AV.i IntKind.i64 (k:Int)])=List.map (AV.i IntKind.i64) p++[AV.i IntKind.i64 (k:Int)]:=aJ (by simp)
     have hps:persL (List.map (AV.i IntKind.i64) p++[AV.i IntKind.i64 (k:Int)])=true:=by rw [hY,iT]; rfl
     have hea:(List.map (AV.i IntKind.i64) p++[AV.i IntKind.i64 (k:Int)]).all aJr=true:=by rw [lZ,Q1]; rfl
     refine nH 2 rfl ?_
     refine zh (zA2 htk (zA2 hps hea)) ?_
     have ci:=ih k hlt (l++[(⟨p,⟨2,zT,t.text,t.kids.length⟩⟩:kD)]++testsL (t.kids.take k) p 0) out (h2++[.box false [.i .i64 (t.kids.getD k default).kind,.i .i64 (t.kids.getD k default).n,.s (t.kids.getD k default).text,.s (t.kids.getD k default).sort,.sl ((t.kids.getD k default).kids.flatMap aA) (t.kids.getD k default).kids.length,.sl ((t.kids.getD k default).rest.flatMap aA) (t.kids.getD k default).rest.length],.dead,.arr true 1 (ints p++[.i .i64 (k:Int)])]) (by simp only [List.length_append,aL,bG]; omega) (ho2.more _)
     simp only [ints,aV,aZ,bO,elT,aW,avt] at ci
     refine eZ ci ?_
     rintro r h' ⟨rfl,out3,h3,rfl,ho3,hs4⟩
     refine zg ?_
     refine ⟨(k+1,out3,h3),⟨by dsimp only; omega,?_,hs3.trans ((lY.app _ _).trans hs4)⟩,by dsimp only; omega,rfl,by simp⟩
     dsimp only
     rw [htl]
     rw [bS,bS,aDw,List.length_append,aL] at ho3
     exact ho3
   · have hki:¬ (k:Int) < ((t.kids.length:Nat):Int):=by omega
     have hkt:t.kids.take k=t.kids:=aJ (by omega)
     rw [hkt] at ho2
     refine zh (zf hki) ?_
     exact ⟨rfl,out,h2,rfl,by simpa using ho2,hs2.trans hs3⟩
theorem aId (t:LTerm) (p:List Int) (l:List kD) (out:AV) (g:List AObj) (ht:OkT t) (hp:p.length≤1000) (hl:l.length+(testsL t.kids p 0).length < 1000000) (ho:eP 10 1 g out (l.flatMap bT) l.length) (h7:t.kind=7) (hr:0 < t.rest.length) (ih:∀ k,k < t.kids.length→∀ (l:List kD) (out:AV) (g:List AObj),l.length+(dZ (t.kids.getD k default) (p++[(k:Int)])).length≤1000000→eP 10 1 g out (l.flatMap bT) l.length→ACalls Tryz.prog G0 77 [.ptr 0 0,elT (t.kids.getD k default),.sl (ints (p++[(k:Int)])) (p.length+1)] (.box false [out]::g) (aEa (l++dZ (t.kids.getD k default) (p++[(k:Int)])) g)): ACalls Tryz.prog G0 77 [.ptr 0 0,elT t,.sl (ints p) p.length] (.box false [out]::g) (aEa (l++dZ t p) g):=by
 refine yD (rx:=true) (th:=fun i=>if i=19 then some ⟨none,[],true,true,true,[],[],0⟩ else none) mixed Tryz.func77 rfl (by kernel_rfl) (by kernel_rfl) (ac:=?_) ?_ ?_
 rotate_left
 · simp only [strip,uQ,aMd,RX.off,ckF,ckX,zOf,exd,vOf,fI,fX,dG,dF,cN,Bool.and_true,Bool.and_false,cN,oZ,eQ,lU,tS,fV,qW,cH,cC,iZ,anyPre,Region.binds,Bool.not_true,Bool.not_false,aP,if_true,if_false,jI,iG,Bool.true_and,Bool.false_and,bO,aZ,fI,fX,List.append_nil,bOa,aIs,aOz,G8,sX,cU,dB,cN,dG,dF,cO,beq_self_eq_true,Option.some_beq_some,Nat.reduceBEq,aFt,X8,aFo,oN,bHe,wK,List.any_nil,oZ,dY,bJg,bJf,↓reduceIte,Nat.reduceEqDiff,Nat.reduceBEq,wQ,uP,xN,splitK,aJg,bEl,fX,wK,List.any_nil,Bool.not_true,Bool.not_false,Bool.and_true,Bool.true_and,Bool.and_false,dG,dF]
   rfl
 · simp -implicitDefEqProofs (disch:=omega) only [Tryz.f77,go_sem,List.replicate,simprocAttr]
   have h5:¬ t.kind=5:=by omega
   have h6:¬ t.kind=6:=by omega
   have hri:(0:Int) < ((t.rest.length:Nat):Int):=by omega
   rw [lL,if_neg h5,if_pos h7,if_pos hr]
   have hkk:=ht.kids
   refine zh (zA2 (zf h5) (zA2 (zf h6) (zA2 (zt h7) (zt hri)))) ?_
   (refine zx0 (zA2 (zf h5) (zA2 (zf h6) (zA2 (zt h7) (zt hri)))) ?_; repeat' first | exact trivial | refine zJ ?_ ?_ | refine zH fun hc=>?_)
   refine nH 0 rfl ?_
   refine zg ?_
   refine eZ (M0 (te:=⟨4,zT,[],t.kids.length⟩) aNt (by omega) (by omega) ho rfl) ?_
   rintro r h' ⟨rfl,out1,g1,rfl,ho1,hs1⟩
   have eA:g1[g.length]? = some (.box false [.ptr 0 0]):=hs1 _ _ (by simp) (fun c h=>by cases h)
   have eT:g1[g.length+1]? = some (.box false [.i .i64 (t).kind,.i .i64 (t).n,.s (t).text,.s (t).sort,.sl ((t).kids.flatMap aA) (t).kids.length,.sl ((t).rest.flatMap aA) (t).rest.length]):=hs1 _ _ (by simp) (fun c h=>by cases h)
   have eB:g1[g.length+2]? = some (.box false [.sl (ints p) p.length]):=hs1 _ _ (by simp) (fun c h=>by cases h)
   have hs2:lY g g1:=(lY.app g _).trans hs1
   refine zh (zA2 eA (zA2 eT eB)) ?_
   refine bQ (fun (s:Nat × AV × List AObj)=>[.k,.k,.k,.k,.k,.k,.k,.k,.j,.j,.k,.k,.k,.k,.k,.k,.k,.k,.k,.k,.k,.k,.k,.k,.k,.k,.k,.k,.k,.k,.k,.k,.k,.k,.k,.k,.k,.k,.k,.k,.k,.k,.k,.k,.k,.k,.k,.k,.k,.k,.k,.k,.k,.k,.k,.k,.k,.k,.v (.i .i64 (s.1:Nat)),.j,.j,.j,.j,.j,.j,.j,.j,.j,.j,.j,.j,.j]) (fun s=>(.box false [s.2.1]::s.2.2)) (fun s=>s.1≤t.kids.length∧eP 10 1 s.2.2 s.2.1 ((l++[(⟨p,⟨4,zT,[],t.kids.length⟩⟩:kD)]++testsL (t.kids.take s.1) p 0).flatMap bT) (l++[(⟨p,⟨4,zT,[],t.kids.length⟩⟩:kD)]++testsL (t.kids.take s.1) p 0).length∧lY g1 s.2.2) (fun s=>t.kids.length - s.1) ((0,out1,g1)) ⟨aF _,by simpa [testsL] using ho1,.refl _⟩ rfl (by simp [fD]) ?_
   rintro ⟨k,out,h2⟩ j ⟨hk,ho2,hs3⟩
   dsimp only at hk ho2 hs3
   have fA:=qF hs3 eA (fun c h=>by cases h)
   have fT:=qF hs3 eT (fun c h=>by cases h)
   have fB:=qF hs3 eB (fun c h=>by cases h)
   have lA:=aO fA
   have lB:=aO fB
   have mA:∀ m:List AObj,(h2++m)[g.length]? = some (.box false [.ptr 0 0]):=fun m=>by rw [aD lA]; exact fA
   have mB:∀ m:List AObj,(h2++m)[g.length+2]? = some (.box false [.sl (ints p) p.length]):=fun m=>by rw [aD lB]; exact fB
   by_cases hlt:k < t.kids.length
   · have hki:(k:Int) < ((t.kids.length:Nat):Int):=by omega
     have qA:∀ n:Nat,(g.length+1 < h2.length+(n+1))=True:=fun n=>eq_true (by omega)
     have qB:∀ n:Nat,(g.length+2+1 < h2.length+(n+1))=True:=fun n=>eq_true (by omega)
     simp -implicitDefEqProofs (disch:=omega) only [zt hki,mA,mB,fA,fB,qA,qB,true_and,and_true,go_sem,simprocAttr]
     (repeat' (first | refine gT ?_ ?_ | refine gF ?_ ?_ | refine gC ?_ ?_ | ((refine aY (aQw p (by omega)) ?_ ?_; (focus (simp -implicitDefEqProofs (disch:=omega) only [zt hki,mA,mB,fA,fB,qA,qB,true_and,and_true,zdB,go_sem,simprocAttr]; done))); simp -implicitDefEqProofs (disch:=omega) only [zt hki,mA,mB,fA,fB,qA,qB,true_and,and_true,go_sem,simprocAttr]) | refine aK (by omega) ?_ | (intro hr; have hc:=hr; (try simp only [zdz] at hc); simp -implicitDefEqProofs (disch:=omega) only [hr,zt hki,mA,mB,fA,fB,qA,qB,true_and,and_true,go_sem,simprocAttr]; (try clear hr))))
     have htl:=qC (l:=t.kids) (p:=p) (i:=0) hlt
     rw [dM] at htl
     have hm:=tK (l:=t.kids) (p:=p) (k:=k+1)
     rw [htl,List.length_append] at hm
     have htk:List.take (p.length+1) (List.map (AV.i IntKind.i64) p++[AV.i IntKind.i64 (k:Int)])=List.map (AV.i IntKind.i64) p++[AV.i IntKind.i64 (k:Int)]:=aJ (by simp)
     have hps:persL (List.map (AV.i IntKind.i64) p++[AV.i IntKind.i64 (k:Int)])=true:=by rw [hY,iT]; rfl
     have hea:(List.map (AV.i IntKind.i64) p++[AV.i IntKind.i64 (k:Int)]).all aJr=true:=by rw [lZ,Q1]; rfl
     refine nH 2 rfl ?_
     refine zh (zA2 htk (zA2 hps hea)) ?_
     have ci:=ih k hlt (l++[(⟨p,⟨4,zT,[],t.kids.length⟩⟩:kD)]++testsL (t.kids.take k) p 0) out (h2++[.box false [.i .i64 (t.kids.getD k default).kind,.i .i64 (t.kids.getD k default).n,.s (t.kids.getD k default).text,.s (t.kids.getD k default).sort,.sl ((t.kids.getD k default).kids.flatMap aA) (t.kids.getD k default).kids.length,.sl ((t.kids.getD k default).rest.flatMap aA) (t.kids.getD k default).rest.length],.dead,.arr true 1 (ints p++[.i .i64 (k:Int)])]) (by simp only [List.length_append,aL,bG]; omega) (ho2.more _)
     simp only [ints,aV,aZ,bO,elT,aW,avt] at ci
     refine eZ ci ?_
     rintro r h' ⟨rfl,out3,h3,rfl,ho3,hs4⟩
     refine zg ?_
     refine ⟨(k+1,out3,h3),⟨by dsimp only; omega,?_,hs3.trans ((lY.app _ _).trans hs4)⟩,by dsimp only; omega,rfl,by simp⟩
     dsimp only
     rw [htl]
     rw [bS,bS,aDw,List.length_append,aL] at ho3
     exact ho3
   · have hki:¬ (k:Int) < ((t.kids.length:Nat):Int):=by omega
     have hkt:t.kids.take k=t.kids:=aJ (by omega)
     rw [hkt] at ho2
     refine zh (zf hki) ?_
     exact ⟨rfl,out,h2,rfl,by simpa using ho2,hs2.trans hs3⟩
theorem aIc (t:LTerm) (p:List Int) (l:List kD) (out:AV) (g:List AObj) (ht:OkT t) (hp:p.length≤1000) (hl:l.length+(testsL t.kids p 0).length < 1000000) (ho:eP 10 1 g out (l.flatMap bT) l.length) (h7:t.kind=7) (hr:¬ 0 < t.rest.length) (ih:∀ k,k < t.kids.length→∀ (l:List kD) (out:AV) (g:List AObj),l.length+(dZ (t.kids.getD k default) (p++[(k:Int)])).length≤1000000→eP 10 1 g out (l.flatMap bT) l.length→ACalls Tryz.prog G0 77 [.ptr 0 0,elT (t.kids.getD k default),.sl (ints (p++[(k:Int)])) (p.length+1)] (.box false [out]::g) (aEa (l++dZ (t.kids.getD k default) (p++[(k:Int)])) g)): ACalls Tryz.prog G0 77 [.ptr 0 0,elT t,.sl (ints p) p.length] (.box false [out]::g) (aEa (l++dZ t p) g):=by
 refine yD (rx:=true) (th:=fun i=>if i=19 then some ⟨none,[],true,true,true,[],[],0⟩ else none) mixed Tryz.func77 rfl (by kernel_rfl) (by kernel_rfl) (ac:=?_) ?_ ?_
 rotate_left
 · simp only [strip,uQ,aMd,RX.off,ckF,ckX,zOf,exd,vOf,fI,fX,dG,dF,cN,Bool.and_true,Bool.and_false,cN,oZ,eQ,lU,tS,fV,qW,cH,cC,iZ,anyPre,Region.binds,Bool.not_true,Bool.not_false,aP,if_true,if_false,jI,iG,Bool.true_and,Bool.false_and,bO,aZ,fI,fX,List.append_nil,bOa,aIs,aOz,G8,sX,cU,dB,cN,dG,dF,cO,beq_self_eq_true,Option.some_beq_some,Nat.reduceBEq,aFt,X8,aFo,oN,bHe,wK,List.any_nil,oZ,dY,bJg,bJf,↓reduceIte,Nat.reduceEqDiff,Nat.reduceBEq,wQ,uP,xN,splitK,aJg,bEl,fX,wK,List.any_nil,Bool.not_true,Bool.not_false,Bool.and_true,Bool.true_and,Bool.and_false,dG,dF]
   rfl
 · simp -implicitDefEqProofs (disch:=omega) only [Tryz.f77,go_sem,List.replicate,simprocAttr]
   have h5:¬ t.kind=5:=by omega
   have h6:¬ t.kind=6:=by omega
   have hri:¬ (0:Int) < ((t.rest.length:Nat):Int):=by omega
   rw [lL,if_neg h5,if_pos h7,if_neg hr]
   have hkk:=ht.kids
   refine zh (zA2 (zf h5) (zA2 (zf h6) (zA2 (zt h7) (zf hri)))) ?_
   (refine zx0 (zA2 (zf h5) (zA2 (zf h6) (zA2 (zt h7) (zf hri)))) ?_; repeat' first | exact trivial | refine zJ ?_ ?_ | refine zH fun hc=>?_)
   refine nH 0 rfl ?_
   refine zg ?_
   refine eZ (M0 (te:=⟨3,zT,[],t.kids.length⟩) aNt (by omega) (by omega) ho rfl) ?_
   rintro r h' ⟨rfl,out1,g1,rfl,ho1,hs1⟩
   have eA:g1[g.length]? = some (.box false [.ptr 0 0]):=hs1 _ _ (by simp) (fun c h=>by cases h)
   have eT:g1[g.length+1]? = some (.box false [.i .i64 (t).kind,.i .i64 (t).n,.s (t).text,.s (t).sort,.sl ((t).kids.flatMap aA) (t).kids.length,.sl ((t).rest.flatMap aA) (t).rest.length]):=hs1 _ _ (by simp) (fun c h=>by cases h)
   have eB:g1[g.length+2]? = some (.box false [.sl (ints p) p.length]):=hs1 _ _ (by simp) (fun c h=>by cases h)
   have hs2:lY g g1:=(lY.app g _).trans hs1
   refine zh (zA2 eA (zA2 eT eB)) ?_
   refine bQ (fun (s:Nat × AV × List AObj)=>[.k,.k,.k,.k,.k,.k,.k,.k,.j,.j,.k,.k,.k,.k,.k,.k,.k,.k,.k,.k,.k,.k,.k,.k,.k,.k,.k,.k,.k,.k,.k,.k,.k,.k,.k,.k,.k,.k,.k,.k,.k,.k,.k,.k,.k,.k,.k,.k,.k,.k,.k,.k,.k,.k,.k,.k,.k,.k,.v (.i .i64 (s.1:Nat)),.j,.j,.j,.j,.j,.j,.j,.j,.j,.j,.j,.j,.j]) (fun s=>(.box false [s.2.1]::s.2.2)) (fun s=>s.1≤t.kids.length∧eP 10 1 s.2.2 s.2.1 ((l++[(⟨p,⟨3,zT,[],t.kids.length⟩⟩:kD)]++testsL (t.kids.take s.1) p 0).flatMap bT) (l++[(⟨p,⟨3,zT,[],t.kids.length⟩⟩:kD)]++testsL (t.kids.take s.1) p 0).length∧lY g1 s.2.2) (fun s=>t.kids.length - s.1) ((0,out1,g1)) ⟨aF _,by simpa [testsL] using ho1,.refl _⟩ rfl (by simp [fD]) ?_
   rintro ⟨k,out,h2⟩ j ⟨hk,ho2,hs3⟩
   dsimp only at hk ho2 hs3
   have fA:=qF hs3 eA (fun c h=>by cases h)
   have fT:=qF hs3 eT (fun c h=>by cases h)
   have fB:=qF hs3 eB (fun c h=>by cases h)
   have lA:=aO fA
   have lB:=aO fB
   have mA:∀ m:List AObj,(h2++m)[g.length]? = some (.box false [.ptr 0 0]):=fun m=>by rw [aD lA]; exact fA
   have mB:∀ m:List AObj,(h2++m)[g.length+2]? = some (.box false [.sl (ints p) p.length]):=fun m=>by rw [aD lB]; exact fB
   by_cases hlt:k < t.kids.length
   · have hki:(k:Int) < ((t.kids.length:Nat):Int):=by omega
     have qA:∀ n:Nat,(g.length+1 < h2.length+(n+1))=True:=fun n=>eq_true (by omega)
     have qB:∀ n:Nat,(g.length+2+1 < h2.length+(n+1))=True:=fun n=>eq_true (by omega)
     simp -implicitDefEqProofs (disch:=omega) only [zt hki,mA,mB,fA,fB,qA,qB,true_and,and_true,go_sem,simprocAttr]
     (repeat' (first | refine gT ?_ ?_ | refine gF ?_ ?_ | refine gC ?_ ?_ | ((refine aY (aQw p (by omega)) ?_ ?_; (focus (simp -implicitDefEqProofs (disch:=omega) only [zt hki,mA,mB,fA,fB,qA,qB,true_and,and_true,zdB,go_sem,simprocAttr]; done))); simp -implicitDefEqProofs (disch:=omega) only [zt hki,mA,mB,fA,fB,qA,qB,true_and,and_true,go_sem,simprocAttr]) | refine aK (by omega) ?_ | (intro hr; have hc:=hr; (try simp only [zdz] at hc); simp -implicitDefEqProofs (disch:=omega) only [hr,zt hki,mA,mB,fA,fB,qA,qB,true_and,and_true,go_sem,simprocAttr]; (try clear hr))))
     have htl:=qC (l:=t.kids) (p:=p) (i:=0) hlt
     rw [dM] at htl
     have hm:=tK (l:=t.kids) (p:=p) (k:=k+1)
     rw [htl,List.length_append] at hm
     have htk:List.take (p.length+1) (List.map (AV.i IntKind.i64) p++[AV.i IntKind.i64 (k:Int)])=List.map (AV.i IntKind.i64) p++[AV.i IntKind.i64 (k:Int)]:=aJ (by simp)
     have hps:persL (List.map (AV.i IntKind.i64) p++[AV.i IntKind.i64 (k:Int)])=true:=by rw [hY,iT]; rfl
     have hea:(List.map (AV.i IntKind.i64) p++[AV.i IntKind.i64 (k:Int)]).all aJr=true:=by rw [lZ,Q1]; rfl
     refine nH 2 rfl ?_
     refine zh (zA2 htk (zA2 hps hea)) ?_
     have ci:=ih k hlt (l++[(⟨p,⟨3,zT,[],t.kids.length⟩⟩:kD)]++testsL (t.kids.take k) p 0) out (h2++[.box false [.i .i64 (t.kids.getD k default).kind,.i .i64 (t.kids.getD k default).n,.s (t.kids.getD k default).text,.s (t.kids.getD k default).sort,.sl ((t.kids.getD k default).kids.flatMap aA) (t.kids.getD k default).kids.length,.sl ((t.kids.getD k default).rest.flatMap aA) (t.kids.getD k default).rest.length],.dead,.arr true 1 (ints p++[.i .i64 (k:Int)])]) (by simp only [List.length_append,aL,bG]; omega) (ho2.more _)
     simp only [ints,aV,aZ,bO,elT,aW,avt] at ci
     refine eZ ci ?_
     rintro r h' ⟨rfl,out3,h3,rfl,ho3,hs4⟩
     refine zg ?_
     refine ⟨(k+1,out3,h3),⟨by dsimp only; omega,?_,hs3.trans ((lY.app _ _).trans hs4)⟩,by dsimp only; omega,rfl,by simp⟩
     dsimp only
     rw [htl]
     rw [bS,bS,aDw,List.length_append,aL] at ho3
     exact ho3
   · have hki:¬ (k:Int) < ((t.kids.length:Nat):Int):=by omega
     have hkt:t.kids.take k=t.kids:=aJ (by omega)
     rw [hkt] at ho2
     refine zh (zf hki) ?_
     exact ⟨rfl,out,h2,rfl,by simpa using ho2,hs2.trans hs3⟩
theorem bLg:∀ t:LTerm,OkT t→∀ (p:List Int) (l:List kD) (out:AV) (g:List AObj),p.length+highT t≤1000→l.length+(dZ t p).length≤1000000→eP 10 1 g out (l.flatMap bT) l.length→ACalls Tryz.prog G0 77 [.ptr 0 0,elT t,.sl (ints p) p.length] (.box false [out]::g) (aEa (l++dZ t p) g):=
 dK (Q := fun t=>OkT t→∀ (p:List Int) (l:List kD) (out:AV) (g:List AObj),p.length+highT t≤1000→l.length+(dZ t p).length≤1000000→eP 10 1 g out (l.flatMap bT) l.length→ACalls Tryz.prog G0 77 [.ptr 0 0,elT t,.sl (ints p) p.length] (.box false [out]::g) (aEa (l++dZ t p) g)) fun t hk _ ht p l out g hp hn ho=>by
   have hH:∀ (l:List LTerm) (k:Nat),k < l.length→highT (l.getD k default)≤highL l:=by
     intro l
     induction l with
     | nil=>intro k h; simp at h
     | cons x l ih=>
       intro k h
       rw [highL]
       cases k with
       | zero=>simp only [kO]; omega
       | succ k=>have:=ih k (by simpa using h); simp only [aSj]; omega
   have e:=qM t
   by_cases h57:t.kind=5∨t.kind=7
   · have hr:=aHz (p:=p) h57
     have ih:∀ k,k < t.kids.length→∀ (l:List kD) (out:AV) (g:List AObj),l.length+(dZ (t.kids.getD k default) (p++[(k:Int)])).length≤1000000→eP 10 1 g out (l.flatMap bT) l.length→ACalls Tryz.prog G0 77 [.ptr 0 0,elT (t.kids.getD k default),.sl (ints (p++[(k:Int)])) (p.length+1)] (.box false [out]::g) (aEa (l++dZ (t.kids.getD k default) (p++[(k:Int)])) g):=fun k h l out g hn ho=>by
       have h1:=hH t.kids k h
       have:=hk _ (bE (d:=default) h) (ht.kid _ (bE (d:=default) h)) (p++[(k:Int)]) l out g (by simp only [List.length_append,aL,bG]; omega) hn ho
       rw [List.length_append] at this
       exact this
     rcases h57 with h5 | h7
     · exact aLo t p l out g ht (by omega) (by omega) ho h5 ih
     · by_cases hrest:0 < t.rest.length
       · exact aId t p l out g ht (by omega) (by omega) ho h7 hrest ih
       · exact aIc t p l out g ht (by omega) (by omega) ho h7 hrest ih
   · exact aTa t p l out g ht (by omega) (by omega) ho (fun h=>h57 (.inl h)) (fun h=>h57 (.inr h))
theorem aAe (t:LTerm) (ht:OkT t) (hp:highT t≤1000) (hn:(dZ t []).length≤1000000): CT 43 [elT t] (ava (dZ t [])):=by
 refine aE mixed Tryz.func43 g0 ?_
 · skip
   have c:=bLg t ht [] [] .e0 [] (by simpa using hp) (by simpa using hn) eR
   simp only [ints,bO,elT,aW,avt,cH,bG] at c
   refine nH 2 rfl ?_
   refine zg ?_
   refine eZ (Vo.frame (is:=[1]) g0 c (by simp) rfl ?_ ?_) ?_
   · intro i o ho
     cases i with
     | zero=>simp only [cU,aB] at ho; subst ho; rfl
     | succ i=>simp at ho
   · simp only [renL,ren,renL_pers _ _ fE,emb]; rfl
   · rintro r' h' ⟨r0,h1,⟨rfl,out',g',rfl,ho',_⟩,_,rfl,rfl⟩
     rcases ho' with ⟨rfl,e1,e2⟩ | ⟨q,rfl,hi,hil⟩
     · simp only [rS,aZ,kH,aL,bG,dM,fF,cS,AObj.ren,renL,ren]
       refine zg ?_
       rw [ava,e1,e2]
       exact Z3 (pre:=[]) (sz:=10) (.inl ⟨rfl,rfl,rfl⟩) rfl
     · simp only [rS,aZ,kH,aL,bG,dM,fF,cS,AObj.ren,renL,ren]
       refine zg ?_
       exact Z3 (pre:=[_,_]) (sz:=10) (.inr ⟨q,by simp [emb]; omega,by rw [dR,hi]; simp [AObj.ren,renL_pers _ _ W1],hil⟩) W1
theorem bLs (s:cI) (t:LTerm) (hm:Small s) (hs:OkS s) (ht:OkT t): CT 13 [.agg (bB s),elT t] (aHe (T1 s t)):=by
 refine cQ mixed Tryz.func13 g0 ?_
 · simp -implicitDefEqProofs (disch:=omega) only [Tryz.f13,go_sem,List.replicate,simprocAttr,aHe]
   have c1:=aAf s t hm hs ht
   rcases gM (B0 s t) with h | h
   · have hv:=mQ h
     have hv2:=hv
     simp only [gD,aC,decide_eq_true_eq] at hv2
     have c2:=aAe t ht (by omega) (eK (zP t []) (by omega))
     have c3:=bMt t ht
     rw [h] at c1
     (refine zy3 @ava.eq_1 c1 c2 c3 ?_; repeat' first | exact trivial | refine zJ ?_ ?_ | refine zH fun hc=>?_)
     all_goals exact aG (by rw [T1,if_pos h]) (by simp [pers,persL,ava,W1,mat])
   · rw [h] at c1
     (refine zt1 c1 ?_; repeat' first | exact trivial | refine zJ ?_ ?_ | refine zH fun hc=>?_)
     all_goals exact .inr ⟨by rw [T1,if_neg (by rw [h]; simp)]; exact ⟨rfl,rfl,trivial⟩,eS,fun i hi=>absurd hi (by show ¬ i ∈ []; simp)⟩

def N6 (s:cI) (x:LTest) (so:Bool):Bool:=
 if x.op=1 then decide (1≤x.term.kind) && (decide (x.term.kind≤4) && (gD cP x.term && (decide (x.text=[]) && decide (x.n=0))))
 else if x.op=2 then decide (x.term=zT) && (W6 x.text && (decide (0≤x.n) && decide (x.n≤8)))
 else if x.op=3∨x.op=4 then decide (x.term=zT) && (decide (x.text=[]) && (decide (0≤x.n) && decide (x.n≤2000)))
 else if x.op=5∨x.op=7 then decide (x.term=zT) && (decide (x.text=[]) && decide (x.n=0))
 else if x.op=6 then decide (x.term=zT) && (decide (x.n=0) && (!so || existsA s x.text))
 else false
theorem bIj (t:LTerm) (ht:OkT t):CT 154 [elT t,.agg [.i .i64 0,.i .i64 0,.s [],.s [],.sl [] 0,.sl [] 0]] (.b (decide (t=zT))):=bAo t zT ht aNt
structure OkX (x:LTest):Prop where
 term:OkT x.term
 text:x.text.length≤140737488355328
theorem bLe (s:cI) (x:LTest) (so:Bool) (hx:OkX x): CT 98 [dD s,.agg (iR x),.b so] (.b (N6 s x so)):=by
 refine cQ mixed Tryz.func98 g0 ?_
 · simp -implicitDefEqProofs (disch:=omega) only [Tryz.f98,go_sem,List.replicate,simprocAttr,iR,avt]
   have c1:=bIj x.term hx.term
   have c2:=aQp x.term hx.term
   have c3:=bAj x.text hx.text
   have c4:=O8 s x.text
   (refine zt4 c1 c2 c3 c4 ?_; repeat' first | exact trivial | refine zJ ?_ ?_ | refine zH fun hc=>?_)
   all_goals clear c1 c2 c3 c4
   all_goals exact aG (by (simp_all [N6,List.length_eq_zero_iff]) <;> (intros; omega)) rfl
def aCq (s:cI) (x:LTest) (t:LTerm):Bool:=
 if x.op=1 then decide (x.term=t)
 else if x.op=2 then decide (t.kind=5) && (decide (t.text=x.text) && decide ((t.kids.length:Int)=x.n))
 else if x.op=3 then decide (t.kind=7) && decide ((t.kids.length:Int)=x.n)
 else if x.op=4 then decide (t.kind=7) && decide (x.n≤(t.kids.length:Int))
 else if x.op=5 then decide (t.kind=8)
 else if x.op=7 then decide (t.kind=8) && decide (t.kids.length=0)
 else jE s (iL s t) x.text
theorem bLc (s:cI) (x:LTest) (t:LTerm) (hs:Small s) (hx:OkX x) (ht:OkT t): CT 101 [dD s,.agg (iR x),elT t] (.b (aCq s x t)):=by
 refine cQ mixed Tryz.func101 g0 ?_
 · simp -implicitDefEqProofs (disch:=omega) only [Tryz.f101,go_sem,List.replicate,simprocAttr,iR,avt]
   have c1:=bAo x.term t hx.term ht
   have c2:=aQo s t
   have c3:=aWj s (iL s t) x.text hs
   (refine zt3 c1 c2 c3 ?_; repeat' first | exact trivial | refine zJ ?_ ?_ | refine zH fun hc=>?_)
   all_goals clear c1 c2 c3
   all_goals exact aG (by (simp_all [aCq]) <;> (intros; omega)) rfl
def uF:LTerm→List Int→Option LTerm
 | t,[]=>some t
 | t,i::p=>if 0≤i∧i < (t.kids.length:Int) then uF (t.kids.getD i.toNat default) p else none
def oF (s:cI) (a:kD) (t:LTerm):Bool:=match uF t a.path with
 | some u=>aCq s a.test u
 | none=>false

theorem bAd (s:cI) (a:kD) (t:LTerm) (hs:Small s) (hx:OkX a.test) (hp:a.path.length≤1000000) (ht:OkT t): CT 51 [dD s,.agg (bT a),elT t] (.b (oF s a t)):=by
 refine cQ mixed Tryz.func51 g0 ?_
 · simp -implicitDefEqProofs (disch:=omega) only [Tryz.f51,go_sem,List.replicate,simprocAttr,bT,avt]
   (refine zs0 ?_; repeat' first | exact trivial | refine zJ ?_ ?_ | refine zH fun hc=>?_)
   refine bQ (fun (s:Nat × LTerm)=>[.k,.k,.k,.k,.k,.k,.j,.k,.j,.k,.k,.k,.v (.i .i64 (s.1:Nat)),.j,.j,.j,.j,.j,.j,.j,.j,.j,.j,.j,.j,.j,.j,.j,.j,.j,.j,.k,.k,.k,.k,.k]) (fun s=>[.box false (bT a),.box false [.i .i64 (s.2).kind,.i .i64 (s.2).n,.s (s.2).text,.s (s.2).sort,.sl ((s.2).kids.flatMap aA) (s.2).kids.length,.sl ((s.2).rest.flatMap aA) (s.2).rest.length]]) (fun s=>s.1≤a.path.length∧OkT s.2∧uF t a.path=uF s.2 (a.path.drop s.1)) (fun s=>a.path.length - s.1) ((0,t)) ⟨aF _,ht,rfl⟩ rfl (by simp [fD]) ?_
   rintro ⟨k,u⟩ j ⟨hk,hu,hw⟩
   dsimp only at hk hu hw
   have hku:=hu.kids
   by_cases hlt:k < a.path.length
   · have hki:(k:Int) < ((a.path.length:Nat):Int):=by omega
     have hd:a.path.drop k=a.path.getD k 0::a.path.drop (k+1):=by
       rw [bR hlt]; simp [List.getD,hlt]
     rw [hd,uF] at hw
     refine zh (zA2 (zt hki) @bT.eq_1) ?_
     (refine zx0 (zA2 (zt hki) @bT.eq_1) ?_; repeat' first | exact trivial | refine zJ ?_ ?_ | refine zH fun hc=>?_)
     · rw [if_neg (by omega)] at hw
       exact aG (by rw [oF,hw]) rfl
     · have hi:0≤a.path.getD k 0∧a.path.getD k 0 < (u.kids.length:Int):=by omega
       rw [if_pos hi] at hw
       exact ⟨(k+1,u.kids.getD (a.path.getD k 0).toNat default),⟨by dsimp only; omega,hu.kid _ (bE (by omega)),hw⟩,by dsimp only; omega,rfl,by simp⟩
     · rw [if_neg (by omega)] at hw
       exact aG (by rw [oF,hw]) rfl
   · have hki:¬ (k:Int) < ((a.path.length:Nat):Int):=by omega
     rw [bJ (by omega),uF] at hw
     have c:=bLc s a.test u hs hx hu
     simp only [iR,avt] at c
     refine zh (zA2 (zf hki) @bT.eq_1) ?_
     (refine zy1 (zA2 (zf hki) @bT.eq_1) c ?_; repeat' first | exact trivial | refine zJ ?_ ?_ | refine zH fun hc=>?_)
     exact aG (by rw [oF,hw]) rfl
def aDi (i:Int):Bool:=decide (i < 0) || decide (2000 < i)
theorem bOo (i:Int): CT 97 [.i .i64 i] (.b (aDi i)):=by
 refine aE mixed Tryz.func97 g0 ?_
 · skip
   (refine zs0 ?_; repeat' first | exact trivial | refine zJ ?_ ?_ | refine zH fun hc=>?_)
   all_goals exact aG (by (simp_all [aDi]) <;> (intros; omega)) rfl
theorem bJm (l:List Int) (hl:l.length≤1000000): CT 153 [.sl (ints l) l.length,.fn 97 [] []] (.i .i64 (idx aDi l)):=by
 refine aE mixed Tryz.func153 g0 ?_
 · skip
   (refine zs0 ?_; repeat' first | exact trivial | refine zJ ?_ ?_ | refine zH fun hc=>?_)
   refine bQ (fun (k:Nat)=>[.k,.k,.k,.k,.j,.j,.k,.k,.v (.i .i64 (k:Nat)),.j,.j,.j,.j,.j,.j,.j,.j,.j,.j]) (fun k=>[]) (fun k=>k≤l.length∧∀ j,j < k→aDi (l.getD j 0)=false) (fun k=>l.length - k) (0) ⟨aF _,fun j h=>by omega⟩ rfl (by simp [fD]) ?_
   rintro k j ⟨hk,hn⟩
   have c:=bOo (l.getD k 0)
   refine zg ?_
   (refine zt1 c ?_; repeat' first | exact trivial | refine zJ ?_ ?_ | refine zH fun hc=>?_)
   · refine aG ?_ (by rfl)
     rw [oD (d:=0) (k:=k) (by omega) hc hn]
   · exact ⟨k+1,⟨by omega,lG hn hc⟩,by omega,rfl⟩
   · refine aG ?_ (by rfl)
     rw [oE (fun j hj=>hn j (by omega))]
theorem bKh (l:List Int) (hl:l.length≤1000000): CT 96 [.sl (ints l) l.length,.fn 97 [] []] (.b (l.any aDi)):=by
 refine aE mixed Tryz.func96 g0 ?_
 · skip
   (refine zt1 (bJm l hl) ?_; repeat' first | exact trivial | refine zJ ?_ ?_ | refine zH fun hc=>?_)
   all_goals exact aG (by rw [rV]) rfl
def C6 (s:cI) (a:kD):Bool:=decide (a.path.length≤60) && (!a.path.any aDi && N6 s a.test true)
structure OkK (a:kD):Prop where
 test:OkX a.test
 path:a.path.length≤1000000
theorem aAd (s:cI) (a:kD) (ha:OkK a): CT 49 [dD s,.agg (bT a)] (.b (C6 s a)):=by
 refine cQ mixed Tryz.func49 g0 ?_
 · simp -implicitDefEqProofs (disch:=omega) only [Tryz.f49,go_sem,List.replicate,simprocAttr,bT,avt]
   have c1:=bKh a.path ha.path
   have c2:=bLe s a.test true ha.test
   simp only [iR,avt] at c2
   rw [C6]
   generalize a.path.any aDi=A at *
   generalize N6 s a.test true=B at *
   (refine zt2 c1 c2 ?_; repeat' first | exact trivial | refine zJ ?_ ?_ | refine zH fun hc=>?_)
   all_goals clear c1 c2
   all_goals exact aG (by (simp_all) <;> (intros; omega)) rfl
def aPa (s:cI) (a:kD) (t:LTerm):Bool × Int:=if (eN s && (C6 s a && fY s t))=true then (oF s a t,0) else (false,2)
def aHa (r:Bool × Int):AV:=.tup [.b r.1,.i .i64 r.2]
theorem bLr (s:cI) (a:kD) (t:LTerm) (hm:Small s) (hs:OkS s) (ha:OkK a) (ht:OkT t): CT 15 [.agg (bB s),.agg (bT a),elT t] (aHa (aPa s a t)):=by
 refine cQ mixed Tryz.func15 g0 ?_
 · simp -implicitDefEqProofs (disch:=omega) only [Tryz.f15,go_sem,List.replicate,simprocAttr,aHa,bT,avt]
   have c1:=aQr s hm hs
   have c3:=aAd s a ha
   have c4:=aQq s t hm ht
   have c5:=bAd s a t hm ha.test ha.path ht
   simp only [bT,avt] at c3 c5
   rw [aPa]
   rcases gM (eN s) with h | h
   · have c2:=aJs s hm (jP h)
     rw [h] at c1
     (repeat' (first | refine gT ?_ ?_ | refine gF ?_ ?_ | refine gC ?_ ?_ | ((first | (refine aY (c1) ?_ ?_; (focus (simp -implicitDefEqProofs (disch:=omega) only [zdB,go_sem,simprocAttr]; done))) | (refine aY (c2) ?_ ?_; (focus (simp -implicitDefEqProofs (disch:=omega) only [zdB,go_sem,simprocAttr]; done))) | (refine aY (c3) ?_ ?_; (focus (simp -implicitDefEqProofs (disch:=omega) only [zdB,go_sem,simprocAttr]; done))) | (refine aY (c4) ?_ ?_; (focus (simp -implicitDefEqProofs (disch:=omega) only [zdB,go_sem,simprocAttr]; done))) | (refine aY (c5) ?_ ?_; (focus (simp -implicitDefEqProofs (disch:=omega) only [zdB,go_sem,simprocAttr]; done)))); simp -implicitDefEqProofs (disch:=omega) only [go_sem,simprocAttr]) | refine aK (by omega) ?_ | (intro hr; have hc:=hr; (try simp only [zdz] at hc); simp -implicitDefEqProofs (disch:=omega) only [hr,go_sem,simprocAttr]; (try clear hr))))
     all_goals clear c1 c2 c3 c4 c5
     all_goals exact aG (by simp_all) rfl
   · rw [h] at c1
     (refine zt1 c1 ?_; repeat' first | exact trivial | refine zJ ?_ ?_ | refine zH fun hc=>?_)
     all_goals exact aG (by rw [h]; rfl) rfl

@[simp] theorem bHc:nodesL []=0:=rfl
@[simp] theorem bJq:highL []=0:=rfl
theorem tQ {l:List LTerm} {k:Nat} (h:k < l.length):nodesL (l.take (k+1))=nodesL (l.take k)+nodesT (l.getD k default):=by
 have:∀ (a b:List LTerm),nodesL (a++b)=nodesL a+nodesL b:=by
   intro a b
   induction a with
   | nil=>simp [nodesL]
   | cons x a ih=>rw [cC,nodesL,nodesL,ih]; omega
 rw [eH (d:=default) h,this,nodesL,nodesL]; omega
theorem nA:∀ {l:List LTerm} {k:Nat},nodesL (l.take k)≤nodesL l
 | [],k=>by simp
 | x::l,0=>by simp [nodesL]
 | x::l,k+1=>by rw [cV,nodesL,nodesL]; have:=nA (l:=l) (k:=k); omega
theorem sL {l:List LTerm} {k:LTerm} (h:k ∈ l):nodesT k≤nodesL l∧highT k≤highL l:=by
 induction l with
 | nil=>cases h
 | cons x l ih=>
   rw [nodesL,highL]
   rcases cD.1 h with rfl | h
   · omega
   · have:=ih h; omega



theorem bQx:(41:Nat) ≠ 3:=by decide
theorem bYn {h:List AObj}:jB Tryz.prog h .cap #[41] [.e0]=some (.i .i64 0,h):=aQz bVw
theorem bTr {dr:Option DR} {d:Option Nat} {os:List fR} {K:List AV→List AObj→Prop} {env:List AV} {h:List AObj} {s x:Operand}:dS Tryz.prog G0 dr (.call ⟨.builtin .append,#[s,x],#[41,3]⟩) d os K env h=S1 Tryz.prog G0 dr (Tryz.prog.underlying 3) (pT Tryz.prog h 41 (aev G0 env s) (aev G0 env x)) d os K env:=uV bQx
attribute [go_sem] bYn
attribute [go_sem ↓] bTr
theorem bKv (n:Nat) (hn:n≤1000000): CT 221 [.e0,.i .i64 n] (.own 10 [] 0):=by
 refine aE mixed Tryz.func221 g0 ?_
 · skip
   (refine zs0 ?_; repeat' first | exact trivial | refine zJ ?_ ?_ | refine zH fun hc=>?_)
   · exfalso; omega
   · rw [if_pos (by omega),if_neg (by omega)]
     refine zg ?_
     refine ⟨by simp [List.length_flatten],?_⟩
     exact .inr ⟨⟨rfl,rfl,_,rfl,by simp,by simp,rfl⟩,by simp [bY],by simp [bY,jA]⟩
   · exact .inr ⟨⟨rfl,rfl⟩,by simp [bY],by simp [bY]⟩
theorem aCj {l:List (List kD)} {k:Nat} (h:k < l.length):(l.map ava)[k]? = some (ava (l.getD k [])):=by simp [h]
attribute [go_sem] aCj ava
def T7 (l:List (List kD)):Nat:=l.flatten.length
@[simp] theorem bPk:T7 []=0:=rfl
theorem zS {l:List (List kD)} {k:Nat} (h:k < l.length):T7 (l.take (k+1))=T7 (l.take k)+(l.getD k []).length:=by
 rw [eH (d:=[]) h]; simp [T7]
theorem aLt {l:List (List kD)} {k:Nat}:T7 (l.take k)≤T7 l:=by
 have h:(l.take k++l.drop k).flatten.length=l.flatten.length:=by rw [eL]
 unfold T7
 rw [kP,List.length_append] at h
 omega
theorem aLu {l:List (List kD)} {k:Nat} (h:k < l.length):T7 (l.take k)+(l.getD k []).length≤T7 l:=by
 rw [← zS h]; exact aLt
theorem aQi (l:List (List kD)) (hl:l.length≤1000) (hs:T7 l≤1000000): CT 181 [.sl (l.map ava) l.length] (ava l.flatten):=by
 refine aE mixed Tryz.func181 g0 ?_
 · skip
   refine bQ (fun (k:Nat)=>[.k,.k,.k,.v (.i .i64 (T7 (l.take k):Nat)),.k,.j,.k,.k,.k,.k,.k,.v (.i .i64 k),.j,.j,.j,.j,.j,.j,.j,.j,.j,.j,.j,.k,.k,.k,.k,.k,.k,.k,.k,.k,.k,.k,.k,.k]) (fun k=>[]) (fun k=>k≤l.length) (fun k=>l.length - k) (0) (aF _) rfl (by simp [fD]) ?_
   rintro k j hk
   have hat:k < l.length→T7 (l.take k)+(l.getD k []).length≤T7 l:=aLu
   have hkk:=aLt (l:=l) (k:=k)
   refine zg ?_
   (refine zs0 ?_; repeat' first | exact trivial | refine zJ ?_ ?_ | refine zH fun hc=>?_)
   · exfalso; omega
   · refine ⟨k+1,by omega,by omega,?_,by simp⟩
     rw [zS (by omega)]; simp
   · have h1:k=l.length:=by omega
     subst h1
     refine aRb (bKv (T7 l) (by omega)) (by simp -implicitDefEqProofs (disch:=omega) only [aTj,go_sem,simprocAttr]) ?_
     refine zg ?_
     refine bQ (fun (t:Nat × AV × List AObj)=>[.k,.k,.k,.k,.k,.k,.v (t.2.1),.k,.j,.k,.k,.k,.k,.k,.k,.k,.k,.k,.k,.k,.k,.k,.k,.k,.k,.k,.k,.v (.i .i64 (t.1:Nat)),.j,.j,.j,.j,.j,.j,.j,.k]) (fun t=>t.2.2) (fun t=>t.1≤l.length∧eP 10 0 t.2.2 t.2.1 ((l.take t.1).flatten.flatMap bT) (T7 (l.take t.1))) (fun t=>l.length - t.1) ((0,.hs 0 0 0 false,[.arr false 10 []])) ⟨aF _,.inr ⟨0,rfl,rfl,rfl⟩⟩ rfl (by simp [fD]) ?_
     rintro ⟨k,out,g⟩ j ⟨hk,ho⟩
     dsimp only at hk ho
     have hat:k < l.length→T7 (l.take k)+(l.getD k []).length≤T7 l:=aLu
     refine zg ?_
     (refine zs0 ?_; repeat' first | exact trivial | refine zJ ?_ ?_ | refine zH fun hc=>?_)
     · refine eD (more:=[]) (pre:=[]) (news:=(l.getD k []).flatMap bT) (m:=(l.getD k []).length) ho rfl (by simp) bYf bVm bWl bYp rfl (by decide) (by simp -implicitDefEqProofs (disch:=omega) only [go_sem,simprocAttr]) (by simp -implicitDefEqProofs (disch:=omega) only [go_sem,simprocAttr]) ⟨by omega,by omega⟩ ?_
       intro out' g' ho' _
       refine zg ?_
       refine ⟨(k+1,out',g'),⟨by omega,?_⟩,by simp; omega,rfl,by simp⟩
       dsimp only
       rw [zS (by omega),eH (d:=[]) (by omega),kP,dN]
       simpa using ho'
     · have h1:k=l.length:=by omega
       subst h1
       rw [iJ] at ho
       exact Z3 (pre:=[]) (sz:=10) ho W1
end Go.Proofs.YtifefbhllfdmlaaGreatDoor
