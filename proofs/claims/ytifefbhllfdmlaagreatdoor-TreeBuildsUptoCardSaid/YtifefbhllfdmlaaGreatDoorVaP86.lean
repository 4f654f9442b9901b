/-
  What functions of the chapter return, as plain functions of what they are given; no condition beyond those that each theorem names.
-/
import Derived.Test.YtifefbhllfdmlaaGreatDoorVaP85
import Derived.Test.YtifefbhllfdmlaaGreatDoorVoP88
import Derived.Test.YtifefbhllfdmlaaGreatDoorVaP83
import Derived.Test.YtifefbhllfdmlaaGreatDoorSoP83
set_option maxRecDepth 100000
set_option linter.unusedSimpArgs false
set_option linter.unusedVariables false
set_option maxHeartbeats 4000000
namespace Go.Proofs.YtifefbhllfdmlaaGreatDoor
open Go Go.Vo
open Nat (reduceAdd reduceSub reduceMul reduceLeDiff reduceLT reduceEqDiff)
open Int (reduceNeg)

abbrev ints (p:List Int):List AV:=p.map (.i .i64)
theorem O4 {pre g:List AObj} {sz n:Nat} {out:AV} {cells:List AV} (ho:dV sz pre.length g out cells n) (hp:persL cells=true):Fin (pre++g) out (.sl cells n):=by
 rcases ho with ⟨rfl,rfl,rfl⟩ | ⟨i,rfl,hi,hl⟩
 · exact .inr ⟨rfl,by simp [bW],by simp [bW]⟩
 · refine .inr ⟨?_,by simp [bW],by simp [bW]⟩
   show AV.sl cells n=gH dep (pre++g) (.hs (i+pre.length) 0 n false)
   have hg:(pre++g)[i+pre.length]? = some (.arr false sz cells):=by
     rw [aK (by omega)]; simpa using hi
   have hd:(cells.drop 0).take (n * sz)=cells:=by rw [cZ,aH (by omega)]
   simp only [fV,pers,rH,hg,hd,hp,if_true,aM,if_false]
   rw [if_pos (by omega)]
theorem aTl (p:List Int) (hp:p.length≤1000000): CT 119 [.sl (ints p) p.length] (.own 1 (ints p) p.length):=by
 refine aL mixed Tryz.func119 g0 ?_
 · skip
   refine bCp (fun h=>?_) ?_
   · refine zg ?_
     obtain rfl:=List.length_eq_zero_iff.1 h
     exact xS (pre:=[]) (g:=[]) (.inl ⟨rfl,rfl,rfl⟩) eP
   · (repeat' (first | refine gT ?_ ?_ | refine gF ?_ ?_ | refine gC ?_ ?_ | refine bB (by omega) ?_ | (intro hr; have hc:=hr; (try simp only [zdz] at hc); simp -implicitDefEqProofs (disch:=omega) only [hr,go_sem,↓reduceIte,reduceAdd,reduceSub,reduceMul,reduceLeDiff,reduceLT,reduceEqDiff,reduceNeg,Nat.reduceBEq]; (try clear hr))))
     · cases hc
     · exact xS (pre:=[]) (g:=[.arr false 1 (ints p)]) (.inr ⟨0,rfl,rfl,by simp [ints]⟩) eP
theorem aTk (p:List Int) (hp:p.length≤1000000): CT 119 [.sl (ints p) p.length] (.sl (ints p) p.length):=by
 refine aL mixed Tryz.func119 g0 ?_
 · skip
   refine bCp (fun h=>?_) ?_
   · refine zg ?_
     obtain rfl:=List.length_eq_zero_iff.1 h
     exact O4 (pre:=[]) (g:=[]) (sz:=1) (.inl ⟨rfl,rfl,rfl⟩) eP
   · (repeat' (first | refine gT ?_ ?_ | refine gF ?_ ?_ | refine gC ?_ ?_ | refine bB (by omega) ?_ | (intro hr; have hc:=hr; (try simp only [zdz] at hc); simp -implicitDefEqProofs (disch:=omega) only [hr,go_sem,↓reduceIte,reduceAdd,reduceSub,reduceMul,reduceLeDiff,reduceLT,reduceEqDiff,reduceNeg,Nat.reduceBEq]; (try clear hr))))
     · cases hc
     · exact O4 (pre:=[]) (g:=[.arr false 1 (ints p)]) (.inr ⟨0,rfl,rfl,by simp [ints]⟩) eP
def mH (g g':List AObj):Prop:=∀ (i:Nat) (o:AObj),g[i]? = some o→(∀ c:List AV,o ≠ .arr false 10 c)→g'[i]? = some o
theorem mH.refl (g:List AObj):mH g g:=fun _ _ h _=>h
theorem mH.trans {a b c:List AObj} (h:mH a b) (k:mH b c):mH a c:=fun i o x y=>k i o (h i o x y) y
theorem mH.app (g m:List AObj):mH g (g++m):=fun i o x _=>by rw [aD (aQ x)]; exact x
abbrev aGb (l:List LAsk) (g:List AObj):AV→List AObj→Prop:=fun r h'=>r=.tup []∧∃ out' g',h'=.box false [out']::g'∧dV 10 1 g' out' (l.flatMap aJ) l.length∧mH g g'
theorem bJp (a:LAsk):aJ a=[.sl (ints a.path) a.path.length,.i .i64 a.test.op,.i .i64 a.test.term.kind,.i .i64 a.test.term.n,.s a.test.term.text,.s a.test.term.sort,.sl (a.test.term.kids.flatMap aC) a.test.term.kids.length,.sl (a.test.term.rest.flatMap aC) a.test.term.rest.length,.s a.test.text,.i .i64 a.test.n]:=rfl
theorem bSt (te:LTest) (p:List Int) (g:List AObj) (A B:Nat) (hA:g[A]? = some (.box false [.ptr 0 0])) (hB:g[B]? = some (.box false [.sl (ints p) p.length])) (ht:OkT te.term) (hp:p.length≤1000000): ACalls Tryz.prog G0 131 [.agg (dT te),.ptr (A+1) 0,.ptr (B+1) 0] (.box false [.e0]::g) (aGb [⟨p,te⟩] g):=by
 refine dF (rx:=true) (th:=fun i=>if i=1 then some ⟨some (g.length+2),[],false,true,false,[10],[]⟩ else none) mixed Tryz.func131 ?_
 · simp -implicitDefEqProofs (disch:=omega) only [Tryz.f131,go_sem,List.replicate,↓reduceIte,reduceAdd,reduceSub,reduceMul,reduceLeDiff,reduceLT,reduceEqDiff,reduceNeg,Nat.reduceBEq,dT,avt]
   have hA1:=aQ hA
   have hB1:=aQ hB
   have hAm:∀ m:List AObj,(g++m)[A]? = some (.box false [.ptr 0 0]):=fun m=>by rw [aD hA1]; exact hA
   have hBm:∀ m:List AObj,(g++m)[B]? = some (.box false [.sl (ints p) p.length]):=fun m=>by rw [aD hB1]; exact hB
   have hA2:(A+1 < g.length+2)=True:=eq_true (by omega)
   have hB2:(B+1 < g.length+2)=True:=eq_true (by omega)
   refine zh (zA2 hA (zA2 hB (zA2 hAm (zA2 hBm (zA2 hA2 (zA2 hB2 (zA2 true_and and_true))))))) ?_
   (repeat' (first | refine gT ?_ ?_ | refine gF ?_ ?_ | refine gC ?_ ?_ | ((refine bF (aTk p hp) ?_ ?_; (focus (simp -implicitDefEqProofs (disch:=omega) only [hA,hB,hAm,hBm,hA2,hB2,true_and,and_true,fU,zdB,go_sem,↓reduceIte,reduceAdd,reduceSub,reduceMul,reduceLeDiff,reduceLT,reduceEqDiff,reduceNeg,Nat.reduceBEq]; done))); simp -implicitDefEqProofs (disch:=omega) only [hA,hB,hAm,hBm,hA2,hB2,true_and,and_true,fU,go_sem,↓reduceIte,reduceAdd,reduceSub,reduceMul,reduceLeDiff,reduceLT,reduceEqDiff,reduceNeg,Nat.reduceBEq]) | refine bB (by omega) ?_ | (intro hr; have hc:=hr; (try simp only [zdz] at hc); simp -implicitDefEqProofs (disch:=omega) only [hr,hA,hB,hAm,hBm,hA2,hB2,true_and,and_true,fU,go_sem,↓reduceIte,reduceAdd,reduceSub,reduceMul,reduceLeDiff,reduceLT,reduceEqDiff,reduceNeg,Nat.reduceBEq]; (try clear hr))))
   refine ⟨rfl,_,_,rfl,.inr ⟨g.length+2,rfl,by rw [aK (by omega)]; simp [bJp],by simp [aJ]⟩,.app _ _⟩
theorem bKb {g more:List AObj} {q:Nat} {l:List LAsk} {a:LAsk} (hi:g[q]? = some (.arr false 10 (l.flatMap aJ))) (hm:more.length=2):aGb (l++[a]) g (.tup []) (.box false [.hs (g.length+2+1) 0 (l.length+1) false]::((g++more).set q .dead++[.arr false 10 (l.flatMap aJ++aJ a)])):=by
 have hq:=aQ hi
 refine ⟨rfl,_,_,rfl,.inr ⟨g.length+2,?_,?_,?_⟩,?_⟩
 · rw [aE]; rfl
 · rw [aK (by simp; omega)]; simp [hm]
 · rw [oC]
 · intro i o hio hn
   have hio':=aQ hio
   have hne:q ≠ i:=by rintro rfl; rw [hi] at hio; cases hio; exact hn _ rfl
   rw [aD (by simp; omega),dA hne,aD hio']
   exact hio
theorem bSs (te:LTest) (p:List Int) (l:List LAsk) (q:Nat) (g:List AObj) (A B:Nat) (hA:g[A]? = some (.box false [.ptr 0 0])) (hB:g[B]? = some (.box false [.sl (ints p) p.length])) (ht:OkT te.term) (hp:p.length≤1000000) (hl:l.length≤1000000) (hi:g[q]? = some (.arr false 10 (l.flatMap aJ))): ACalls Tryz.prog G0 131 [.agg (dT te),.ptr (A+1) 0,.ptr (B+1) 0] (.box false [.hs (q+1) 0 l.length false]::g) (aGb (l++[⟨p,te⟩]) g):=by
 refine dF (rx:=true) (th:=fun i=>if i=1 then some ⟨some (g.length+2),[q+1],false,true,false,[10],[]⟩ else none) mixed Tryz.func131 ?_
 · simp -implicitDefEqProofs (disch:=omega) only [Tryz.f131,go_sem,List.replicate,↓reduceIte,reduceAdd,reduceSub,reduceMul,reduceLeDiff,reduceLT,reduceEqDiff,reduceNeg,Nat.reduceBEq,dT,avt]
   have hA1:=aQ hA
   have hB1:=aQ hB
   have hAm:∀ m:List AObj,(g++m)[A]? = some (.box false [.ptr 0 0]):=fun m=>by rw [aD hA1]; exact hA
   have hBm:∀ m:List AObj,(g++m)[B]? = some (.box false [.sl (ints p) p.length]):=fun m=>by rw [aD hB1]; exact hB
   have hA2:(A+1 < g.length+2)=True:=eq_true (by omega)
   have hB2:(B+1 < g.length+2)=True:=eq_true (by omega)
   have hAi:(A=q)=False:=eq_false (by rintro rfl; rw [hi] at hA; cases hA)
   have hBi:(B=q)=False:=eq_false (by rintro rfl; rw [hi] at hB; cases hB)
   have hq:=aQ hi
   have him:∀ m:List AObj,(g++m)[q]? = some (.arr false 10 (l.flatMap aJ)):=fun m=>by rw [aD hq]; exact hi
   have b1:((l.length+1) * 152≤140737488355328)=True:=eq_true (by omega)
   have b2:(l.length≤140737488355327)=True:=eq_true (by omega)
   have b3:∀ n:Nat,(n≤n)=True:=fun n=>eq_true (aZ n)
   refine zh (zA2 hA (zA2 hB (zA2 hAm (zA2 hBm (zA2 hA2 (zA2 hB2 (zA2 true_and (zA2 and_true (zA2 hAi (zA2 hBi (zA2 not_false_eq_true (zA2 him (zA2 @b1 (zA2 @b2 b3)))))))))))))) ?_
   (repeat' (first | refine gT ?_ ?_ | refine gF ?_ ?_ | refine gC ?_ ?_ | ((refine bF (aTk p hp) ?_ ?_; (focus (simp -implicitDefEqProofs (disch:=omega) only [hA,hB,hAm,hBm,hA2,hB2,true_and,and_true,hAi,hBi,not_false_eq_true,him,b1,b2,b3,fU,zdB,go_sem,↓reduceIte,reduceAdd,reduceSub,reduceMul,reduceLeDiff,reduceLT,reduceEqDiff,reduceNeg,Nat.reduceBEq]; done))); simp -implicitDefEqProofs (disch:=omega) only [hA,hB,hAm,hBm,hA2,hB2,true_and,and_true,hAi,hBi,not_false_eq_true,him,b1,b2,b3,fU,go_sem,↓reduceIte,reduceAdd,reduceSub,reduceMul,reduceLeDiff,reduceLT,reduceEqDiff,reduceNeg,Nat.reduceBEq]) | refine bB (by omega) ?_ | (intro hr; have hc:=hr; (try simp only [zdz] at hc); simp -implicitDefEqProofs (disch:=omega) only [hr,hA,hB,hAm,hBm,hA2,hB2,true_and,and_true,hAi,hBi,not_false_eq_true,him,b1,b2,b3,fU,go_sem,↓reduceIte,reduceAdd,reduceSub,reduceMul,reduceLeDiff,reduceLT,reduceEqDiff,reduceNeg,Nat.reduceBEq]; (try clear hr))))
   exact bKb (a:=⟨p,te⟩) hi rfl
theorem bKc (te:LTest) (p:List Int) (l:List LAsk) (out:AV) (g:List AObj) (A B:Nat) (hA:g[A]? = some (.box false [.ptr 0 0])) (hB:g[B]? = some (.box false [.sl (ints p) p.length])) (ht:OkT te.term) (hp:p.length≤1000000) (hl:l.length≤1000000) (ho:dV 10 1 g out (l.flatMap aJ) l.length) :
   ACalls Tryz.prog G0 131 [.agg (dT te),.ptr (A+1) 0,.ptr (B+1) 0] (.box false [out]::g) (aGb (l++[⟨p,te⟩]) g):=by
 rcases ho with ⟨rfl,_,h⟩ | ⟨q,rfl,hi,_⟩
 · obtain rfl:=List.length_eq_zero_iff.1 h
   exact bSt te p g A B hA hB ht hp
 · exact bSs te p l q g A B hA hB ht hp hl hi

theorem pZ {g g':List AObj} {i:Nat} {o:AObj} (h:mH g g') (hi:g[i]? = some o) (ho:∀ c:List AV,o ≠ .arr false 10 c):g'[i]? = some o:=h i o hi ho
theorem U9 {k:IntKind}:∀ {p:List Int},(p.map (AV.i k)).all aIn=true
 | []=>rfl
 | a::l=>by rw [aT,eC,U9 (p:=l)]; rfl
theorem aEe:OkT zT:=.mk (by simp [LTerm.text]) (by simp [LTerm.sort]) (by simp [LTerm.n]) (by simp [LTerm.n]) (by simp [LTerm.kids]) (by simp [LTerm.rest]) (by simp [LTerm.kids]) (by simp [LTerm.rest])
theorem P8 {t:LTerm} {te:LTest} {p:List Int} {l:List LAsk} {out:AV} {g:List AObj} {cs:List AV} (ht:OkT te.term) (hp:p.length≤1000000) (hl:l.length≤1000000) (ho:dV 10 1 g out (l.flatMap aJ) l.length) (hc:cs=dT te) :
   ACalls Tryz.prog G0 131 [.agg cs,.ptr (g.length+1) 0,.ptr (g.length+2+1) 0] (.box false [out]::(g++[.box false [.ptr 0 0],.box false [.i .i64 (t).kind,.i .i64 (t).n,.s (t).text,.s (t).sort,.sl ((t).kids.flatMap aC) (t).kids.length,.sl ((t).rest.flatMap aC) (t).rest.length],.box false [.sl (ints p) p.length]])) (aGb (l++[⟨p,te⟩]) (g++[.box false [.ptr 0 0],.box false [.i .i64 (t).kind,.i .i64 (t).n,.s (t).text,.s (t).sort,.sl ((t).kids.flatMap aC) (t).kids.length,.sl ((t).rest.flatMap aC) (t).rest.length],.box false [.sl (ints p) p.length]])):=by
 subst hc
 exact bKc te p l out _ g.length (g.length+2) (by simp) (by simp) ht hp hl (ho.more _)
theorem aVr (t:LTerm) (p:List Int) (l:List LAsk) (out:AV) (g:List AObj) (ht:OkT t) (hp:p.length≤1000000) (hl:l.length≤1000000) (ho:dV 10 1 g out (l.flatMap aJ) l.length) (h5:¬ t.kind=5) (h7:¬ t.kind=7): ACalls Tryz.prog G0 77 [.ptr 0 0,elT t,.sl (ints p) p.length] (.box false [out]::g) (aGb (l++cK t p) g):=by
 refine dF (rx:=true) (th:=fun i=>if i=19 then some ⟨none,[],true,true,true,[],[]⟩ else none) mixed Tryz.func77 ?_
 · simp -implicitDefEqProofs (disch:=omega) only [Tryz.f77,go_sem,List.replicate,simprocAttr]
   rw [hX,if_neg h5,if_neg h7]
   rcases (by omega:t.kind=8∨(¬ t.kind=8∧t.kind=6)∨(¬ t.kind=8∧¬ t.kind=6)) with h8 | ⟨h8,h6⟩ | ⟨h8,h6⟩
   · rw [if_pos h8]
     have h6:¬ t.kind=6:=by omega
     refine zh (zA2 (zf h5) (zA2 (zf h7) (zA2 (zt h8) (zf h6)))) ?_
     refine tU 0 rfl ?_
     refine zg ?_
     refine fI (P8 (te:=⟨5,zT,[],0⟩) (by first | exact ht | exact aEe) hp hl ho rfl) ?_
     rintro r h' ⟨rfl,out',g',rfl,ho',hs'⟩
     refine zg ?_
     exact ⟨rfl,out',g',rfl,ho',(mH.app g _).trans hs'⟩
   · rw [if_neg h8,if_pos h6]
     refine zh (zA2 (zf h5) (zA2 (zf h7) (zA2 (zf h8) (zt h6)))) ?_
     (refine zx0 (zA2 (zf h5) (zA2 (zf h7) (zA2 (zf h8) (zt h6)))) ?_; repeat' first | exact trivial | refine zJ ?_ ?_ | refine zH fun hc=>?_)
     rw [if_neg hc]
     refine tU 0 rfl ?_
     refine zg ?_
     refine fI (P8 (te:=⟨6,zT,t.sort,0⟩) (by first | exact ht | exact aEe) hp hl ho rfl) ?_
     rintro r h' ⟨rfl,out',g',rfl,ho',hs'⟩
     refine zg ?_
     exact ⟨rfl,out',g',rfl,ho',(mH.app g _).trans hs'⟩
     rw [if_pos hc,List.append_nil]
     exact ⟨rfl,out,_,rfl,ho.more _,.app _ _⟩
   · rw [if_neg h8,if_neg h6]
     refine zh (zA2 (zf h5) (zA2 (zf h7) (zA2 (zf h8) (zf h6)))) ?_
     refine fI (P8 (te:=⟨1,t,[],0⟩) (by first | exact ht | exact aEe) hp hl ho rfl) ?_
     rintro r h' ⟨rfl,out',g',rfl,ho',hs'⟩
     refine zg ?_
     exact ⟨rfl,out',g',rfl,ho',(mH.app g _).trans hs'⟩
theorem aOb (t:LTerm) (p:List Int) (l:List LAsk) (out:AV) (g:List AObj) (ht:OkT t) (hp:p.length≤1000) (hl:l.length+(testsL t.kids p 0).length < 1000000) (ho:dV 10 1 g out (l.flatMap aJ) l.length) (h5:t.kind=5) (ih:∀ k,k < t.kids.length→∀ (l:List LAsk) (out:AV) (g:List AObj),l.length+(cK (t.kids.getD k default) (p++[(k:Int)])).length≤1000000→dV 10 1 g out (l.flatMap aJ) l.length→ACalls Tryz.prog G0 77 [.ptr 0 0,elT (t.kids.getD k default),.sl (ints (p++[(k:Int)])) (p.length+1)] (.box false [out]::g) (aGb (l++cK (t.kids.getD k default) (p++[(k:Int)])) g)): ACalls Tryz.prog G0 77 [.ptr 0 0,elT t,.sl (ints p) p.length] (.box false [out]::g) (aGb (l++cK t p) g):=by
 refine dF (rx:=true) (th:=fun i=>if i=19 then some ⟨none,[],true,true,true,[],[]⟩ else none) mixed Tryz.func77 ?_
 · simp -implicitDefEqProofs (disch:=omega) only [Tryz.f77,go_sem,List.replicate,simprocAttr]
   rw [hX,if_pos h5]
   have hkk:=ht.kids
   have h6:¬ t.kind=6:=by omega
   refine zh (zA2 (zt h5) (zf h6)) ?_
   refine tU 0 rfl ?_
   refine zg ?_
   refine fI (P8 (te:=⟨2,zT,t.text,t.kids.length⟩) aEe (by omega) (by omega) ho rfl) ?_
   rintro r h' ⟨rfl,out1,g1,rfl,ho1,hs1⟩
   have eA:g1[g.length]? = some (.box false [.ptr 0 0]):=hs1 _ _ (by simp) (fun c h=>by cases h)
   have eT:g1[g.length+1]? = some (.box false [.i .i64 (t).kind,.i .i64 (t).n,.s (t).text,.s (t).sort,.sl ((t).kids.flatMap aC) (t).kids.length,.sl ((t).rest.flatMap aC) (t).rest.length]):=hs1 _ _ (by simp) (fun c h=>by cases h)
   have eB:g1[g.length+2]? = some (.box false [.sl (ints p) p.length]):=hs1 _ _ (by simp) (fun c h=>by cases h)
   have hs2:mH g g1:=(mH.app g _).trans hs1
   refine zh (zA2 eA (zA2 eT eB)) ?_
   refine bP (fun (s:Nat × AV × List AObj)=>[.k,.k,.k,.k,.k,.k,.k,.k,.j,.j,.k,.k,.k,.k,.k,.k,.k,.k,.k,.k,.k,.k,.k,.k,.k,.k,.k,.k,.k,.k,.k,.k,.k,.k,.k,.k,.k,.k,.k,.k,.k,.k,.k,.k,.k,.k,.k,.k,.k,.k,.k,.k,.k,.k,.k,.k,.k,.k,.v (.i .i64 (s.1:Nat)),.j,.j,.j,.j,.j,.j,.j,.j,.j,.j,.j,.j,.j]) (fun s=>(.box false [s.2.1]::s.2.2)) (fun s=>s.1≤t.kids.length∧dV 10 1 s.2.2 s.2.1 ((l++[(⟨p,⟨2,zT,t.text,t.kids.length⟩⟩:LAsk)]++testsL (t.kids.take s.1) p 0).flatMap aJ) (l++[(⟨p,⟨2,zT,t.text,t.kids.length⟩⟩:LAsk)]++testsL (t.kids.take s.1) p 0).length∧mH g1 s.2.2) (fun s=>t.kids.length - s.1) ((0,out1,g1)) ⟨aG _,by simpa [testsL] using ho1,.refl _⟩ rfl (by simp [eN]) ?_
   rintro ⟨k,out,h2⟩ j ⟨hk,ho2,hs3⟩
   dsimp only at hk ho2 hs3
   have fA:=pZ hs3 eA (fun c h=>by cases h)
   have fT:=pZ hs3 eT (fun c h=>by cases h)
   have fB:=pZ hs3 eB (fun c h=>by cases h)
   have lA:=aQ fA
   have lB:=aQ fB
   have mA:∀ m:List AObj,(h2++m)[g.length]? = some (.box false [.ptr 0 0]):=fun m=>by rw [aD lA]; exact fA
   have mB:∀ m:List AObj,(h2++m)[g.length+2]? = some (.box false [.sl (ints p) p.length]):=fun m=>by rw [aD lB]; exact fB
   by_cases hlt:k < t.kids.length
   · have hki:(k:Int) < ((t.kids.length:Nat):Int):=by omega
     have qA:∀ n:Nat,(g.length+1 < h2.length+(n+1))=True:=fun n=>eq_true (by omega)
     have qB:∀ n:Nat,(g.length+2+1 < h2.length+(n+1))=True:=fun n=>eq_true (by omega)
     simp -implicitDefEqProofs (disch:=omega) only [zt hki,mA,mB,fA,fB,qA,qB,true_and,and_true,go_sem,simprocAttr]
     (repeat' (first | refine gT ?_ ?_ | refine gF ?_ ?_ | refine gC ?_ ?_ | ((refine bF (aTl p (by omega)) ?_ ?_; (focus (simp -implicitDefEqProofs (disch:=omega) only [zt hki,mA,mB,fA,fB,qA,qB,true_and,and_true,zdB,go_sem,simprocAttr]; done))); simp -implicitDefEqProofs (disch:=omega) only [zt hki,mA,mB,fA,fB,qA,qB,true_and,and_true,go_sem,simprocAttr]) | refine bB (by omega) ?_ | (intro hr; have hc:=hr; (try simp only [zdz] at hc); simp -implicitDefEqProofs (disch:=omega) only [hr,zt hki,mA,mB,fA,fB,qA,qB,true_and,and_true,go_sem,simprocAttr]; (try clear hr))))
     have htl:=jG (l:=t.kids) (p:=p) (i:=0) hlt
     rw [cM] at htl
     have hm:=kG (l:=t.kids) (p:=p) (k:=k+1)
     rw [htl,aE] at hm
     have htk:List.take (p.length+1) (List.map (AV.i IntKind.i64) p++[AV.i IntKind.i64 (k:Int)])=List.map (AV.i IntKind.i64) p++[AV.i IntKind.i64 (k:Int)]:=aH (by simp)
     have hps:persL (List.map (AV.i IntKind.i64) p++[AV.i IntKind.i64 (k:Int)])=true:=by rw [gD,eP]; rfl
     have hea:(List.map (AV.i IntKind.i64) p++[AV.i IntKind.i64 (k:Int)]).all aIn=true:=by rw [iY,U9]; rfl
     refine tU 2 rfl ?_
     refine zh (zA2 htk (zA2 hps hea)) ?_
     have ci:=ih k hlt (l++[(⟨p,⟨2,zT,t.text,t.kids.length⟩⟩:LAsk)]++testsL (t.kids.take k) p 0) out (h2++[.box false [.i .i64 (t.kids.getD k default).kind,.i .i64 (t.kids.getD k default).n,.s (t.kids.getD k default).text,.s (t.kids.getD k default).sort,.sl ((t.kids.getD k default).kids.flatMap aC) (t.kids.getD k default).kids.length,.sl ((t.kids.getD k default).rest.flatMap aC) (t.kids.getD k default).rest.length],.dead,.arr true 1 (ints p++[.i .i64 (k:Int)])]) (by simp only [aE,aI,aX]; omega) (ho2.more _)
     simp only [ints,aV,aT,bN,elT,bC,avt] at ci
     refine fI ci ?_
     rintro r h' ⟨rfl,out3,h3,rfl,ho3,hs4⟩
     refine zg ?_
     refine ⟨(k+1,out3,h3),⟨by dsimp only; omega,?_,hs3.trans ((mH.app _ _).trans hs4)⟩,by dsimp only; omega,rfl,by simp⟩
     dsimp only
     rw [htl]
     rw [bL,bL,aFz,aE,aI] at ho3
     exact ho3
   · have hki:¬ (k:Int) < ((t.kids.length:Nat):Int):=by omega
     have hkt:t.kids.take k=t.kids:=aH (by omega)
     rw [hkt] at ho2
     refine zh (zf hki) ?_
     exact ⟨rfl,out,h2,rfl,by simpa using ho2,hs2.trans hs3⟩
theorem aKr (t:LTerm) (p:List Int) (l:List LAsk) (out:AV) (g:List AObj) (ht:OkT t) (hp:p.length≤1000) (hl:l.length+(testsL t.kids p 0).length < 1000000) (ho:dV 10 1 g out (l.flatMap aJ) l.length) (h7:t.kind=7) (hr:0 < t.rest.length) (ih:∀ k,k < t.kids.length→∀ (l:List LAsk) (out:AV) (g:List AObj),l.length+(cK (t.kids.getD k default) (p++[(k:Int)])).length≤1000000→dV 10 1 g out (l.flatMap aJ) l.length→ACalls Tryz.prog G0 77 [.ptr 0 0,elT (t.kids.getD k default),.sl (ints (p++[(k:Int)])) (p.length+1)] (.box false [out]::g) (aGb (l++cK (t.kids.getD k default) (p++[(k:Int)])) g)): ACalls Tryz.prog G0 77 [.ptr 0 0,elT t,.sl (ints p) p.length] (.box false [out]::g) (aGb (l++cK t p) g):=by
 refine dF (rx:=true) (th:=fun i=>if i=19 then some ⟨none,[],true,true,true,[],[]⟩ else none) mixed Tryz.func77 ?_
 · simp -implicitDefEqProofs (disch:=omega) only [Tryz.f77,go_sem,List.replicate,simprocAttr]
   have h5:¬ t.kind=5:=by omega
   have h6:¬ t.kind=6:=by omega
   have hri:(0:Int) < ((t.rest.length:Nat):Int):=by omega
   rw [hX,if_neg h5,if_pos h7,if_pos hr]
   have hkk:=ht.kids
   refine zh (zA2 (zf h5) (zA2 (zf h6) (zA2 (zt h7) (zt hri)))) ?_
   (refine zx0 (zA2 (zf h5) (zA2 (zf h6) (zA2 (zt h7) (zt hri)))) ?_; repeat' first | exact trivial | refine zJ ?_ ?_ | refine zH fun hc=>?_)
   refine tU 0 rfl ?_
   refine zg ?_
   refine fI (P8 (te:=⟨4,zT,[],t.kids.length⟩) aEe (by omega) (by omega) ho rfl) ?_
   rintro r h' ⟨rfl,out1,g1,rfl,ho1,hs1⟩
   have eA:g1[g.length]? = some (.box false [.ptr 0 0]):=hs1 _ _ (by simp) (fun c h=>by cases h)
   have eT:g1[g.length+1]? = some (.box false [.i .i64 (t).kind,.i .i64 (t).n,.s (t).text,.s (t).sort,.sl ((t).kids.flatMap aC) (t).kids.length,.sl ((t).rest.flatMap aC) (t).rest.length]):=hs1 _ _ (by simp) (fun c h=>by cases h)
   have eB:g1[g.length+2]? = some (.box false [.sl (ints p) p.length]):=hs1 _ _ (by simp) (fun c h=>by cases h)
   have hs2:mH g g1:=(mH.app g _).trans hs1
   refine zh (zA2 eA (zA2 eT eB)) ?_
   refine bP (fun (s:Nat × AV × List AObj)=>[.k,.k,.k,.k,.k,.k,.k,.k,.j,.j,.k,.k,.k,.k,.k,.k,.k,.k,.k,.k,.k,.k,.k,.k,.k,.k,.k,.k,.k,.k,.k,.k,.k,.k,.k,.k,.k,.k,.k,.k,.k,.k,.k,.k,.k,.k,.k,.k,.k,.k,.k,.k,.k,.k,.k,.k,.k,.k,.v (.i .i64 (s.1:Nat)),.j,.j,.j,.j,.j,.j,.j,.j,.j,.j,.j,.j,.j]) (fun s=>(.box false [s.2.1]::s.2.2)) (fun s=>s.1≤t.kids.length∧dV 10 1 s.2.2 s.2.1 ((l++[(⟨p,⟨4,zT,[],t.kids.length⟩⟩:LAsk)]++testsL (t.kids.take s.1) p 0).flatMap aJ) (l++[(⟨p,⟨4,zT,[],t.kids.length⟩⟩:LAsk)]++testsL (t.kids.take s.1) p 0).length∧mH g1 s.2.2) (fun s=>t.kids.length - s.1) ((0,out1,g1)) ⟨aG _,by simpa [testsL] using ho1,.refl _⟩ rfl (by simp [eN]) ?_
   rintro ⟨k,out,h2⟩ j ⟨hk,ho2,hs3⟩
   dsimp only at hk ho2 hs3
   have fA:=pZ hs3 eA (fun c h=>by cases h)
   have fT:=pZ hs3 eT (fun c h=>by cases h)
   have fB:=pZ hs3 eB (fun c h=>by cases h)
   have lA:=aQ fA
   have lB:=aQ fB
   have mA:∀ m:List AObj,(h2++m)[g.length]? = some (.box false [.ptr 0 0]):=fun m=>by rw [aD lA]; exact fA
   have mB:∀ m:List AObj,(h2++m)[g.length+2]? = some (.box false [.sl (ints p) p.length]):=fun m=>by rw [aD lB]; exact fB
   by_cases hlt:k < t.kids.length
   · have hki:(k:Int) < ((t.kids.length:Nat):Int):=by omega
     have qA:∀ n:Nat,(g.length+1 < h2.length+(n+1))=True:=fun n=>eq_true (by omega)
     have qB:∀ n:Nat,(g.length+2+1 < h2.length+(n+1))=True:=fun n=>eq_true (by omega)
     simp -implicitDefEqProofs (disch:=omega) only [zt hki,mA,mB,fA,fB,qA,qB,true_and,and_true,go_sem,simprocAttr]
     (repeat' (first | refine gT ?_ ?_ | refine gF ?_ ?_ | refine gC ?_ ?_ | ((refine bF (aTl p (by omega)) ?_ ?_; (focus (simp -implicitDefEqProofs (disch:=omega) only [zt hki,mA,mB,fA,fB,qA,qB,true_and,and_true,zdB,go_sem,simprocAttr]; done))); simp -implicitDefEqProofs (disch:=omega) only [zt hki,mA,mB,fA,fB,qA,qB,true_and,and_true,go_sem,simprocAttr]) | refine bB (by omega) ?_ | (intro hr; have hc:=hr; (try simp only [zdz] at hc); simp -implicitDefEqProofs (disch:=omega) only [hr,zt hki,mA,mB,fA,fB,qA,qB,true_and,and_true,go_sem,simprocAttr]; (try clear hr))))
     have htl:=jG (l:=t.kids) (p:=p) (i:=0) hlt
     rw [cM] at htl
     have hm:=kG (l:=t.kids) (p:=p) (k:=k+1)
     rw [htl,aE] at hm
     have htk:List.take (p.length+1) (List.map (AV.i IntKind.i64) p++[AV.i IntKind.i64 (k:Int)])=List.map (AV.i IntKind.i64) p++[AV.i IntKind.i64 (k:Int)]:=aH (by simp)
     have hps:persL (List.map (AV.i IntKind.i64) p++[AV.i IntKind.i64 (k:Int)])=true:=by rw [gD,eP]; rfl
     have hea:(List.map (AV.i IntKind.i64) p++[AV.i IntKind.i64 (k:Int)]).all aIn=true:=by rw [iY,U9]; rfl
     refine tU 2 rfl ?_
     refine zh (zA2 htk (zA2 hps hea)) ?_
     have ci:=ih k hlt (l++[(⟨p,⟨4,zT,[],t.kids.length⟩⟩:LAsk)]++testsL (t.kids.take k) p 0) out (h2++[.box false [.i .i64 (t.kids.getD k default).kind,.i .i64 (t.kids.getD k default).n,.s (t.kids.getD k default).text,.s (t.kids.getD k default).sort,.sl ((t.kids.getD k default).kids.flatMap aC) (t.kids.getD k default).kids.length,.sl ((t.kids.getD k default).rest.flatMap aC) (t.kids.getD k default).rest.length],.dead,.arr true 1 (ints p++[.i .i64 (k:Int)])]) (by simp only [aE,aI,aX]; omega) (ho2.more _)
     simp only [ints,aV,aT,bN,elT,bC,avt] at ci
     refine fI ci ?_
     rintro r h' ⟨rfl,out3,h3,rfl,ho3,hs4⟩
     refine zg ?_
     refine ⟨(k+1,out3,h3),⟨by dsimp only; omega,?_,hs3.trans ((mH.app _ _).trans hs4)⟩,by dsimp only; omega,rfl,by simp⟩
     dsimp only
     rw [htl]
     rw [bL,bL,aFz,aE,aI] at ho3
     exact ho3
   · have hki:¬ (k:Int) < ((t.kids.length:Nat):Int):=by omega
     have hkt:t.kids.take k=t.kids:=aH (by omega)
     rw [hkt] at ho2
     refine zh (zf hki) ?_
     exact ⟨rfl,out,h2,rfl,by simpa using ho2,hs2.trans hs3⟩
theorem aKq (t:LTerm) (p:List Int) (l:List LAsk) (out:AV) (g:List AObj) (ht:OkT t) (hp:p.length≤1000) (hl:l.length+(testsL t.kids p 0).length < 1000000) (ho:dV 10 1 g out (l.flatMap aJ) l.length) (h7:t.kind=7) (hr:¬ 0 < t.rest.length) (ih:∀ k,k < t.kids.length→∀ (l:List LAsk) (out:AV) (g:List AObj),l.length+(cK (t.kids.getD k default) (p++[(k:Int)])).length≤1000000→dV 10 1 g out (l.flatMap aJ) l.length→ACalls Tryz.prog G0 77 [.ptr 0 0,elT (t.kids.getD k default),.sl (ints (p++[(k:Int)])) (p.length+1)] (.box false [out]::g) (aGb (l++cK (t.kids.getD k default) (p++[(k:Int)])) g)): ACalls Tryz.prog G0 77 [.ptr 0 0,elT t,.sl (ints p) p.length] (.box false [out]::g) (aGb (l++cK t p) g):=by
 refine dF (rx:=true) (th:=fun i=>if i=19 then some ⟨none,[],true,true,true,[],[]⟩ else none) mixed Tryz.func77 ?_
 · simp -implicitDefEqProofs (disch:=omega) only [Tryz.f77,go_sem,List.replicate,simprocAttr]
   have h5:¬ t.kind=5:=by omega
   have h6:¬ t.kind=6:=by omega
   have hri:¬ (0:Int) < ((t.rest.length:Nat):Int):=by omega
   rw [hX,if_neg h5,if_pos h7,if_neg hr]
   have hkk:=ht.kids
   refine zh (zA2 (zf h5) (zA2 (zf h6) (zA2 (zt h7) (zf hri)))) ?_
   (refine zx0 (zA2 (zf h5) (zA2 (zf h6) (zA2 (zt h7) (zf hri)))) ?_; repeat' first | exact trivial | refine zJ ?_ ?_ | refine zH fun hc=>?_)
   refine tU 0 rfl ?_
   refine zg ?_
   refine fI (P8 (te:=⟨3,zT,[],t.kids.length⟩) aEe (by omega) (by omega) ho rfl) ?_
   rintro r h' ⟨rfl,out1,g1,rfl,ho1,hs1⟩
   have eA:g1[g.length]? = some (.box false [.ptr 0 0]):=hs1 _ _ (by simp) (fun c h=>by cases h)
   have eT:g1[g.length+1]? = some (.box false [.i .i64 (t).kind,.i .i64 (t).n,.s (t).text,.s (t).sort,.sl ((t).kids.flatMap aC) (t).kids.length,.sl ((t).rest.flatMap aC) (t).rest.length]):=hs1 _ _ (by simp) (fun c h=>by cases h)
   have eB:g1[g.length+2]? = some (.box false [.sl (ints p) p.length]):=hs1 _ _ (by simp) (fun c h=>by cases h)
   have hs2:mH g g1:=(mH.app g _).trans hs1
   refine zh (zA2 eA (zA2 eT eB)) ?_
   refine bP (fun (s:Nat × AV × List AObj)=>[.k,.k,.k,.k,.k,.k,.k,.k,.j,.j,.k,.k,.k,.k,.k,.k,.k,.k,.k,.k,.k,.k,.k,.k,.k,.k,.k,.k,.k,.k,.k,.k,.k,.k,.k,.k,.k,.k,.k,.k,.k,.k,.k,.k,.k,.k,.k,.k,.k,.k,.k,.k,.k,.k,.k,.k,.k,.k,.v (.i .i64 (s.1:Nat)),.j,.j,.j,.j,.j,.j,.j,.j,.j,.j,.j,.j,.j]) (fun s=>(.box false [s.2.1]::s.2.2)) (fun s=>s.1≤t.kids.length∧dV 10 1 s.2.2 s.2.1 ((l++[(⟨p,⟨3,zT,[],t.kids.length⟩⟩:LAsk)]++testsL (t.kids.take s.1) p 0).flatMap aJ) (l++[(⟨p,⟨3,zT,[],t.kids.length⟩⟩:LAsk)]++testsL (t.kids.take s.1) p 0).length∧mH g1 s.2.2) (fun s=>t.kids.length - s.1) ((0,out1,g1)) ⟨aG _,by simpa [testsL] using ho1,.refl _⟩ rfl (by simp [eN]) ?_
   rintro ⟨k,out,h2⟩ j ⟨hk,ho2,hs3⟩
   dsimp only at hk ho2 hs3
   have fA:=pZ hs3 eA (fun c h=>by cases h)
   have fT:=pZ hs3 eT (fun c h=>by cases h)
   have fB:=pZ hs3 eB (fun c h=>by cases h)
   have lA:=aQ fA
   have lB:=aQ fB
   have mA:∀ m:List AObj,(h2++m)[g.length]? = some (.box false [.ptr 0 0]):=fun m=>by rw [aD lA]; exact fA
   have mB:∀ m:List AObj,(h2++m)[g.length+2]? = some (.box false [.sl (ints p) p.length]):=fun m=>by rw [aD lB]; exact fB
   by_cases hlt:k < t.kids.length
   · have hki:(k:Int) < ((t.kids.length:Nat):Int):=by omega
     have qA:∀ n:Nat,(g.length+1 < h2.length+(n+1))=True:=fun n=>eq_true (by omega)
     have qB:∀ n:Nat,(g.length+2+1 < h2.length+(n+1))=True:=fun n=>eq_true (by omega)
     simp -implicitDefEqProofs (disch:=omega) only [zt hki,mA,mB,fA,fB,qA,qB,true_and,and_true,go_sem,simprocAttr]
     (repeat' (first | refine gT ?_ ?_ | refine gF ?_ ?_ | refine gC ?_ ?_ | ((refine bF (aTl p (by omega)) ?_ ?_; (focus (simp -implicitDefEqProofs (disch:=omega) only [zt hki,mA,mB,fA,fB,qA,qB,true_and,and_true,zdB,go_sem,simprocAttr]; done))); simp -implicitDefEqProofs (disch:=omega) only [zt hki,mA,mB,fA,fB,qA,qB,true_and,and_true,go_sem,simprocAttr]) | refine bB (by omega) ?_ | (intro hr; have hc:=hr; (try simp only [zdz] at hc); simp -implicitDefEqProofs (disch:=omega) only [hr,zt hki,mA,mB,fA,fB,qA,qB,true_and,and_true,go_sem,simprocAttr]; (try clear hr))))
     have htl:=jG (l:=t.kids) (p:=p) (i:=0) hlt
     rw [cM] at htl
     have hm:=kG (l:=t.kids) (p:=p) (k:=k+1)
     rw [htl,aE] at hm
     have htk:List.take (p.length+1) (List.map (AV.i IntKind.i64) p++[AV.i IntKind.i64 (k:Int)])=List.map (AV.i IntKind.i64) p++[AV.i IntKind.i64 (k:Int)]:=aH (by simp)
     have hps:persL (List.map (AV.i IntKind.i64) p++[AV.i IntKind.i64 (k:Int)])=true:=by rw [gD,eP]; rfl
     have hea:(List.map (AV.i IntKind.i64) p++[AV.i IntKind.i64 (k:Int)]).all aIn=true:=by rw [iY,U9]; rfl
     refine tU 2 rfl ?_
     refine zh (zA2 htk (zA2 hps hea)) ?_
     have ci:=ih k hlt (l++[(⟨p,⟨3,zT,[],t.kids.length⟩⟩:LAsk)]++testsL (t.kids.take k) p 0) out (h2++[.box false [.i .i64 (t.kids.getD k default).kind,.i .i64 (t.kids.getD k default).n,.s (t.kids.getD k default).text,.s (t.kids.getD k default).sort,.sl ((t.kids.getD k default).kids.flatMap aC) (t.kids.getD k default).kids.length,.sl ((t.kids.getD k default).rest.flatMap aC) (t.kids.getD k default).rest.length],.dead,.arr true 1 (ints p++[.i .i64 (k:Int)])]) (by simp only [aE,aI,aX]; omega) (ho2.more _)
     simp only [ints,aV,aT,bN,elT,bC,avt] at ci
     refine fI ci ?_
     rintro r h' ⟨rfl,out3,h3,rfl,ho3,hs4⟩
     refine zg ?_
     refine ⟨(k+1,out3,h3),⟨by dsimp only; omega,?_,hs3.trans ((mH.app _ _).trans hs4)⟩,by dsimp only; omega,rfl,by simp⟩
     dsimp only
     rw [htl]
     rw [bL,bL,aFz,aE,aI] at ho3
     exact ho3
   · have hki:¬ (k:Int) < ((t.kids.length:Nat):Int):=by omega
     have hkt:t.kids.take k=t.kids:=aH (by omega)
     rw [hkt] at ho2
     refine zh (zf hki) ?_
     exact ⟨rfl,out,h2,rfl,by simpa using ho2,hs2.trans hs3⟩
theorem bOq:∀ t:LTerm,OkT t→∀ (p:List Int) (l:List LAsk) (out:AV) (g:List AObj),p.length+highT t≤1000→l.length+(cK t p).length≤1000000→dV 10 1 g out (l.flatMap aJ) l.length→ACalls Tryz.prog G0 77 [.ptr 0 0,elT t,.sl (ints p) p.length] (.box false [out]::g) (aGb (l++cK t p) g):=
 dO (Q := fun t=>OkT t→∀ (p:List Int) (l:List LAsk) (out:AV) (g:List AObj),p.length+highT t≤1000→l.length+(cK t p).length≤1000000→dV 10 1 g out (l.flatMap aJ) l.length→ACalls Tryz.prog G0 77 [.ptr 0 0,elT t,.sl (ints p) p.length] (.box false [out]::g) (aGb (l++cK t p) g)) fun t hk _ ht p l out g hp hn ho=>by
   have hH:∀ (l:List LTerm) (k:Nat),k < l.length→highT (l.getD k default)≤highL l:=by
     intro l
     induction l with
     | nil=>intro k h; simp at h
     | cons x l ih=>
       intro k h
       rw [highL]
       cases k with
       | zero=>simp only [gW]; omega
       | succ k=>have:=ih k (by simpa using h); simp only [yD]; omega
   have e:=wC t
   by_cases h57:t.kind=5∨t.kind=7
   · have hr:=L9 (p:=p) h57
     have ih:∀ k,k < t.kids.length→∀ (l:List LAsk) (out:AV) (g:List AObj),l.length+(cK (t.kids.getD k default) (p++[(k:Int)])).length≤1000000→dV 10 1 g out (l.flatMap aJ) l.length→ACalls Tryz.prog G0 77 [.ptr 0 0,elT (t.kids.getD k default),.sl (ints (p++[(k:Int)])) (p.length+1)] (.box false [out]::g) (aGb (l++cK (t.kids.getD k default) (p++[(k:Int)])) g):=fun k h l out g hn ho=>by
       have h1:=hH t.kids k h
       have:=hk _ (aU (d:=default) h) (ht.kid _ (aU (d:=default) h)) (p++[(k:Int)]) l out g (by simp only [aE,aI,aX]; omega) hn ho
       rw [aE] at this
       exact this
     rcases h57 with h5 | h7
     · exact aOb t p l out g ht (by omega) (by omega) ho h5 ih
     · by_cases hrest:0 < t.rest.length
       · exact aKr t p l out g ht (by omega) (by omega) ho h7 hrest ih
       · exact aKq t p l out g ht (by omega) (by omega) ho h7 hrest ih
   · exact aVr t p l out g ht (by omega) (by omega) ho (fun h=>h57 (.inl h)) (fun h=>h57 (.inr h))
theorem O9 (t:LTerm) (ht:OkT t) (hp:highT t≤1000) (hn:(cK t []).length≤1000000): CT 43 [elT t] (ava (cK t [])):=by
 refine aL mixed Tryz.func43 g0 ?_
 · skip
   have c:=bOq t ht [] [] .e0 [] (by simpa using hp) (by simpa using hn) jC
   simp only [ints,bN,elT,bC,avt,cH,aX] at c
   refine tU 2 rfl ?_
   refine zg ?_
   refine fI (Vo.frame (is:=[1]) g0 c (by simp) rfl ?_ ?_) ?_
   · intro i o ho
     cases i with
     | zero=>simp only [cN,aB] at ho; subst ho; rfl
     | succ i=>simp at ho
   · simp only [renL,ren,renL_pers _ _ iH,emb]; rfl
   · rintro r' h' ⟨r0,h1,⟨rfl,out',g',rfl,ho',_⟩,_,rfl,rfl⟩
     rcases ho' with ⟨rfl,e1,e2⟩ | ⟨q,rfl,hi,hil⟩
     · simp only [rY,aT,kQ,aI,aX,cM,fL,cZ,AObj.ren,renL,ren]
       refine zg ?_
       rw [ava,e1,e2]
       exact O4 (pre:=[]) (sz:=10) (.inl ⟨rfl,rfl,rfl⟩) rfl
     · simp only [rY,aT,kQ,aI,aX,cM,fL,cZ,AObj.ren,renL,ren]
       refine zg ?_
       exact O4 (pre:=[_,_]) (sz:=10) (.inr ⟨q,by simp [emb]; omega,by rw [eI,hi]; simp [AObj.ren,renL_pers _ _ rU],hil⟩) rU
theorem bPk (s:bZ) (t:LTerm) (hm:Small s) (hs:OkS s) (ht:OkT t): CT 13 [.agg (aO s),elT t] (I3 (tM s t)):=by
 refine bQ mixed Tryz.func13 g0 ?_
 · simp -implicitDefEqProofs (disch:=omega) only [Tryz.f13,go_sem,List.replicate,simprocAttr,I3]
   have c1:=aCa s t hm hs ht
   rcases eM (xD s t) with h | h
   · have hv:=lL h
     have hv2:=hv
     simp only [fO,aA,decide_eq_true_eq] at hv2
     have c2:=O9 t ht (by omega) (dI (oU t []) (by omega))
     have c3:=bDz t ht
     rw [h] at c1
     (refine zy3 @ava.eq_1 c1 c2 c3 ?_; repeat' first | exact trivial | refine zJ ?_ ?_ | refine zH fun hc=>?_)
     all_goals exact aF (by rw [tM,if_pos h]) (by simp [pers,persL,ava,rU,mat])
   · rw [h] at c1
     (refine zt1 c1 ?_; repeat' first | exact trivial | refine zJ ?_ ?_ | refine zH fun hc=>?_)
     all_goals exact .inr ⟨by rw [tM,if_neg (by rw [h]; simp)]; exact ⟨rfl,rfl,trivial⟩,cR,fun i hi=>absurd hi (by show ¬ i ∈ []; simp)⟩

def jH (s:bZ) (x:LTest) (so:Bool):Bool:=
 if x.op=1 then decide (1≤x.term.kind) && (decide (x.term.kind≤4) && (fO nodeB x.term && (decide (x.text=[]) && decide (x.n=0))))
 else if x.op=2 then decide (x.term=zT) && (yM x.text && (decide (0≤x.n) && decide (x.n≤8)))
 else if x.op=3∨x.op=4 then decide (x.term=zT) && (decide (x.text=[]) && (decide (0≤x.n) && decide (x.n≤2000)))
 else if x.op=5∨x.op=7 then decide (x.term=zT) && (decide (x.text=[]) && decide (x.n=0))
 else if x.op=6 then decide (x.term=zT) && (decide (x.n=0) && (!so || existsA s x.text))
 else false
theorem bLo (t:LTerm) (ht:OkT t):CT 154 [elT t,.agg [.i .i64 0,.i .i64 0,.s [],.s [],.sl [] 0,.sl [] 0]] (.b (decide (t=zT))):=aSx t zT ht aEe
structure OkX (x:LTest):Prop where
 term:OkT x.term
 text:x.text.length≤140737488355328
theorem bOo (s:bZ) (x:LTest) (so:Bool) (hx:OkX x): CT 98 [cX s,.agg (dT x),.b so] (.b (jH s x so)):=by
 refine bQ mixed Tryz.func98 g0 ?_
 · simp -implicitDefEqProofs (disch:=omega) only [Tryz.f98,go_sem,List.replicate,simprocAttr,dT,avt]
   have c1:=bLo x.term hx.term
   have c2:=aTb x.term hx.term
   have c3:=bDt x.text hx.text
   have c4:=T5 s x.text
   (refine zt4 c1 c2 c3 c4 ?_; repeat' first | exact trivial | refine zJ ?_ ?_ | refine zH fun hc=>?_)
   all_goals clear c1 c2 c3 c4
   all_goals exact aF (by (simp_all [jH,List.length_eq_zero_iff]) <;> (intros; omega)) rfl
def aRc (s:bZ) (x:LTest) (t:LTerm):Bool:=
 if x.op=1 then decide (x.term=t)
 else if x.op=2 then decide (t.kind=5) && (decide (t.text=x.text) && decide ((t.kids.length:Int)=x.n))
 else if x.op=3 then decide (t.kind=7) && decide ((t.kids.length:Int)=x.n)
 else if x.op=4 then decide (t.kind=7) && decide (x.n≤(t.kids.length:Int))
 else if x.op=5 then decide (t.kind=8)
 else if x.op=7 then decide (t.kind=8) && decide (t.kids.length=0)
 else rE s (kZ s t) x.text
theorem bOm (s:bZ) (x:LTest) (t:LTerm) (hs:Small s) (hx:OkX x) (ht:OkT t): CT 101 [cX s,.agg (dT x),elT t] (.b (aRc s x t)):=by
 refine bQ mixed Tryz.func101 g0 ?_
 · simp -implicitDefEqProofs (disch:=omega) only [Tryz.f101,go_sem,List.replicate,simprocAttr,dT,avt]
   have c1:=aSx x.term t hx.term ht
   have c2:=aTa s t
   have c3:=aZh s (kZ s t) x.text hs
   (refine zt3 c1 c2 c3 ?_; repeat' first | exact trivial | refine zJ ?_ ?_ | refine zH fun hc=>?_)
   all_goals clear c1 c2 c3
   all_goals exact aF (by (simp_all [aRc]) <;> (intros; omega)) rfl
def uO:LTerm→List Int→Option LTerm
 | t,[]=>some t
 | t,i::p=>if 0≤i∧i < (t.kids.length:Int) then uO (t.kids.getD i.toNat default) p else none
def fQ (s:bZ) (a:LAsk) (t:LTerm):Bool:=match uO t a.path with
 | some u=>aRc s a.test u
 | none=>false

theorem aVl {p:List Int}:∀ {t u:LTerm},OkT t→uO t p=some u→OkT u:=by
 induction p with
 | nil=>intro t u h e; simp only [uO,aB] at e; exact e ▸ h
 | cons i p ih=>
   intro t u h e
   rw [uO] at e
   split at e
   · exact ih (h.kid _ (aU (by omega))) e
   · cases e
theorem aSs (s:bZ) (a:LAsk) (t:LTerm) (hs:Small s) (hx:OkX a.test) (hp:a.path.length≤1000000) (ht:OkT t): CT 51 [cX s,.agg (aJ a),elT t] (.b (fQ s a t)):=by
 refine bQ mixed Tryz.func51 g0 ?_
 · simp -implicitDefEqProofs (disch:=omega) only [Tryz.f51,go_sem,List.replicate,simprocAttr,aJ,avt]
   (refine zs0 ?_; repeat' first | exact trivial | refine zJ ?_ ?_ | refine zH fun hc=>?_)
   refine bP (fun (s:Nat × LTerm)=>[.k,.k,.k,.k,.k,.k,.j,.k,.j,.k,.k,.k,.v (.i .i64 (s.1:Nat)),.j,.j,.j,.j,.j,.j,.j,.j,.j,.j,.j,.j,.j,.j,.j,.j,.j,.j,.k,.k,.k,.k,.k]) (fun s=>[.box false (aJ a),.box false [.i .i64 (s.2).kind,.i .i64 (s.2).n,.s (s.2).text,.s (s.2).sort,.sl ((s.2).kids.flatMap aC) (s.2).kids.length,.sl ((s.2).rest.flatMap aC) (s.2).rest.length]]) (fun s=>s.1≤a.path.length∧OkT s.2∧uO t a.path=uO s.2 (a.path.drop s.1)) (fun s=>a.path.length - s.1) ((0,t)) ⟨aG _,ht,rfl⟩ rfl (by simp [eN]) ?_
   rintro ⟨k,u⟩ j ⟨hk,hu,hw⟩
   dsimp only at hk hu hw
   have hku:=hu.kids
   by_cases hlt:k < a.path.length
   · have hki:(k:Int) < ((a.path.length:Nat):Int):=by omega
     have hd:a.path.drop k=a.path.getD k 0::a.path.drop (k+1):=by
       rw [bH hlt]; simp [List.getD,hlt]
     rw [hd,uO] at hw
     refine zh (zA2 (zt hki) @aJ.eq_1) ?_
     (refine zx0 (zA2 (zt hki) @aJ.eq_1) ?_; repeat' first | exact trivial | refine zJ ?_ ?_ | refine zH fun hc=>?_)
     · rw [if_neg (by omega)] at hw
       exact aF (by rw [fQ,hw]) rfl
     · have hi:0≤a.path.getD k 0∧a.path.getD k 0 < (u.kids.length:Int):=by omega
       rw [if_pos hi] at hw
       exact ⟨(k+1,u.kids.getD (a.path.getD k 0).toNat default),⟨by dsimp only; omega,hu.kid _ (aU (by omega)),hw⟩,by dsimp only; omega,rfl,by simp⟩
     · rw [if_neg (by omega)] at hw
       exact aF (by rw [fQ,hw]) rfl
   · have hki:¬ (k:Int) < ((a.path.length:Nat):Int):=by omega
     rw [aY (by omega),uO] at hw
     have c:=bOm s a.test u hs hx hu
     simp only [dT,avt] at c
     refine zh (zA2 (zf hki) @aJ.eq_1) ?_
     (refine zy1 (zA2 (zf hki) @aJ.eq_1) c ?_; repeat' first | exact trivial | refine zJ ?_ ?_ | refine zH fun hc=>?_)
     exact aF (by rw [fQ,hw]) rfl
def pN (i:Int):Bool:=decide (i < 0) || decide (2000 < i)
theorem bSg (i:Int): CT 97 [.i .i64 i] (.b (pN i)):=by
 refine aL mixed Tryz.func97 g0 ?_
 · skip
   (refine zs0 ?_; repeat' first | exact trivial | refine zJ ?_ ?_ | refine zH fun hc=>?_)
   all_goals exact aF (by (simp_all [pN]) <;> (intros; omega)) rfl
theorem bMr (l:List Int) (hl:l.length≤1000000): CT 153 [.sl (ints l) l.length,.fn 97 [] []] (.i .i64 (idx pN l)):=by
 refine aL mixed Tryz.func153 g0 ?_
 · skip
   (refine zs0 ?_; repeat' first | exact trivial | refine zJ ?_ ?_ | refine zH fun hc=>?_)
   refine bP (fun (k:Nat)=>[.k,.k,.k,.k,.j,.j,.k,.k,.v (.i .i64 (k:Nat)),.j,.j,.j,.j,.j,.j,.j,.j,.j,.j]) (fun k=>[]) (fun k=>k≤l.length∧∀ j,j < k→pN (l.getD j 0)=false) (fun k=>l.length - k) (0) ⟨aG _,fun j h=>by omega⟩ rfl (by simp [eN]) ?_
   rintro k j ⟨hk,hn⟩
   have c:=bSg (l.getD k 0)
   refine zg ?_
   (refine zt1 c ?_; repeat' first | exact trivial | refine zJ ?_ ?_ | refine zH fun hc=>?_)
   · refine aF ?_ (by rfl)
     rw [nY (d:=0) (k:=k) (by omega) hc hn]
   · exact ⟨k+1,⟨by omega,lP hn hc⟩,by omega,rfl⟩
   · refine aF ?_ (by rfl)
     rw [nZ (fun j hj=>hn j (by omega))]
theorem bNl (l:List Int) (hl:l.length≤1000000): CT 96 [.sl (ints l) l.length,.fn 97 [] []] (.b (l.any pN)):=by
 refine aL mixed Tryz.func96 g0 ?_
 · skip
   (refine zt1 (bMr l hl) ?_; repeat' first | exact trivial | refine zJ ?_ ?_ | refine zH fun hc=>?_)
   all_goals exact aF (by rw [sB]) rfl
def isAskV (s:bZ) (a:LAsk):Bool:=decide (a.path.length≤60) && (!a.path.any pN && jH s a.test true)
structure OkK (a:LAsk):Prop where
 test:OkX a.test
 path:a.path.length≤1000000
theorem G2 (s:bZ) (a:LAsk) (ha:OkK a): CT 49 [cX s,.agg (aJ a)] (.b (isAskV s a)):=by
 refine bQ mixed Tryz.func49 g0 ?_
 · simp -implicitDefEqProofs (disch:=omega) only [Tryz.f49,go_sem,List.replicate,simprocAttr,aJ,avt]
   have c1:=bNl a.path ha.path
   have c2:=bOo s a.test true ha.test
   simp only [dT,avt] at c2
   rw [isAskV]
   generalize a.path.any pN=A at *
   generalize jH s a.test true=B at *
   (refine zt2 c1 c2 ?_; repeat' first | exact trivial | refine zJ ?_ ?_ | refine zH fun hc=>?_)
   all_goals clear c1 c2
   all_goals exact aF (by (simp_all) <;> (intros; omega)) rfl
def aRg (s:bZ) (a:LAsk) (t:LTerm):Bool × Int:=if (dM s && (isAskV s a && lH s t))=true then (fQ s a t,0) else (false,2)
def aJj (r:Bool × Int):AV:=.tup [.b r.1,.i .i64 r.2]
theorem bPi (s:bZ) (a:LAsk) (t:LTerm) (hm:Small s) (hs:OkS s) (ha:OkK a) (ht:OkT t): CT 15 [.agg (aO s),.agg (aJ a),elT t] (aJj (aRg s a t)):=by
 refine bQ mixed Tryz.func15 g0 ?_
 · simp -implicitDefEqProofs (disch:=omega) only [Tryz.f15,go_sem,List.replicate,simprocAttr,aJj,aJ,avt]
   have c1:=aMg s hm hs
   have c3:=G2 s a ha
   have c4:=aTc s t hm ht
   have c5:=aSs s a t hm ha.test ha.path ht
   simp only [aJ,avt] at c3 c5
   rw [aRg]
   rcases eM (dM s) with h | h
   · have c2:=aBz s hm (iE h)
     rw [h] at c1
     (repeat' (first | refine gT ?_ ?_ | refine gF ?_ ?_ | refine gC ?_ ?_ | ((first | (refine bF (c1) ?_ ?_; (focus (simp -implicitDefEqProofs (disch:=omega) only [zdB,go_sem,simprocAttr]; done))) | (refine bF (c2) ?_ ?_; (focus (simp -implicitDefEqProofs (disch:=omega) only [zdB,go_sem,simprocAttr]; done))) | (refine bF (c3) ?_ ?_; (focus (simp -implicitDefEqProofs (disch:=omega) only [zdB,go_sem,simprocAttr]; done))) | (refine bF (c4) ?_ ?_; (focus (simp -implicitDefEqProofs (disch:=omega) only [zdB,go_sem,simprocAttr]; done))) | (refine bF (c5) ?_ ?_; (focus (simp -implicitDefEqProofs (disch:=omega) only [zdB,go_sem,simprocAttr]; done)))); simp -implicitDefEqProofs (disch:=omega) only [go_sem,simprocAttr]) | refine bB (by omega) ?_ | (intro hr; have hc:=hr; (try simp only [zdz] at hc); simp -implicitDefEqProofs (disch:=omega) only [hr,go_sem,simprocAttr]; (try clear hr))))
     all_goals clear c1 c2 c3 c4 c5
     all_goals exact aF (by simp_all) rfl
   · rw [h] at c1
     (refine zt1 c1 ?_; repeat' first | exact trivial | refine zJ ?_ ?_ | refine zH fun hc=>?_)
     all_goals exact aF (by rw [h]; rfl) rfl

@[simp] theorem bKn:nodesL []=0:=rfl
@[simp] theorem bMv:highL []=0:=rfl

def rO (t:LTerm) (i:Int):Bool:=decide (0≤i) && decide (i < t.kids.length)
def kidAt (t:LTerm) (i:Int):LTerm:=t.kids.getD i.toNat default
def tD:LTerm→List Int→LTerm
 | t,[]=>t
 | t,i::p=>if rO t i then tD (kidAt t i) p else t
def aDa:LTerm→List Int→Bool
 | _,[]=>true
 | t,i::p=>rO t i && aDa (kidAt t i) p
theorem drop_at {p:List Int} {k:Nat} (h:k < p.length):p.drop k=p.getD k 0::p.drop (k+1):=by
 rw [bH h]; simp [List.getD,h]
def PathOk (p:List Int):Prop:=p.length≤140737488355328∧∀ i ∈ p,-9223372036854775808≤i∧i≤9223372036854775807
theorem PathOk.at {p:List Int} (h:PathOk p) {k:Nat} (hk:k < p.length) : -9223372036854775808≤p.getD k 0∧p.getD k 0≤9223372036854775807:=h.2 _ (aU hk)
theorem OkT.kidAt {t:LTerm} (h:OkT t) {i:Int} (hi:rO t i=true):OkT (kidAt t i):=by
 simp only [rO,aA,decide_eq_true_eq] at hi
 exact h.kid _ (aU (by omega))
def aWn (t:LTerm) (b:Bool):AV:=.tup [elT t,.b b]
theorem aRz {H:List AObj} {t:LTerm} {v4 v5:AV} {c:Bool} (r4:Rd6 H v4 t.kids) (r5:Rd6 H v5 t.rest):Fin H (.tup [.agg [.i .i64 t.kind,.i .i64 t.n,.s t.text,.s t.sort,v4,v5],.b c]) (aWn t c):=by
 have e4:=D2 r4
 have e5:=D2 r5
 have hn:bW (.tup [.agg [.i .i64 t.kind,.i .i64 t.n,.s t.text,.s t.sort,v4,v5],.b c]) (aWn t c)=[]:=by
   simp only [aWn,elT,bW,finIdsL,bC,e4.2,e5.2,List.append_nil]
 refine .inr ⟨?_,?_,?_⟩
 · rw [aWn,elT,bC]; exact ⟨⟨rfl,rfl,rfl,rfl,e4.1,e5.1,trivial⟩,rfl,trivial⟩
 · rw [hn]; exact cR
 · rw [hn]; simp
theorem bIi {H:List AObj} {t u:LTerm} {b c:Bool} (h:t=u) (hb:b=c):Fin H (.tup [.agg [.i .i64 u.kind,.i .i64 u.n,.s u.text,.s u.sort,.sl (u.kids.flatMap aC) u.kids.length,.sl (u.rest.flatMap aC) u.rest.length],.b c]) (aWn t b):=by
 subst h hb
 exact aRz aGy aGy
theorem bPr (t:LTerm) (p:List Int) (ht:OkT t) (hp:PathOk p): CT 174 [elT t,avi p] (aWn (if aDa t p then tD t p else tZ) (aDa t p)):=by
 refine bQ mixed Tryz.func174 g0 ?_
 · generalize hR:((aWn (if aDa t p then tD t p else tZ) (aDa t p)):AV)=R
   simp -implicitDefEqProofs (disch:=omega) only [Tryz.f174,go_sem,List.replicate,simprocAttr,avi]
   (refine zs0 ?_; repeat' first | exact trivial | refine zJ ?_ ?_ | refine zH fun hc=>?_)
   refine bP (fun (s:Nat × LTerm)=>[.k,.k,.k,.k,.k,.j,.k,.j,.k,.k,.v (.i .i64 (s.1:Nat)),.j,.j,.j,.j,.j,.j,.j,.j,.j,.j,.j,.j,.j,.j,.j,.j,.j,.j,.j,.k]) (fun s=>[.box false [.i .i64 (s.2).kind,.i .i64 (s.2).n,.s (s.2).text,.s (s.2).sort,.sl ((s.2).kids.flatMap aC) (s.2).kids.length,.sl ((s.2).rest.flatMap aC) (s.2).rest.length],.box false [.i .i64 0,.i .i64 0,.s [],.s [],.e0,.e0]]) (fun s=>(s.1≤p.length∧OkT s.2)∧tD t p=tD s.2 (p.drop s.1)∧aDa t p=aDa s.2 (p.drop s.1)) (fun s=>p.length - s.1) ((0,t)) ⟨⟨aG _,ht⟩,rfl,rfl⟩ rfl (by simp [eN]) ?_
   rintro ⟨k,u⟩ j ⟨⟨hk,hu⟩,h1,h2⟩
   dsimp only at hk hu h1 h2
   have hq:=hp.1
   have hb:=fun h=>hp.at (k:=k) h
   have hl:=hu.kids
   refine zg ?_
   (refine zs0 ?_; repeat' first | exact trivial | refine zJ ?_ ?_ | refine zH fun hc=>?_)
   · have hn:rO u (p.getD k 0)=false:=by simp only [rO,iG,decide_eq_false_iff_not]; omega
     rw [drop_at (by omega)] at h1 h2
     rw [tD,if_neg (by rw [hn]; simp)] at h1
     rw [aDa,hn,Bool.false_and] at h2
     subst hR
     (rw [h2,if_neg (by simp)]; exact aRz (t:=tZ) yL yL)
   · have hn:rO u (p.getD k 0)=true:=by simp only [rO,aA,decide_eq_true_eq]; omega
     rw [drop_at (by omega)] at h1 h2
     rw [tD,if_pos hn] at h1
     rw [aDa,hn,Bool.true_and] at h2
     exact ⟨(k+1,kidAt u (p.getD k 0)),⟨⟨by dsimp only; omega,hu.kidAt hn⟩,h1,h2⟩,by dsimp only; omega,rfl,by simp⟩
   · have hn:rO u (p.getD k 0)=false:=by simp only [rO,iG,decide_eq_false_iff_not]; omega
     rw [drop_at (by omega)] at h1 h2
     rw [tD,if_neg (by rw [hn]; simp)] at h1
     rw [aDa,hn,Bool.false_and] at h2
     subst hR
     (rw [h2,if_neg (by simp)]; exact aRz (t:=tZ) yL yL)
   · rw [aY (by omega)] at h1 h2
     rw [tD] at h1
     rw [aDa] at h2
     subst hR
     exact bIi (by first | exact h1 | (rw [h2]; exact h1)) h2
def atV (t:LTerm) (p:List Int):Res:=if fO nodeB t then (if aDa t p then (tD t p,0) else (tZ,4)) else (tZ,2)
theorem bPu (t:LTerm) (p:List Int) (ht:OkT t) (hp:PathOk p): CT 109 [elT t,avi p] (bFx (atV t p)):=by
 refine bQ mixed Tryz.func109 g0 ?_
 · generalize hR:((bFx (atV t p)):AV)=R
   simp -implicitDefEqProofs (disch:=omega) only [Tryz.f109,go_sem,List.replicate,simprocAttr,avi]
   have c:=aIy t ht
   have c1:=bPr t p ht hp
   cases hv:fO nodeB t with
   | false=>
     rw [hv] at c
     (refine zt1 c ?_; repeat' first | exact trivial | refine zJ ?_ ?_ | refine zH fun hc=>?_)
     subst hR
     exact aSb (by rw [atV,hv]; rfl) yL yL
   | true=>
     rw [hv] at c
     cases ha:aDa t p with
     | false=>
       rw [ha,if_neg (by simp)] at c1
       (refine zy2 @aWn.eq_1 c c1 ?_; repeat' first | exact trivial | refine zJ ?_ ?_ | refine zH fun hc=>?_)
       subst hR
       exact aSb (by rw [atV,hv,ha]; rfl) yL yL
     | true=>
       rw [ha,if_pos rfl] at c1
       (refine zy2 @aWn.eq_1 c c1 ?_; repeat' first | exact trivial | refine zJ ?_ ?_ | refine zH fun hc=>?_)
       subst hR
       have he:atV t p=(tD t p,0):=by rw [atV,hv,ha]; rfl
       exact aYv he

theorem bFq (t:LTerm) (ht:OkT t):CT 74 [elT t,.agg [.i .i64 0,.i .i64 0,.s [],.s [],.sl [] 0,.sl [] 0]] (.b (decide (t=zT))):=aJd t zT ht aEe
def Q3 (t:LTerm):Bool:=decide (t.kind=1) || (decide (t.kind=2) || (decide (t.kind=3) || decide (t.kind=4)))
theorem bOa (t:LTerm): CT 170 [elT t] (.b (Q3 t)):=by
 refine aL mixed Tryz.func170 g0 ?_
 · skip
   (refine zs0 ?_; repeat' first | exact trivial | refine zJ ?_ ?_ | refine zH fun hc=>?_)
   all_goals exact aF (by simp_all [Q3]) rfl
theorem bOl (s:bZ) (x:LTest) (hm:Small s) (hs:OkS s) (hv:dM s=true) (hx:OkX x): CT 107 [.agg (aO s),.agg (dT x)] (.b (jH s x true)):=by
 refine bQ mixed Tryz.func107 g0 ?_
 · simp -implicitDefEqProofs (disch:=omega) only [Tryz.f107,go_sem,List.replicate,simprocAttr,dT,avt]
   have c1:=bFq x.term hx.term
   have c2:=aIy x.term hx.term
   have c3:=aTe x.text hx.text
   have c4:=cBq s x.text hm hs
   have h0:pY s []=0:=bCc hv rfl
   have c5:=bOa x.term
   rw [h0] at c4
   have e:jH s x true=(if (¬ x.op=1∧¬ x.term=zT)∨(¬ x.op=2∧¬ x.op=6∧¬ x.text.length=0) then false
     else if x.op=1 then decide (x.n=0) && (Q3 x.term && fO nodeB x.term)
     else if x.op=2 then dN (tG x.text) && (decide (0≤x.n) && decide (x.n≤8))
     else if x.op=3∨x.op=4 then decide (0≤x.n) && decide (x.n≤2000)
     else if x.op=5∨x.op=7 then decide (x.n=0)
     else if x.op=6 then decide (x.n=0) && existsA s x.text
     else false):=by
     unfold jH Q3 yM
     by_cases h1:x.op=1
     · have hk:(decide (1≤x.term.kind) && decide (x.term.kind≤4))=(decide (x.term.kind=1) || (decide (x.term.kind=2) || (decide (x.term.kind=3) || decide (x.term.kind=4)))):=by
         rw [← Bool.decide_and,← Bool.decide_or,← Bool.decide_or,← Bool.decide_or]
         exact decide_eq_decide.2 (by omega)
       simp only [h1,if_true,← hk]
       generalize decide (1≤x.term.kind)=A
       generalize decide (x.term.kind≤4)=B
       generalize fO nodeB x.term=C
       by_cases ht:x.text=[] <;> by_cases hn:x.n=0 <;> simp [ht,hn,List.length_eq_zero_iff,jY]
     · generalize fO nodeB x.term=C
       by_cases ht:x.text=[] <;> by_cases hz:x.term=zT <;> simp [h1,ht,hz,List.length_eq_zero_iff]
       all_goals (by_cases h2:x.op=2 <;> by_cases h6:x.op=6 <;> simp_all)
   rw [e]
   clear e
   by_cases h1:x.op=1
   · have g2:¬ x.op=2:=by omega
     have g6:¬ x.op=6:=by omega
     refine zh (zA2 (zt h1) (zA2 (zf g2) (zf g6))) ?_
     (refine zy2 (zA2 (zt h1) (zA2 (zf g2) (zf g6))) c2 c5 ?_; repeat' first | exact trivial | refine zJ ?_ ?_ | refine zH fun hc=>?_)
     all_goals clear c1 c2 c3 c4 c5
     all_goals (refine aF ?_ rfl)
     all_goals simp_all
   · by_cases h2:x.op=2
     · refine zh (zA2 (zf h1) (zt h2)) ?_
       (refine zy2 (zA2 (zf h1) (zt h2)) c1 c3 ?_; repeat' first | exact trivial | refine zJ ?_ ?_ | refine zH fun hc=>?_)
       all_goals clear c1 c2 c3 c4 c5
       all_goals (refine aF ?_ rfl)
       all_goals simp_all
     · by_cases h6:x.op=6
       · have g3:¬ x.op=3:=by omega
         have g4:¬ x.op=4:=by omega
         have g5:¬ x.op=5:=by omega
         have g7:¬ x.op=7:=by omega
         refine zh (zA2 (zf h1) (zA2 (zf h2) (zA2 (zt h6) (zA2 (zf g3) (zA2 (zf g4) (zA2 (zf g5) (zf g7))))))) ?_
         (refine zy2 (zA2 (zf h1) (zA2 (zf h2) (zA2 (zt h6) (zA2 (zf g3) (zA2 (zf g4) (zA2 (zf g5) (zf g7))))))) c1 c4 ?_; repeat' first | exact trivial | refine zJ ?_ ?_ | refine zH fun hc=>?_)
         all_goals clear c1 c2 c3 c4 c5
         all_goals (refine aF ?_ rfl)
         all_goals simp_all
       · refine zh (zA2 (zf h1) (zA2 (zf h2) (zf h6))) ?_
         (refine zy1 (zA2 (zf h1) (zA2 (zf h2) (zf h6))) c1 ?_; repeat' first | exact trivial | refine zJ ?_ ?_ | refine zH fun hc=>?_)
         all_goals clear c1 c2 c3 c4 c5
         all_goals (refine aF ?_ rfl)
         all_goals simp_all
theorem Y0 (s:bZ) (t:LTerm) (x:Str) (hm:Small s) (hs:OkS s) (hv:dM s=true) (hz:1≤t.kind∧t.kind≤8) (hp:kL s t=true): CT 175 [.agg (aO s),elT t,.s x] (.b (rE s (kZ s t) x)):=by
 refine aL mixed Tryz.func175 g0 ?_
 · skip
   obtain ⟨q1,q2⟩:=M5 hv hz hp
   (refine zy2 @q1 (aJb s t hs) (aZg s (kZ s t) x hm) ?_; repeat' first | exact trivial | refine zJ ?_ ?_ | refine zH fun hc=>?_)
   all_goals exact aF (by rw [zO q2]) rfl
theorem bOk (s:bZ) (x:LTest) (t:LTerm) (hm:Small s) (hs:OkS s) (hv:dM s=true) (hx:OkX x) (ht:OkT t) (hk:1≤t.kind∧t.kind≤8) (hp:kL s t=true): CT 110 [.agg (aO s),.agg (dT x),elT t] (.b (aRc s x t)):=by
 refine bQ mixed Tryz.func110 g0 ?_
 · simp -implicitDefEqProofs (disch:=omega) only [Tryz.f110,go_sem,List.replicate,simprocAttr,dT,avt]
   have c1:=aJd x.term t hx.term ht
   have c2:CT 175 [.agg (aO s),elT t,.s x.text] (.b (rE s (kZ s t) x.text)):=Y0 s t x.text hm hs hv hk hp
   (refine zt2 c1 c2 ?_; repeat' first | exact trivial | refine zJ ?_ ?_ | refine zH fun hc=>?_)
   all_goals clear c1 c2
   all_goals exact aF (by (simp_all [aRc]) <;> (intros; omega)) rfl
theorem bEw {p:List Int}:∀ {t:LTerm},uO t p=if aDa t p=true then some (tD t p) else none:=by
 induction p with
 | nil=>intro t; rfl
 | cons i p ih=>
   intro t
   rw [uO,aDa,tD,rO]
   by_cases h:0≤i∧i < (t.kids.length:Int)
   · rw [if_pos h,ih,zt h.1,zt h.2]; rfl
   · rw [if_neg h]
     have:(decide (0≤i) && decide (i < (t.kids.length:Int)))=false:=by rw [← Bool.decide_and]; exact zf h
     rw [this]; rfl
theorem aKe {s:bZ} {p:List Int}:∀ {t u:LTerm},wfT nodeB t=true→kL s t=true→uO t p=some u→wfT nodeB u=true∧kL s u=true:=by
 induction p with
 | nil=>intro t u h1 h2 e; simp only [uO,aB] at e; exact e ▸ ⟨h1,h2⟩
 | cons i p ih=>
   intro t u h1 h2 e
   rw [uO] at e
   split at e
   · rw [oR] at h1
     rw [vJ] at h2
     simp only [aA,aN] at h2
     have hm:t.kids.getD i.toNat default ∈ t.kids:=aU (by omega)
     exact ih (h1.2 _ hm) (h2.1.2 _ hm) e
   · cases e
theorem bOz (s:bZ) (a:LAsk) (t:LTerm) (hm:Small s) (hs:OkS s) (hv:dM s=true) (hx:OkX a.test) (hp:PathOk a.path) (ht:OkT t) (hpl:lH s t=true): CT 55 [.agg (aO s),.agg (aJ a),elT t] (.b (fQ s a t)):=by
 refine bQ mixed Tryz.func55 g0 ?_
 · simp -implicitDefEqProofs (disch:=omega) only [Tryz.f55,go_sem,List.replicate,simprocAttr,aJ,avt]
   have hpv:=hpl
   rw [lH,aA] at hpv
   have c1:=bPu t a.path ht hp
   have hw:=bEw (t:=t) (p:=a.path)
   rw [atV,hpv.1,if_pos rfl] at c1
   simp only [avi] at c1
   cases ha:aDa t a.path with
   | false=>
     rw [ha,if_neg (by simp)] at hw
     rw [ha,if_neg (by simp)] at c1
     (refine zy1 @bFx.eq_1 c1 ?_; repeat' first | exact trivial | refine zJ ?_ ?_ | refine zH fun hc=>?_)
     all_goals exact aF (by rw [fQ,hw]) rfl
   | true=>
     rw [ha,if_pos rfl] at hw
     rw [ha,if_pos rfl] at c1
     obtain ⟨q1,q2⟩:=aKe (zN hpv.1) hpv.2 hw
     have z:=bEv _ q1
     have hkk:1≤(tD t a.path).kind∧(tD t a.path).kind≤8:=by cases z with | mk a _ _=>exact a.f
     have c2:=bOk s a.test (tD t a.path) hm hs hv hx (aVl ht hw) hkk q2
     simp only [dT,avt] at c2
     (refine zy2 @bFx.eq_1 c1 c2 ?_; repeat' first | exact trivial | refine zJ ?_ ?_ | refine zH fun hc=>?_)
     all_goals exact aF (by rw [fQ,hw]) rfl
theorem aJt {l:List Int} {k:Nat} (hk:k < l.length) (h:pN (l.getD k 0)=true):l.any pN=true:=lG.2 ⟨_,aU hk,h⟩
theorem bBe {l:List Int} (h:∀ j,j < l.length→pN (l.getD j 0)=false):l.any pN=false:=by
 rw [eW]
 intro x hx
 obtain ⟨j,hj,rfl⟩:=bU.1 hx
 have:=h j hj
 simp [List.getD,hj] at this
 simp [this]
theorem aSr (s:bZ) (a:LAsk) (hm:Small s) (hs:OkS s) (hv:dM s=true) (ha:OkK a): CT 53 [.agg (aO s),.agg (aJ a)] (.b (isAskV s a)):=by
 refine bQ mixed Tryz.func53 g0 ?_
 · simp -implicitDefEqProofs (disch:=omega) only [Tryz.f53,go_sem,List.replicate,simprocAttr,aJ,avt]
   have hp:=ha.path
   have c1:=bOl s a.test hm hs hv ha.test
   simp only [dT,avt] at c1
   (refine zs0 ?_; repeat' first | exact trivial | refine zJ ?_ ?_ | refine zH fun hc=>?_)
   refine bP (fun (k:Nat)=>[.k,.k,.k,.k,.j,.k,.j,.k,.k,.k,.v (.i .i64 (k:Nat)),.j,.j,.j,.j,.j,.j,.j,.j,.j,.j,.k,.k,.k,.k,.k,.k,.k,.k,.k,.k]) (fun k=>[.box false (aO s),.box false (aJ a)]) (fun k=>k≤a.path.length∧∀ j,j < k→pN (a.path.getD j 0)=false) (fun k=>a.path.length - k) (0) ⟨aG _,fun j h=>by omega⟩ rfl (by simp [eN]) ?_
   rintro k j ⟨hk,hn⟩
   refine zh (zA2 @aJ.eq_1 @avt.eq_1) ?_
   (refine zy1 (zA2 @aJ.eq_1 @avt.eq_1) c1 ?_; repeat' first | exact trivial | refine zJ ?_ ?_ | refine zH fun hc=>?_)
   all_goals clear c1
   · exact aF (by rw [isAskV,aJt (k:=k) (by omega) (by rw [pN,zt hc,dE]),Bool.not_true,Bool.false_and,Bool.and_false]) rfl
   · exact ⟨k+1,⟨by omega,lP hn (by rw [pN,zf (by assumption),zf (by assumption)]; rfl)⟩,by omega,rfl⟩
   · exact aF (by rw [isAskV,aJt (k:=k) (by omega) (by rw [pN,zt hc,dD]),Bool.not_true,Bool.false_and,Bool.and_false]) rfl
   all_goals rw [isAskV,bBe (fun j hj=>hn j (by omega))]
   all_goals exact aF (by (simp_all) <;> (intros; omega)) rfl

theorem bUh:(41:Nat) ≠ 3:=by decide
theorem cBv {h:List AObj}:jF Tryz.prog h .cap #[41] [.e0]=some (.i .i64 0,h):=aTo bZh
theorem bXa {dr:Option DR} {d:Option Nat} {os:List fZ} {K:List AV→List AObj→Prop} {env:List AV} {h:List AObj} {s x:Operand}:dW Tryz.prog G0 dr (.call ⟨.builtin .append,#[s,x],#[41,3]⟩) d os K env h=X7 Tryz.prog G0 dr (Tryz.prog.underlying 3) (pO Tryz.prog h 41 (aev G0 env s) (aev G0 env x)) d os K env:=vH bUh
attribute [go_sem] cBv
attribute [go_sem ↓] bXa
theorem bNx (n:Nat) (hn:n≤1000000): CT 221 [.e0,.i .i64 n] (.own 10 [] 0):=by
 refine aL mixed Tryz.func221 g0 ?_
 · skip
   (refine zs0 ?_; repeat' first | exact trivial | refine zJ ?_ ?_ | refine zH fun hc=>?_)
   · exfalso; omega
   · rw [if_pos (by omega),if_neg (by omega)]
     refine zg ?_
     refine ⟨by simp [List.length_flatten],?_⟩
     exact .inr ⟨⟨rfl,rfl,_,rfl,by simp,by simp,rfl⟩,by simp [bW],by simp [bW,jD]⟩
   · exact .inr ⟨⟨rfl,rfl⟩,by simp [bW],by simp [bW]⟩
theorem aEm {l:List (List LAsk)} {k:Nat} (h:k < l.length):(l.map ava)[k]? = some (ava (l.getD k [])):=by simp [h]
attribute [go_sem] aEm ava
def W6 (l:List (List LAsk)):Nat:=l.flatten.length
@[simp] theorem bTa:W6 []=0:=rfl
theorem B9 {l:List (List LAsk)} {k:Nat} (h:k < l.length):W6 (l.take (k+1))=W6 (l.take k)+(l.getD k []).length:=by
 rw [fY (d:=[]) h]; simp [W6]
theorem aOk {l:List (List LAsk)} {k:Nat}:W6 (l.take k)≤W6 l:=by
 have h:(l.take k++l.drop k).flatten.length=l.flatten.length:=by rw [fJ]
 unfold W6
 rw [kX,aE] at h
 omega
theorem aOl {l:List (List LAsk)} {k:Nat} (h:k < l.length):W6 (l.take k)+(l.getD k []).length≤W6 l:=by
 rw [← B9 h]; exact aOk
theorem aIs (l:List (List LAsk)) (hl:l.length≤1000) (hs:W6 l≤1000000): CT 181 [.sl (l.map ava) l.length] (ava l.flatten):=by
 refine aL mixed Tryz.func181 g0 ?_
 · skip
   refine bP (fun (k:Nat)=>[.k,.k,.k,.v (.i .i64 (W6 (l.take k):Nat)),.k,.j,.k,.k,.k,.k,.k,.v (.i .i64 k),.j,.j,.j,.j,.j,.j,.j,.j,.j,.j,.j,.k,.k,.k,.k,.k,.k,.k,.k,.k,.k,.k,.k,.k]) (fun k=>[]) (fun k=>k≤l.length) (fun k=>l.length - k) (0) (aG _) rfl (by simp [eN]) ?_
   rintro k j hk
   have hat:k < l.length→W6 (l.take k)+(l.getD k []).length≤W6 l:=aOl
   have hkk:=aOk (l:=l) (k:=k)
   refine zg ?_
   (refine zs0 ?_; repeat' first | exact trivial | refine zJ ?_ ?_ | refine zH fun hc=>?_)
   · exfalso; omega
   · refine ⟨k+1,by omega,by omega,?_,by simp⟩
     rw [B9 (by omega)]; simp
   · have h1:k=l.length:=by omega
     subst h1
     refine aTq (bNx (W6 l) (by omega)) (by simp -implicitDefEqProofs (disch:=omega) only [aWc,go_sem,simprocAttr]) ?_
     refine zg ?_
     refine bP (fun (t:Nat × AV × List AObj)=>[.k,.k,.k,.k,.k,.k,.v (t.2.1),.k,.j,.k,.k,.k,.k,.k,.k,.k,.k,.k,.k,.k,.k,.k,.k,.k,.k,.k,.k,.v (.i .i64 (t.1:Nat)),.j,.j,.j,.j,.j,.j,.j,.k]) (fun t=>t.2.2) (fun t=>t.1≤l.length∧dV 10 0 t.2.2 t.2.1 ((l.take t.1).flatten.flatMap aJ) (W6 (l.take t.1))) (fun t=>l.length - t.1) ((0,.hs 0 0 0 false,[.arr false 10 []])) ⟨aG _,.inr ⟨0,rfl,rfl,rfl⟩⟩ rfl (by simp [eN]) ?_
     rintro ⟨k,out,g⟩ j ⟨hk,ho⟩
     dsimp only at hk ho
     have hat:k < l.length→W6 (l.take k)+(l.getD k []).length≤W6 l:=aOl
     refine zg ?_
     (refine zs0 ?_; repeat' first | exact trivial | refine zJ ?_ ?_ | refine zH fun hc=>?_)
     · refine dU (more:=[]) (pre:=[]) (news:=(l.getD k []).flatMap aJ) (m:=(l.getD k []).length) ho rfl (by simp) bKr bKj bKl bKs rfl (by decide) (by simp -implicitDefEqProofs (disch:=omega) only [go_sem,simprocAttr]) (by simp -implicitDefEqProofs (disch:=omega) only [go_sem,simprocAttr]) ⟨by omega,by omega⟩ ?_
       intro out' g' ho' _
       refine zg ?_
       refine ⟨(k+1,out',g'),⟨by omega,?_⟩,by simp; omega,rfl,by simp⟩
       dsimp only
       rw [B9 (by omega),fY (d:=[]) (by omega),kX,dP]
       simpa using ho'
     · have h1:k=l.length:=by omega
       subst h1
       rw [jK] at ho
       exact O4 (pre:=[]) (sz:=10) ho rU
end Go.Proofs.YtifefbhllfdmlaaGreatDoor
