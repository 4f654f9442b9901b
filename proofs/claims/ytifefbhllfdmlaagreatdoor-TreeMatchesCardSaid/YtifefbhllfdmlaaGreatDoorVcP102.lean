/-
  What functions of the chapter return, as plain functions of what they are given; no condition beyond those that each theorem names.
-/
import Derived.Test.YtifefbhllfdmlaaGreatDoorVcP101
import Derived.Test.YtifefbhllfdmlaaGreatDoorVoP111
set_option maxRecDepth 100000
set_option linter.unusedSimpArgs false
set_option linter.unusedVariables false
set_option maxHeartbeats 4000000
namespace Go.Proofs.YtifefbhllfdmlaaGreatDoor
open Go Go.Vo
open Nat (reduceAdd reduceSub reduceMul reduceLeDiff reduceLT reduceEqDiff)
open Int (reduceNeg)

theorem aOj {u:LSub} {x:Str}:∀ k,aIz u x k≤k
 | 0=>bA _
 | k+1=>by
   rw [aIz]
   split
   · have:=aOj (u:=u) (x:=x) k; omega
   · exact bA _
theorem oQ {pre g:List AObj} {sz n:Nat} {out:AV} {cells:List AV} (ho:eP sz pre.length g out cells n) (hp:persL cells=true):Fin (pre++g) out (.sl cells n):=by
 rcases ho with ⟨rfl,rfl,rfl⟩ | ⟨i,rfl,hi,hl⟩
 · exact .inr ⟨rfl,by simp [bY],by simp [bY]⟩
 · refine .inr ⟨?_,by simp [bY],by simp [bY]⟩
   show AV.sl cells n=gB dep (pre++g) (.hs (i+pre.length) 0 n false)
   have hg:(pre++g)[i+pre.length]? = some (.arr false sz cells):=by
     rw [aH (by omega)]; simpa using hi
   have hd:(cells.drop 0).take (n * sz)=cells:=by rw [cS,aJ (by omega)]
   simp only [gO,pers,wR,hg,hd,hp,if_true,aP,if_false]
   rw [if_pos (by omega)]
theorem aPs {h:List AObj} {id n sz:Nat} {fz:Bool} {cells:List AV} (hi:h[id]? = some (.arr fz sz cells)) (hl:cells.length=n * sz) (hp:persL cells=true):Fin h (.hs id 0 n false) (.sl cells n):=by
 refine .inr ⟨?_,by simp [bY],by simp [bY]⟩
 show AV.sl cells n=gB dep h (.hs id 0 n false)
 have hd:(cells.drop 0).take (n * sz)=cells:=by rw [cS,aJ (by omega)]
 simp only [gO,pers,wR,hi,hd,hp,if_true,aP,if_false]
 rw [if_pos (by omega)]
theorem aRm {u:LSub} {x:Str} {t:LTerm} {k n:Nat} (hk:k≤u.length) (h:aIz u x u.length=k) (hn:n=u.length+1):avu (aOn u x t)=.sl ((u.take k).flatMap prT++(.s x::[.i .i64 (t).kind,.i .i64 (t).n,.s (t).text,.s (t).sort,.sl ((t).kids.flatMap aA) (t).kids.length,.sl ((t).rest.flatMap aA) (t).rest.length]++(u.drop k).flatMap prT)) n:=by
 rw [avu,aOn,h,dN,cJ,prT,aW,List.length_append,aL,bZ,fH]
 subst hn
 simp only [avt,cC,cH]
 congr 1
 omega
theorem bKu (u:LSub) (x:Str) (t:LTerm) (hu:u.length≤1000000000): CT 251 [avu u,.s x,elT t] (avu (aOn u x t)):=by
 refine fK (rx:=true) (th:=fun i=>if i=4 then some ⟨none,[],true,false,false,[],[],0⟩ else none) mixed Tryz.func251 g0 ?_
 · generalize hR:((avu (aOn u x t)):AV)=R
   simp -implicitDefEqProofs (disch:=omega) only [Tryz.f251,go_sem,List.replicate,↓reduceIte,reduceAdd,reduceSub,reduceMul,reduceLeDiff,reduceLT,reduceEqDiff,reduceNeg,Nat.reduceBEq,avu]
   refine bQ (fun (k:Nat)=>[.k,.k,.k,.k,.k,.k,.k,.v (.i .i64 (k:Nat)),.k,.k,.j,.j,.j,.j,.j,.j,.j,.j,.j,.j,.j,.j,.j,.j,.k,.k,.k,.k,.k,.k,.k,.k,.k,.k,.k,.k,.k,.k]) (fun k=>[.box false [.i .i64 (t).kind,.i .i64 (t).n,.s (t).text,.s (t).sort,.sl ((t).kids.flatMap aA) (t).kids.length,.sl ((t).rest.flatMap aA) (t).rest.length]]) (fun k=>k≤u.length∧aIz u x k=aIz u x u.length) (fun k=>k) (u.length) ⟨bA _,rfl⟩ rfl (by simp [fD]) ?_
   rintro k j ⟨hk,he⟩
   have b1:(k * 112≤140737488355328)=True:=eq_true (by omega)
   have b2:(k≤140737488355328)=True:=eq_true (by omega)
   have b3:((k+1) * 112≤140737488355328)=True:=eq_true (by omega)
   have b4:(k+1≤140737488355328)=True:=eq_true (by omega)
   by_cases h0:(0:Int) < ((k:Nat):Int)
   · have hw:IntKind.i64.wrap (((k:Nat):Int) - 1)=((k - 1:Nat):Int):=by rw [wrap64 (by omega) (by omega)]; omega
     simp -implicitDefEqProofs (disch:=omega) only [zt h0,hw,go_sem,↓reduceIte,reduceAdd,reduceSub,reduceMul,reduceLeDiff,reduceLT,reduceEqDiff,reduceNeg,Nat.reduceBEq]
     (repeat' (first | refine gT ?_ ?_ | refine gF ?_ ?_ | refine gC ?_ ?_ | refine aK (by omega) ?_ | (intro hr; have hc:=hr; (try simp only [zdz] at hc); simp -implicitDefEqProofs (disch:=omega) only [hr,zt h0,hw,go_sem,↓reduceIte,reduceAdd,reduceSub,reduceMul,reduceLeDiff,reduceLT,reduceEqDiff,reduceNeg,Nat.reduceBEq]; (try clear hr))))
     · refine ⟨k - 1,⟨by omega,?_⟩,by omega,rfl⟩
       obtain ⟨k',rfl⟩:∃ k',k=k'+1:=⟨k - 1,by omega⟩
       rw [← he,zI,aIz,if_pos]
       rw [gtS]
       rw [zI] at hc
       rw [hc]; rfl
     · have hm:aIz u x u.length=k:=by
         obtain ⟨k',rfl⟩:∃ k',k=k'+1:=⟨k - 1,by omega⟩
         rw [← he,aIz,if_neg]
         rw [gtS]
         rw [zI] at hc
         rw [hc]; simp
       have b5:u.length * 7 - k * 7=(u.length - k) * 7:=by omega
       have b6:((k+1) * 7≤k * 7+7)=True:=eq_true (by omega)
       have b7:((k+1) * 7=k * 7+7)=True:=eq_true (by omega)
       have b8:k+1+(u.length - k)=u.length+1:=by omega
       have b9:((u.length+1) * 112≤140737488355328)=True:=eq_true (by omega)
       have b10:(u.length+1≤140737488355328)=True:=eq_true (by omega)
       simp -implicitDefEqProofs (disch:=omega) only [b1,b2,b3,b4,gE,bF,bP,List.append_nil,aNa,b5,b6,b7,b8,b9,b10,go_sem,↓reduceIte,reduceAdd,reduceSub,reduceMul,reduceLeDiff,reduceLT,reduceEqDiff,reduceNeg,Nat.reduceBEq]
       (repeat' (first | refine gT ?_ ?_ | refine gF ?_ ?_ | refine gC ?_ ?_ | refine aK (by omega) ?_ | (intro hr; have hc:=hr; (try simp only [zdz] at hc); simp -implicitDefEqProofs (disch:=omega) only [hr,b1,b2,b3,b4,gE,bF,bP,List.append_nil,aNa,b5,b6,b7,b8,b9,b10,go_sem,↓reduceIte,reduceAdd,reduceSub,reduceMul,reduceLeDiff,reduceLT,reduceEqDiff,reduceNeg,Nat.reduceBEq]; (try clear hr))))
       subst hR
       rw [aRm (n:=u.length+1) hk hm rfl]
       exact aPs rfl (by simp only [aL,List.length_append,tO,bZ,fH,bG]; omega) (by simp [persL,pers,hY,qJ,fE,avt])
   · obtain rfl:k=0:=by omega
     simp -implicitDefEqProofs (disch:=omega) only [zf h0,b1,b2,b3,b4,gE,Int.lt_irrefl,decide_false,Bool.and_false,kV,gK,go_sem,↓reduceIte,reduceAdd,reduceSub,reduceMul,reduceLeDiff,reduceLT,reduceEqDiff,reduceNeg,Nat.reduceBEq]
     (repeat' (first | refine gT ?_ ?_ | refine gF ?_ ?_ | refine gC ?_ ?_ | refine aK (by omega) ?_ | (intro hr; have hc:=hr; (try simp only [zdz] at hc); simp -implicitDefEqProofs (disch:=omega) only [hr,zf h0,b1,b2,b3,b4,gE,Int.lt_irrefl,decide_false,Bool.and_false,kV,gK,go_sem,↓reduceIte,reduceAdd,reduceSub,reduceMul,reduceLeDiff,reduceLT,reduceEqDiff,reduceNeg,Nat.reduceBEq]; (try clear hr))))
     subst hR
     rw [aRm (k:=0) (n:=1+u.length) (aF _) (by rw [← he]; rfl) (by omega)]
     exact aPs rfl (by simp only [aL,List.length_append,kV,gK,cS,tO,cH]; simp; omega) (by simp [persL,pers,hY,qJ,fE,avt])
theorem bKt (l:List LTerm) (i:Nat) (hl:l.length≤1000000) (hi:i+2≤l.length): CT 252 [avt l,.i .i64 (i:Nat)] (avt (X7 l i)):=by
 refine fK (rx:=true) (th:=fun _=>none) mixed Tryz.func252 g0 ?_
 · generalize hR:((avt (X7 l i)):AV)=R
   simp -implicitDefEqProofs (disch:=omega) only [Tryz.f252,go_sem,List.replicate,↓reduceIte,reduceAdd,reduceSub,reduceMul,reduceLeDiff,reduceLT,reduceEqDiff,reduceNeg,Nat.reduceBEq,avt]
   have hw:IntKind.i64.wrap (((i:Nat):Int)+2)=((i+2:Nat):Int):=by rw [wrap64 (by omega) (by omega)]; omega
   have b1:(i * 96≤140737488355328)=True:=eq_true (by omega)
   have b2:(i≤140737488355328)=True:=eq_true (by omega)
   have b3:(i≤l.length)=True:=eq_true (by omega)
   have b5:((i:Int)+2).toNat=i+2:=by omega
   have b6:(i+2≤l.length)=True:=eq_true (by omega)
   have b7:l.length * 6 - (i+2) * 6=(l.length - (i+2)) * 6:=by omega
   have hd:List.drop ((i+2) * 6) (l.flatMap aA)=(l.drop (i+2)).flatMap aA:=T3
   have b8:i+(l.length - (i+2))=l.length - 2:=by omega
   have b9:((l.length - 2) * 96≤140737488355328)=True:=eq_true (by omega)
   have b10:(l.length - 2≤140737488355328)=True:=eq_true (by omega)
   simp only [b1,b2,b3,b5,b6,b7,hd,true_and]
   simp -implicitDefEqProofs (disch:=omega) only [fE,b8,b9,b10,go_sem,↓reduceIte,reduceAdd,reduceSub,reduceMul,reduceLeDiff,reduceLT,reduceEqDiff,reduceNeg,Nat.reduceBEq]
   subst hR
   have e:avt (X7 l i)=.sl ((l.take i).flatMap aA++(l.drop (i+2)).flatMap aA) (l.length - 2):=by
     rw [avt,X7,dN,List.length_append,bZ,fH]
     congr 1
     omega
   rw [e]
   exact aPs rfl (by simp only [List.length_append,qD,bZ,fH]; omega) (by simp [hY,fE])
theorem aHl:∀ {l:List AV},persL l=true→l.all aJr=true
 | [],_=>rfl
 | a::l,h=>by
   rw [persL,aC] at h
   rw [dH,aHl h.2,Bool.and_true]
   cases a <;> first | rfl | exact h.1
theorem oC {pre g:List AObj} {sz n:Nat} {out:AV} {cells:List AV} (ho:eP sz pre.length g out cells n) (hp:persL cells=true) :
   gB dep (pre++g) out=.sl cells n∧∃ g',g'.length=g.length∧Vo.freeze (dO dep (pre++g) out) (pre++g)=pre++g':=by
 rcases ho with ⟨rfl,rfl,rfl⟩ | ⟨i,rfl,hi,hl⟩
 · exact ⟨rfl,g,rfl,by rw [wU rfl]; rfl⟩
 · have hlt:=aO hi
   have hg:(pre++g)[i+pre.length]? = some (.arr false sz cells):=by
     rw [aH (by omega)]; simpa using hi
   have hd:(cells.drop 0).take (n * sz)=cells:=by rw [cS,aJ (by omega)]
   refine ⟨?_,g.modify i AObj.fz,by simp,?_⟩
   · simp only [gO,pers,wR,hg,hd,hp,if_true,aP,if_false]
     rw [if_pos (by omega)]
   · rw [aEr,hg]
     simp only [hsQ,aHl hp,if_true,Vo.freeze]
     apply List.ext_getElem?
     intro j
     by_cases hj:j < pre.length
     · rw [jW,aD hj,aD hj]
       have:¬ i+pre.length=j:=by omega
       simp [this]
     · rw [jW,aH (by omega),aH (by omega),jW]
       have:(i+pre.length=j)=(i=j - pre.length):=propext ⟨fun h=>by omega,fun h=>by omega⟩
       simp only [this]
abbrev MK (s:cI) (r:MR):AV→List AObj→Prop:=fun v h'=>gB dep h' v=avw r.1∧∃ z,Vo.freeze (dO dep h' v) h'=[.box false [.sl (s.sorts.map .s) s.sorts.length,.sl (s.below.flatMap aQ) s.below.length,.sl (s.ops.flatMap aI) s.ops.length,.sl (s.funs.flatMap aI) s.funs.length,.sl (s.values.map .s) s.values.length,.b (r.2)]]++z
theorem oB {s:cI} {r:MR} {g:List AObj} {out:AV} (ho:eP 1 1 g out (r.1.map avu) r.1.length):MK s r out (.box false [.sl (s.sorts.map .s) s.sorts.length,.sl (s.below.flatMap aQ) s.below.length,.sl (s.ops.flatMap aI) s.ops.length,.sl (s.funs.flatMap aI) s.funs.length,.sl (s.values.map .s) s.values.length,.b (r.2)]::g):=by
 obtain ⟨k1,g',_,k3⟩:=oC (pre:=[.box false [.sl (s.sorts.map .s) s.sorts.length,.sl (s.below.flatMap aQ) s.below.length,.sl (s.ops.flatMap aI) s.ops.length,.sl (s.funs.flatMap aI) s.funs.length,.sl (s.values.map .s) s.values.length,.b (r.2)]]) ho iM
 exact ⟨k1,g',k3⟩
theorem tD {s:cI} {r:MR} {g:List AObj}:MK s r (avw r.1) (.box false [.sl (s.sorts.map .s) s.sorts.length,.sl (s.below.flatMap aQ) s.below.length,.sl (s.ops.flatMap aI) s.ops.length,.sl (s.funs.flatMap aI) s.funs.length,.sl (s.values.map .s) s.values.length,.b (r.2)]::g):=
 ⟨by rw [gO,if_pos (iK r.1)],g,by rw [rR,if_pos (iK r.1)]; rfl⟩
def wJ (s:cI) (t:LTerm):Prop:=ofR s t=(iL s t,true)∧existsA s (iL s t)=true
theorem aLy {s:cI} {t:LTerm} (h:t.kind=7∨t.kind=8):wJ s t:=by
 rcases h with h | h
 · simp only [wJ,iL,ofR,h,Int.reduceEq,if_true,if_false,true_and]
   exact jU (by decide)
 · simp only [wJ,iL,ofR,h,Int.reduceEq,if_true,if_false,true_and]
   exact jU (by decide)
theorem aLx {s:cI} {t:LTerm} (hv:eN s=true) (h:fY s t=true):wJ s t:=I4 hv (aIt h) (by rw [fY,aC] at h; exact h.2)
theorem bFy (s:cI) (t:LTerm) (x:Str) (hm:Small s) (hs:OkS s) (hq:wJ s t): CT 175 [.agg (bB s),elT t,.s x] (.b (jE s (iL s t) x)):=by
 refine aE mixed Tryz.func175 g0 ?_
 · skip
   obtain ⟨q1,q2⟩:=hq
   (repeat' (first | refine gT ?_ ?_ | refine gF ?_ ?_ | refine gC ?_ ?_ | ((first | (refine aY (aGq s t hs) ?_ ?_; (focus (simp -implicitDefEqProofs (disch:=omega) only [q1,zdB,go_sem,↓reduceIte,reduceAdd,reduceSub,reduceMul,reduceLeDiff,reduceLT,reduceEqDiff,reduceNeg,Nat.reduceBEq]; done))) | (refine aY (aWi s (iL s t) x hm) ?_ ?_; (focus (simp -implicitDefEqProofs (disch:=omega) only [q1,zdB,go_sem,↓reduceIte,reduceAdd,reduceSub,reduceMul,reduceLeDiff,reduceLT,reduceEqDiff,reduceNeg,Nat.reduceBEq]; done)))); simp -implicitDefEqProofs (disch:=omega) only [q1,go_sem,↓reduceIte,reduceAdd,reduceSub,reduceMul,reduceLeDiff,reduceLT,reduceEqDiff,reduceNeg,Nat.reduceBEq]) | refine aK (by omega) ?_ | (intro hr; have hc:=hr; (try simp only [zdz] at hc); simp -implicitDefEqProofs (disch:=omega) only [hr,q1,go_sem,↓reduceIte,reduceAdd,reduceSub,reduceMul,reduceLeDiff,reduceLT,reduceEqDiff,reduceNeg,Nat.reduceBEq]; (try clear hr))))
   all_goals exact aG (by rw [yQ q2]) rfl
def OkU (m:Nat) (u:LSub):Prop:=u.length≤m∧∀ p ∈ u,OkT p.2
theorem aZm {m:Nat} {u:LSub} {x:Str} {t:LTerm} (h:OkU m u) (e:mOf u x=some t):OkT t:=by
 rw [mOf,bI] at e
 obtain ⟨p,hp,rfl⟩:=e
 exact h.2 p (nT hp)
theorem bTm (s:cI) (b:Bool) (v t:LTerm) (u:LSub) (m:Nat) (hm:Small s) (hs:OkS s) (hu:OkU m u) (hmm:m≤1000000) (ht:OkT t) (hq:wJ s t): ACalls Tryz.prog G0 222 [.ptr 0 0,elT v,elT t,avu u] [.box false [.sl (s.sorts.map .s) s.sorts.length,.sl (s.below.flatMap aQ) s.below.length,.sl (s.ops.flatMap aI) s.ops.length,.sl (s.funs.flatMap aI) s.funs.length,.sl (s.values.map .s) s.values.length,.b (b)]] (MK s (kA s v t u,b)):=by
 refine cY (rx:=false) (th:=fun _=>none) mixed Tryz.func222 ?_
 · simp -implicitDefEqProofs (disch:=omega) only [Tryz.f222,go_sem,List.replicate,↓reduceIte,reduceAdd,reduceSub,reduceMul,reduceLeDiff,reduceLT,reduceEqDiff,reduceNeg,Nat.reduceBEq,avu]
   have hul:=hu.1
   have c1:=bFy s t v.sort hm hs hq
   have c2:=bAa u v.text (by omega)
   have c4:=bKu u v.text t (by omega)
   simp only [avu] at c2 c4
   by_cases ha:jE s (iL s t) v.sort=true
   · rw [ha] at c1
     cases ho:mOf u v.text with
     | some o=>
       rw [ho,X6,elT,aW] at c2
       have c3:=aGs o t (aZm hu ho) ht
       (repeat' (first | refine gT ?_ ?_ | refine gF ?_ ?_ | refine gC ?_ ?_ | ((first | (refine aY (c1) ?_ ?_; (focus (simp -implicitDefEqProofs (disch:=omega) only [zdB,go_sem,↓reduceIte,reduceAdd,reduceSub,reduceMul,reduceLeDiff,reduceLT,reduceEqDiff,reduceNeg,Nat.reduceBEq]; done))) | (refine aY (c2) ?_ ?_; (focus (simp -implicitDefEqProofs (disch:=omega) only [zdB,go_sem,↓reduceIte,reduceAdd,reduceSub,reduceMul,reduceLeDiff,reduceLT,reduceEqDiff,reduceNeg,Nat.reduceBEq]; done))) | (refine aY (c3) ?_ ?_; (focus (simp -implicitDefEqProofs (disch:=omega) only [zdB,go_sem,↓reduceIte,reduceAdd,reduceSub,reduceMul,reduceLeDiff,reduceLT,reduceEqDiff,reduceNeg,Nat.reduceBEq]; done)))); simp -implicitDefEqProofs (disch:=omega) only [go_sem,↓reduceIte,reduceAdd,reduceSub,reduceMul,reduceLeDiff,reduceLT,reduceEqDiff,reduceNeg,Nat.reduceBEq]) | refine aK (by omega) ?_ | (intro hr; have hc:=hr; (try simp only [zdz] at hc); simp -implicitDefEqProofs (disch:=omega) only [hr,go_sem,↓reduceIte,reduceAdd,reduceSub,reduceMul,reduceLeDiff,reduceLT,reduceEqDiff,reduceNeg,Nat.reduceBEq]; (try clear hr))))
       · rw [show kA s v t u=[u] by rw [kA,if_pos ha,if_pos hc]]
         exact oB (.inr ⟨_,rfl,rfl,rfl⟩)
       · rename_i h9
         rw [show kA s v t u=[] by rw [kA,if_pos ha,if_neg h9,ho]; exact if_neg hc]
         exact oB eR
       · rename_i h9
         rw [show kA s v t u=[u] by rw [kA,if_pos ha,if_neg h9,ho]; exact if_pos hc]
         exact oB (.inr ⟨_,rfl,rfl,rfl⟩)
     | none=>
       rw [ho,X6,elT,aW] at c2
       (repeat' (first | refine gT ?_ ?_ | refine gF ?_ ?_ | refine gC ?_ ?_ | ((first | (refine aY (c1) ?_ ?_; (focus (simp -implicitDefEqProofs (disch:=omega) only [zdB,go_sem,↓reduceIte,reduceAdd,reduceSub,reduceMul,reduceLeDiff,reduceLT,reduceEqDiff,reduceNeg,Nat.reduceBEq]; done))) | (refine aY (c2) ?_ ?_; (focus (simp -implicitDefEqProofs (disch:=omega) only [zdB,go_sem,↓reduceIte,reduceAdd,reduceSub,reduceMul,reduceLeDiff,reduceLT,reduceEqDiff,reduceNeg,Nat.reduceBEq]; done))) | (refine aY (c4) ?_ ?_; (focus (simp -implicitDefEqProofs (disch:=omega) only [zdB,go_sem,↓reduceIte,reduceAdd,reduceSub,reduceMul,reduceLeDiff,reduceLT,reduceEqDiff,reduceNeg,Nat.reduceBEq]; done)))); simp -implicitDefEqProofs (disch:=omega) only [go_sem,↓reduceIte,reduceAdd,reduceSub,reduceMul,reduceLeDiff,reduceLT,reduceEqDiff,reduceNeg,Nat.reduceBEq]) | refine aK (by omega) ?_ | (intro hr; have hc:=hr; (try simp only [zdz] at hc); simp -implicitDefEqProofs (disch:=omega) only [hr,go_sem,↓reduceIte,reduceAdd,reduceSub,reduceMul,reduceLeDiff,reduceLT,reduceEqDiff,reduceNeg,Nat.reduceBEq]; (try clear hr))))
       · rw [show kA s v t u=[u] by rw [kA,if_pos ha,if_pos hc]]
         exact oB (.inr ⟨_,rfl,rfl,rfl⟩)
       · rw [show kA s v t u=[aOn u v.text t] by rw [kA,if_pos ha,if_neg hc,ho]]
         exact oB (.inr ⟨_,rfl,rfl,rfl⟩)
   · rw [dV.2 ha] at c1
     (repeat' (first | refine gT ?_ ?_ | refine gF ?_ ?_ | refine gC ?_ ?_ | ((refine aY (c1) ?_ ?_; (focus (simp -implicitDefEqProofs (disch:=omega) only [zdB,go_sem,↓reduceIte,reduceAdd,reduceSub,reduceMul,reduceLeDiff,reduceLT,reduceEqDiff,reduceNeg,Nat.reduceBEq]; done))); simp -implicitDefEqProofs (disch:=omega) only [go_sem,↓reduceIte,reduceAdd,reduceSub,reduceMul,reduceLeDiff,reduceLT,reduceEqDiff,reduceNeg,Nat.reduceBEq]) | refine aK (by omega) ?_ | (intro hr; have hc:=hr; (try simp only [zdz] at hc); simp -implicitDefEqProofs (disch:=omega) only [hr,go_sem,↓reduceIte,reduceAdd,reduceSub,reduceMul,reduceLeDiff,reduceLT,reduceEqDiff,reduceNeg,Nat.reduceBEq]; (try clear hr))))
     rw [show kA s v t u=[] by rw [kA,if_neg ha]]
     exact oB eR
theorem tP {s:cI} {b:Bool}:AObj.persO (.box false [.sl (s.sorts.map .s) s.sorts.length,.sl (s.below.flatMap aQ) s.below.length,.sl (s.ops.flatMap aI) s.ops.length,.sl (s.funs.flatMap aI) s.funs.length,.sl (s.values.map .s) s.values.length,.b (b)])=true:=by
 simp only [AObj.persO,persL,pers,iA,gV,uX,dY]
theorem bEc (s:cI) (b:Bool) (v t:LTerm) (u:LSub) (m:Nat) (hm:Small s) (hs:OkS s) (hu:OkU m u) (hmm:m≤1000000) (ht:OkT t) (hq:wJ s t) :
   ACalls Tryz.prog G0 222 [.ptr 0 0,elT v,elT t,avu u] [.box false [.sl (s.sorts.map .s) s.sorts.length,.sl (s.below.flatMap aQ) s.below.length,.sl (s.ops.flatMap aI) s.ops.length,.sl (s.funs.flatMap aI) s.funs.length,.sl (s.values.map .s) s.values.length,.b (b)]] (fun r h'=>r=avw (kA s v t u)∧h'=[.box false [.sl (s.sorts.map .s) s.sorts.length,.sl (s.below.flatMap aQ) s.below.length,.sl (s.ops.flatMap aI) s.ops.length,.sl (s.funs.flatMap aI) s.funs.length,.sl (s.values.map .s) s.values.length,.b (b)]]):=
 kC g0 (bTm s b v t u m hm hs hu hmm ht hq) (iK _) (by rw [dH,tP]; rfl) (bA _)
theorem bQg (s:cI) (b:Bool) (l:List LSub) (hl:l.length≤1000000): ACalls Tryz.prog G0 223 [.ptr 0 0,avw l] [.box false [.sl (s.sorts.map .s) s.sorts.length,.sl (s.below.flatMap aQ) s.below.length,.sl (s.ops.flatMap aI) s.ops.length,.sl (s.funs.flatMap aI) s.funs.length,.sl (s.values.map .s) s.values.length,.b (b)]] (MK s (pK b l)):=by
 refine cY (rx:=false) (th:=fun _=>none) mixed Tryz.func223 ?_
 · simp -implicitDefEqProofs (disch:=omega) only [Tryz.f223,go_sem,List.replicate,↓reduceIte,reduceAdd,reduceSub,reduceMul,reduceLeDiff,reduceLT,reduceEqDiff,reduceNeg,Nat.reduceBEq,avw]
   (repeat' (first | refine gT ?_ ?_ | refine gF ?_ ?_ | refine gC ?_ ?_ | refine aK (by omega) ?_ | (intro hr; have hc:=hr; (try simp only [zdz] at hc); simp -implicitDefEqProofs (disch:=omega) only [hr,go_sem,↓reduceIte,reduceAdd,reduceSub,reduceMul,reduceLeDiff,reduceLT,reduceEqDiff,reduceNeg,Nat.reduceBEq]; (try clear hr))))
   · rw [show pK b l=([],true) by rw [pK,if_pos (by omega)]]
     exact oB eR
   · rw [show pK b l=(l,b) by rw [pK,if_neg (by omega)]]
     exact tD
theorem bEb (s:cI) (b:Bool) (l:List LSub) (hl:l.length≤1000000) :
   ACalls Tryz.prog G0 223 [.ptr 0 0,avw l] [.box false [.sl (s.sorts.map .s) s.sorts.length,.sl (s.below.flatMap aQ) s.below.length,.sl (s.ops.flatMap aI) s.ops.length,.sl (s.funs.flatMap aI) s.funs.length,.sl (s.values.map .s) s.values.length,.b (b)]] (fun r h'=>r=avw (pK b l).1∧h'=[.box false [.sl (s.sorts.map .s) s.sorts.length,.sl (s.below.flatMap aQ) s.below.length,.sl (s.ops.flatMap aI) s.ops.length,.sl (s.funs.flatMap aI) s.funs.length,.sl (s.values.map .s) s.values.length,.b ((pK b l).2)]]):=
 kC g0 (bQg s b l hl) (iK _) (by rw [dH,tP]; rfl) (bA _)
def yN (m:Nat) (l:List LSub):Prop:=∀ u ∈ l,OkU m u
theorem zD {s:cI} {v t:LTerm} {u:LSub}:(kA s v t u).length≤1:=by
 rw [kA]
 split
 · split
   · simp
   · split
     · split <;> simp
     · simp
 · simp
theorem aQb {s:cI} {p t:LTerm} {u:LSub}:(jN s p t u).length≤1:=by
 rw [jN]
 split
 · exact zD
 · split <;> simp
theorem D0 {s:cI} {p t:LTerm}:∀ {l:List LSub},(l.flatMap (jN s p t)).length≤l.length
 | []=>by simp
 | u::l=>by
   have h1:=aQb (s:=s) (p:=p) (t:=t) (u:=u)
   have h2:=D0 (s:=s) (p:=p) (t:=t) (l:=l)
   rw [cJ,List.length_append,aL]; omega
theorem rY {α β:Type} {f:α→List β} {l:List α} {k:Nat} {d:α} (h:k < l.length):(l.take (k+1)).flatMap f=(l.take k).flatMap f++f (l.getD k d):=by
 have:l.take (k+1)=l.take k++[l.getD k d]:=by
   rw [List.take_add_one,aT h,dT,aT h]; rfl
 rw [this,dN]; simp
theorem bHw {l:List LSub} {k:Nat} (h:k < l.length):(l.map avu)[k]? = some (avu (l.getD k default)):=by
 rw [dR,aT h,dT,aT h]; rfl
attribute [go_sem] bHw iM dW
theorem sI {s:cI} {b:Bool}:persL [.sl (s.sorts.map .s) s.sorts.length,.sl (s.below.flatMap aQ) s.below.length,.sl (s.ops.flatMap aI) s.ops.length,.sl (s.funs.flatMap aI) s.funs.length,.sl (s.values.map .s) s.values.length,.b b]=true:=by
 simp only [persL,pers,iA,gV,uX,dY]
theorem aGx {s:cI} {b b':Bool} {f:FuncId} {A A0:List AV} {r:AV} {d:Option Nat} {os:List fR} {K:List AV→List AObj→Prop} {env:List AV} {h:List AObj} (c:ACalls Tryz.prog G0 f A0 [.box false [.sl (s.sorts.map .s) s.sorts.length,.sl (s.below.flatMap aQ) s.below.length,.sl (s.ops.flatMap aI) s.ops.length,.sl (s.funs.flatMap aI) s.funs.length,.sl (s.values.map .s) s.values.length,.b (b)]] (fun r0 h1=>r0=r∧h1=[.box false [.sl (s.sorts.map .s) s.sorts.length,.sl (s.below.flatMap aQ) s.below.length,.sl (s.ops.flatMap aI) s.ops.length,.sl (s.funs.flatMap aI) s.funs.length,.sl (s.values.map .s) s.values.length,.b (b')]])) (hr:pers r=true) (hA:A=renL (emb [0] (.box false [.sl (s.sorts.map .s) s.sorts.length,.sl (s.below.flatMap aQ) s.below.length,.sl (s.ops.flatMap aI) s.ops.length,.sl (s.funs.flatMap aI) s.funs.length,.sl (s.values.map .s) s.values.length,.b (b)]::h).length) A0)
   (k:dI Tryz.prog (pl G0) none os K (gN env d r) (.box false [.sl (s.sorts.map .s) s.sorts.length,.sl (s.below.flatMap aQ) s.below.length,.sl (s.ops.flatMap aI) s.ops.length,.sl (s.funs.flatMap aI) s.funs.length,.sl (s.values.map .s) s.values.length,.b (b')]::h)):tW Tryz.prog (pl G0) none f A d os K env (.box false [.sl (s.sorts.map .s) s.sorts.length,.sl (s.below.flatMap aQ) s.below.length,.sl (s.ops.flatMap aI) s.ops.length,.sl (s.funs.flatMap aI) s.funs.length,.sl (s.values.map .s) s.values.length,.b (b)]::h):=by
 refine eZ (E7 0 g0 c sI sI hr rfl hA) ?_
 rintro r' h' ⟨rfl,rfl⟩
 exact k
theorem bSo (s:cI) (b:Bool) (p t:LTerm) (l:List LSub) (m:Nat) (hm:Small s) (hs:OkS s) (hl:l.length≤1000) (hu:yN m l) (hmm:m≤1000000) (op:OkT p) (ht:OkT t) (hq:wJ s t): ACalls Tryz.prog G0 183 [.ptr 0 0,elT p,elT t,avw l] [.box false [.sl (s.sorts.map .s) s.sorts.length,.sl (s.below.flatMap aQ) s.below.length,.sl (s.ops.flatMap aI) s.ops.length,.sl (s.funs.flatMap aI) s.funs.length,.sl (s.values.map .s) s.values.length,.b (b)]] (MK s (C4 s p t l b)):=by
 refine cY (rx:=false) (th:=fun _=>none) mixed Tryz.func183 ?_
 · simp -implicitDefEqProofs (disch:=omega) only [Tryz.f183,go_sem,List.replicate,↓reduceIte,reduceAdd,reduceSub,reduceMul,reduceLeDiff,reduceLT,reduceEqDiff,reduceNeg,Nat.reduceBEq,avw]
   refine bQ (fun (q:Nat × AV × List AObj)=>[.k,.k,.k,.k,.k,.k,.k,.k,.k,.v (q.2.1),.k,.j,.k,.k,.v (.i .i64 (q.1:Nat)),.j,.j,.j,.j,.j,.j,.j,.j,.j,.j,.j,.j,.j,.j,.j,.j,.j,.j,.j,.j,.j,.k,.k,.k]) (fun q=>(.box false [.sl (s.sorts.map .s) s.sorts.length,.sl (s.below.flatMap aQ) s.below.length,.sl (s.ops.flatMap aI) s.ops.length,.sl (s.funs.flatMap aI) s.funs.length,.sl (s.values.map .s) s.values.length,.b (b)]::.box false [.i .i64 (p).kind,.i .i64 (p).n,.s (p).text,.s (p).sort,.sl ((p).kids.flatMap aA) (p).kids.length,.sl ((p).rest.flatMap aA) (p).rest.length]::.box false [.i .i64 (t).kind,.i .i64 (t).n,.s (t).text,.s (t).sort,.sl ((t).kids.flatMap aA) (t).kids.length,.sl ((t).rest.flatMap aA) (t).rest.length]::q.2.2)) (fun q=>q.1≤l.length∧eP 1 3 q.2.2 q.2.1 (((l.take q.1).flatMap (jN s p t)).map avu) ((l.take q.1).flatMap (jN s p t)).length) (fun q=>l.length - q.1) ((0,.e0,[])) ⟨aF _,eR⟩ rfl (by simp [fD]) ?_
   rintro ⟨k,out,g⟩ j ⟨hk,ho⟩
   dsimp only at hk ho
   by_cases hlt:k < l.length
   · have hki:(k:Int) < ((l.length:Nat):Int):=by omega
     have hmm':=bE (d:=default) hlt
     have hbl:=zD (s:=s) (v:=p) (t:=t) (u:=l.getD k default)
     have hfl:=D0 (s:=s) (p:=p) (t:=t) (l:=l.take k)
     rw [bZ] at hfl
     have hsucc:=rY (f:=jN s p t) (d:=default) hlt
     have cb:=bEc s b p t (l.getD k default) m hm hs (hu _ hmm') hmm ht hq
     have c3:=aGs p t op ht
     by_cases h6:p.kind=6
     · have e1:jN s p t (l.getD k default)=kA s p t (l.getD k default):=by rw [jN,if_pos h6]
       simp -implicitDefEqProofs (disch:=omega) only [zt hki,zt h6,go_sem,↓reduceIte,reduceAdd,reduceSub,reduceMul,reduceLeDiff,reduceLT,reduceEqDiff,reduceNeg,Nat.reduceBEq]
       (repeat' (first | refine gT ?_ ?_ | refine gF ?_ ?_ | refine gC ?_ ?_ | refine aK (by omega) ?_ | (intro hr; have hc:=hr; (try simp only [zdz] at hc); simp -implicitDefEqProofs (disch:=omega) only [hr,zt hki,zt h6,go_sem,↓reduceIte,reduceAdd,reduceSub,reduceMul,reduceLeDiff,reduceLT,reduceEqDiff,reduceNeg,Nat.reduceBEq]; (try clear hr))))
       refine aGx cb (iK _) (by simp only [elT,avu,renL,ren,aW,avt,renL_pers _ _ qJ,renL_pers _ _ fE,nG]) ?_
       simp -implicitDefEqProofs (disch:=omega) only [avw,go_sem,↓reduceIte,reduceAdd,reduceSub,reduceMul,reduceLeDiff,reduceLT,reduceEqDiff,reduceNeg,Nat.reduceBEq]
       refine eD (more:=[]) (pre:=[.box false [.sl (s.sorts.map .s) s.sorts.length,.sl (s.below.flatMap aQ) s.below.length,.sl (s.ops.flatMap aI) s.ops.length,.sl (s.funs.flatMap aI) s.funs.length,.sl (s.values.map .s) s.values.length,.b (b)],.box false [.i .i64 (p).kind,.i .i64 (p).n,.s (p).text,.s (p).sort,.sl ((p).kids.flatMap aA) (p).kids.length,.sl ((p).rest.flatMap aA) (p).rest.length],.box false [.i .i64 (t).kind,.i .i64 (t).n,.s (t).text,.s (t).sort,.sl ((t).kids.flatMap aA) (t).kids.length,.sl ((t).rest.flatMap aA) (t).rest.length]]) (news:=(kA s p t (l.getD k default)).map avu) (m:=(kA s p t (l.getD k default)).length) ho rfl (by simp) aWg bPf bPh bPs rfl (by decide) (by simp -implicitDefEqProofs (disch:=omega) only [go_sem,↓reduceIte,reduceAdd,reduceSub,reduceMul,reduceLeDiff,reduceLT,reduceEqDiff,reduceNeg,Nat.reduceBEq]) (by simp -implicitDefEqProofs (disch:=omega) only [go_sem,↓reduceIte,reduceAdd,reduceSub,reduceMul,reduceLeDiff,reduceLT,reduceEqDiff,reduceNeg,Nat.reduceBEq]) ⟨by omega,by omega⟩ ?_
       intro out' g' ho' _
       simp -implicitDefEqProofs (disch:=omega) only [go_sem,↓reduceIte,reduceAdd,reduceSub,reduceMul,reduceLeDiff,reduceLT,reduceEqDiff,reduceNeg,Nat.reduceBEq]
       refine ⟨(k+1,out',g'),⟨by dsimp only; omega,?_⟩,by dsimp only; omega,rfl,by simp⟩
       dsimp only
       rw [hsucc,e1,aV,List.length_append]
       exact ho'
     · simp -implicitDefEqProofs (disch:=omega) only [zt hki,zf h6,avu,go_sem,↓reduceIte,reduceAdd,reduceSub,reduceMul,reduceLeDiff,reduceLT,reduceEqDiff,reduceNeg,Nat.reduceBEq]
       (repeat' (first | refine gT ?_ ?_ | refine gF ?_ ?_ | refine gC ?_ ?_ | ((refine aY (c3) ?_ ?_; (focus (simp -implicitDefEqProofs (disch:=omega) only [zt hki,zf h6,avu,zdB,go_sem,↓reduceIte,reduceAdd,reduceSub,reduceMul,reduceLeDiff,reduceLT,reduceEqDiff,reduceNeg,Nat.reduceBEq]; done))); simp -implicitDefEqProofs (disch:=omega) only [zt hki,zf h6,avu,go_sem,↓reduceIte,reduceAdd,reduceSub,reduceMul,reduceLeDiff,reduceLT,reduceEqDiff,reduceNeg,Nat.reduceBEq]) | refine aK (by omega) ?_ | (intro hr; have hc:=hr; (try simp only [zdz] at hc); simp -implicitDefEqProofs (disch:=omega) only [hr,zt hki,zf h6,avu,go_sem,↓reduceIte,reduceAdd,reduceSub,reduceMul,reduceLeDiff,reduceLT,reduceEqDiff,reduceNeg,Nat.reduceBEq]; (try clear hr))))
       · have e1:jN s p t (l.getD k default)=[l.getD k default]:=by rw [jN,if_neg h6,if_pos hc]
         refine eD (pre:=[_,_,_]) (news:=[.sl ((l.getD k default).flatMap prT) (l.getD k default).length]) (m:=1) ho rfl rfl aWg bPf bPh bPs rfl (by decide) (by simp -implicitDefEqProofs (disch:=omega) only [go_sem,↓reduceIte,reduceAdd,reduceSub,reduceMul,reduceLeDiff,reduceLT,reduceEqDiff,reduceNeg,Nat.reduceBEq]) (by simp -implicitDefEqProofs (disch:=omega) only [go_sem,↓reduceIte,reduceAdd,reduceSub,reduceMul,reduceLeDiff,reduceLT,reduceEqDiff,reduceNeg,Nat.reduceBEq]) ⟨by omega,by omega⟩ ?_
         intro out' g' ho' _
         simp -implicitDefEqProofs (disch:=omega) only [go_sem,↓reduceIte,reduceAdd,reduceSub,reduceMul,reduceLeDiff,reduceLT,reduceEqDiff,reduceNeg,Nat.reduceBEq]
         refine ⟨(k+1,out',g'),⟨by dsimp only; omega,?_⟩,by dsimp only; omega,rfl,by simp⟩
         dsimp only
         rw [hsucc,e1,aV,List.length_append]
         exact ho'
       · have e1:jN s p t (l.getD k default)=[]:=by rw [jN,if_neg h6,if_neg hc]
         refine ⟨(k+1,out,g),⟨by dsimp only; omega,?_⟩,by dsimp only; omega,rfl,by simp⟩
         dsimp only
         rw [hsucc,e1,List.append_nil]
         exact ho
   · have hki:¬ (k:Int) < ((l.length:Nat):Int):=by omega
     rw [aJ (by omega)] at ho
     have hfl:=D0 (s:=s) (p:=p) (t:=t) (l:=l)
     have ct:=bEb s b (l.flatMap (jN s p t)) (by omega)
     simp -implicitDefEqProofs (disch:=omega) only [zf hki,go_sem,↓reduceIte,reduceAdd,reduceSub,reduceMul,reduceLeDiff,reduceLT,reduceEqDiff,reduceNeg,Nat.reduceBEq]
     obtain ⟨k1,g',k2,k3⟩:=oC (pre:=[.box false [.sl (s.sorts.map .s) s.sorts.length,.sl (s.below.flatMap aQ) s.below.length,.sl (s.ops.flatMap aI) s.ops.length,.sl (s.funs.flatMap aI) s.funs.length,.sl (s.values.map .s) s.values.length,.b (b)],.box false [.i .i64 (p).kind,.i .i64 (p).n,.s (p).text,.s (p).sort,.sl ((p).kids.flatMap aA) (p).kids.length,.sl ((p).rest.flatMap aA) (p).rest.length],.box false [.i .i64 (t).kind,.i .i64 (t).n,.s (t).text,.s (t).sort,.sl ((t).kids.flatMap aA) (t).kids.length,.sl ((t).rest.flatMap aA) (t).rest.length]]) ho iM
     refine nH 1 rfl ?_
     simp only [cC,cH] at k1 k3
     rw [k1,k3]
     refine aGx ct (iK _) (by simp only [List.set,avw,renL,ren,renL_pers _ _ iM,nG]) ?_
     simp -implicitDefEqProofs (disch:=omega) only [go_sem,↓reduceIte,reduceAdd,reduceSub,reduceMul,reduceLeDiff,reduceLT,reduceEqDiff,reduceNeg,Nat.reduceBEq]
     exact tD

theorem OkU.mono {m m':Nat} {u:LSub} (h:OkU m u) (hm:m≤m'):OkU m' u:=⟨eK h.1 hm,h.2⟩
theorem yN.mono {m m':Nat} {l:List LSub} (h:yN m l) (hm:m≤m'):yN m' l:=fun u hu=>(h u hu).mono hm
theorem bPa {m:Nat} {u:LSub} {x:Str} {t:LTerm} (h:OkU m u) (ht:OkT t):OkU (m+1) (aOn u x t):=by
 have hp:=aOj (u:=u) (x:=x) u.length
 have h1:=h.1
 refine ⟨by rw [aOn,List.length_append,aL,bZ,fH]; omega,fun p hp=>?_⟩
 rw [aOn] at hp
 rcases bC.1 hp with hp | hp
 · exact h.2 p (fO hp)
 · rcases cD.1 hp with rfl | hp
   · exact ht
   · exact h.2 p (nO hp)
theorem aDh {s:cI} {m:Nat} {v t:LTerm} {u:LSub} (h:OkU m u) (ht:OkT t):yN (m+1) (kA s v t u):=by
 intro u' hu'
 rw [kA] at hu'
 split at hu'
 · split at hu'
   · rw [aU.1 hu']; exact h.mono (by omega)
   · split at hu'
     · split at hu'
       · rw [aU.1 hu']; exact h.mono (by omega)
       · cases hu'
     · rw [aU.1 hu']; exact bPa h ht
 · cases hu'
theorem aLa {m:Nat} {l:List LSub} {b:Bool} (h:yN m l):yN m (pK b l).1∧(pK b l).1.length≤1000:=by
 rw [pK]
 split
 · exact ⟨fun u hu=>(by cases hu),by simp⟩
 · exact ⟨h,by dsimp only; omega⟩
theorem aPz {s:cI} {m:Nat} {p t:LTerm} {l:List LSub} {b:Bool} (h:yN m l) (ht:OkT t):yN (m+1) (C4 s p t l b).1∧(C4 s p t l b).1.length≤1000:=by
 refine aLa (fun u' hu'=>?_)
 obtain ⟨u,hu,h2⟩:=gJ.1 hu'
 rw [jN] at h2
 split at h2
 · exact aDh (h u hu) ht u' h2
 · split at h2
   · rw [aU.1 h2]; exact (h u hu).mono (by omega)
   · cases h2
theorem aFb {k:Int} {ks:List LTerm} (h:∀ t ∈ ks,OkT t) (hl:ks.length≤1466015503701):OkT (.mk k 0 [] [] ks []):=
 .mk (by simp [LTerm.text]) (by simp [LTerm.sort]) (by simp [LTerm.n]) (by simp [LTerm.n]) hl (by simp [LTerm.rest]) h (fun k hk=>by cases hk)
def OkN (t:LTerm):Prop:=OkT t∧wfT cP t=true
theorem OkN.kid {t k:LTerm} (h:OkN t) (hk:k ∈ t.kids):OkN k:=⟨h.1.kid k hk,(mE.1 h.2).2 k hk⟩
theorem OkN.even {t:LTerm} (h:OkN t) (h8:t.kind=8):t.kids.length % 2=0:=by
 have e:=(mE.1 h.2).1
 rw [cP] at e
 simp only [h8,(by decide:¬ (8:Int)=1),(by decide:¬ (8:Int)=2),(by decide:¬ (8:Int)=3),(by decide:¬ (8:Int)=4),(by decide:¬ (8:Int)=5),(by decide:¬ (8:Int)=6),(by decide:¬ (8:Int)=7),if_false,if_true,aC,decide_eq_true_eq] at e
 exact e.1.2
def AOk (A:LTerm→LTerm→List LSub→Bool→MR) (p:LTerm):Prop:=
 ∀ (t:LTerm) (l:List LSub) (b:Bool) (m:Nat),OkN t→yN m l→l.length≤1000→yN (m+nodesT p) (A p t l b).1∧(A p t l b).1.length≤1000
theorem U8 {A:LTerm→LTerm→List LSub→Bool→MR}:∀ {ps ts:List LTerm} {l:List LSub} {b:Bool} {m:Nat},(∀ p ∈ ps,AOk A p)→(∀ t ∈ ts,OkN t)→yN m l→l.length≤1000→yN (m+nodesL ps) (oV A ps ts l b).1∧(oV A ps ts l b).1.length≤1000
 | p::ps,t::ts,l,b,m,hA,ht,hl,h1=>by
   obtain ⟨a,c⟩:=hA p (by simp) t l b m (ht t (by simp)) hl h1
   rw [oV,nodesL,← dL]
   exact U8 (fun q hq=>hA q (by simp [hq])) (fun q hq=>ht q (by simp [hq])) a c
 | [],ts,l,b,m,_,_,hl,h1=>by
   have e:oV A [] ts l b=(l,b):=by cases ts <;> rfl
   rw [e]; exact ⟨hl.mono (by omega),h1⟩
 | p::ps,[],l,b,m,_,_,hl,h1=>⟨hl.mono (by omega),h1⟩
structure OkW (t:LTerm) (m:Nat) (w:jG):Prop where
 u:OkU m w.u
 even:w.left.length % 2=0
 sub:∀ x ∈ w.left,x ∈ t.kids
 len:w.left.length≤t.kids.length
def aDt (t:LTerm) (m:Nat) (l:List jG):Prop:=∀ w ∈ l,OkW t m w
theorem OkW.mono {t:LTerm} {m m':Nat} {w:jG} (h:OkW t m w) (hm:m≤m'):OkW t m' w:=⟨h.u.mono hm,h.even,h.sub,h.len⟩
theorem aDt.mono {t:LTerm} {m m':Nat} {l:List jG} (h:aDt t m l) (hm:m≤m'):aDt t m' l:=fun w hw=>(h w hw).mono hm
theorem bKi {l:List LTerm} {i:Nat} (h:i+2≤l.length):(X7 l i).length=l.length - 2∧∀ x ∈ X7 l i,x ∈ l:=by
 refine ⟨by rw [X7,List.length_append,bZ,fH]; omega,fun x hx=>?_⟩
 rcases bC.1 hx with h | h
 · exact fO h
 · exact nO h
theorem aEg {s:cI} {t key:LTerm} {w:jG} {k m:Nat} (h:OkW t m w) (ht:OkN t) (hk:2 * k < w.left.length):yN (m+1) (nB s key w k)∧(nB s key w k).length≤1:=by
 rw [nB]
 split
 · exact ⟨aDh h.u (ht.kid (h.sub _ (bE hk))).1,zD⟩
 · split
   · exact ⟨fun u hu=>by rw [aU.1 hu]; exact h.u.mono (by omega),by simp⟩
   · exact ⟨fun u hu=>(by cases hu),by simp⟩
section
variable {A:LTerm→LTerm→List LSub→Bool→MR} {s:cI} {t key value:LTerm} {m:Nat}
theorem bFj {w:jG} {k:Nat} {b:Bool} (hA:AOk A value) (h:OkW t m w) (ht:OkN t) (hk:2 * k+1 < w.left.length):aDt t (m+1+nodesT value) (aOm A s key value w k b).1∧(aOm A s key value w k b).1.length≤1000:=by
 obtain ⟨s1,s2⟩:=aEg (s:=s) (key:=key) h ht (k:=k) (by omega)
 obtain ⟨a1,a2⟩:=hA (w.left.getD (2 * k+1) default) (nB s key w k) b (m+1) (ht.kid (h.sub _ (bE hk))) s1 (by omega)
 obtain ⟨c1,c2⟩:=bKi (l:=w.left) (i:=2 * k) (by omega)
 have he:=h.even
 have hl:=h.len
 refine ⟨fun w' hw'=>?_,by rw [aOm,dW]; exact a2⟩
 obtain ⟨u,hu,rfl⟩:=dQ.1 hw'
 exact ⟨a1 u hu,by dsimp only; omega,fun x hx=>h.sub x (c2 x hx),by dsimp only; omega⟩
theorem aCx {w:jG} (hA:AOk A value) (h:OkW t m w) (ht:OkN t):∀ (k:Nat) (b:Bool),2 * k≤w.left.length→aDt t (m+1+nodesT value) (lV A s key value w k b).1∧(lV A s key value w k b).1.length≤k * 1000
 | 0,b,_=>⟨fun w hw=>(by cases hw),by simp [lV]⟩
 | k+1,b,hk=>by
   obtain ⟨a1,a2⟩:=aCx hA h ht k b (by omega)
   obtain ⟨c1,c2⟩:=bFj (s:=s) (key:=key) (b:=(lV A s key value w k b).2) hA h ht (k:=k) (by omega)
   rw [lV]
   refine ⟨fun w' hw'=>?_,by dsimp only; rw [List.length_append]; omega⟩
   rcases bC.1 hw' with h1 | h1
   · exact a1 w' h1
   · exact c1 w' h1
theorem aCy (hA:AOk A value) (ht:OkN t):∀ (ws:List jG) (b:Bool),aDt t m ws→aDt t (m+1+nodesT value) (kS A s key value ws b).1∧(kS A s key value ws b).1.length≤ws.length * (t.kids.length * 1000)
 | [],b,_=>⟨fun w hw=>(by cases hw),by simp [kS]⟩
 | w :: ws,b,h=>by
   have hw:=h w (by simp)
   obtain ⟨a1,a2⟩:=aCx (s:=s) (key:=key) hA hw ht (w.left.length / 2) b (by omega)
   obtain ⟨c1,c2⟩:=aCy hA ht ws (lV A s key value w (w.left.length / 2) b).2 (fun w' hw'=>h w' (by simp [hw']))
   have hl:=hw.len
   rw [kS]
   refine ⟨fun w' hw'=>?_,by
     dsimp only
     rw [List.length_append,aL,aDu]
     have:w.left.length / 2 * 1000≤t.kids.length * 1000:=cK _ (by omega)
     omega⟩
   rcases bC.1 hw' with h1 | h1
   · exact a1 w' h1
   · exact c1 w' h1
theorem O5 {ws:List jG} {b:Bool} (hA:AOk A value) (ht:OkN t) (h:aDt t m ws):aDt t (m+1+nodesT value) (pL A s key value ws b).1∧(pL A s key value ws b).1.length≤1000:=by
 rw [pL]
 split
 · exact ⟨fun w hw=>(by cases hw),by simp⟩
 · exact ⟨(aCy hA ht ws b h).1,by omega⟩
end
theorem J3 {l:List LTerm} {k:Nat} (h:2 * k+1 < l.length):nodesL (l.take (2 * (k+1)))=nodesL (l.take (2 * k))+nodesT (l.getD (2 * k) default)+nodesT (l.getD (2 * k+1) default):=by
 rw [show 2 * (k+1)=2 * k+1+1 by omega,tQ h,tQ (by omega)]
theorem aBl {A:LTerm→LTerm→List LSub→Bool→MR} {s:cI} {p t:LTerm} {m:Nat} (hA:∀ q ∈ p.kids,AOk A q) (ht:OkN t) {ws:List jG} {b:Bool} (h:aDt t m ws) (h1:ws.length≤1000):∀ k,2 * k≤p.kids.length→aDt t (m+nodesL (p.kids.take (2 * k))) (lO A s p k (ws,b)).1∧(lO A s p k (ws,b)).1.length≤1000
 | 0,_=>⟨by rw [lO]; exact h.mono (by omega),h1⟩
 | k+1,hk=>by
   obtain ⟨a1,a2⟩:=aBl hA ht h h1 k (by omega)
   have e:=J3 (l:=p.kids) (k:=k) (by omega)
   have hn:1≤nodesT (p.kids.getD (2 * k) default):=by rw [gL]; omega
   obtain ⟨c1,c2⟩:=O5 (s:=s) (key:=p.kids.getD (2 * k) default) (b:=(lO A s p k (ws,b)).2) (hA _ (bE (d:=default) (k:=2 * k+1) (by omega))) ht a1
   rw [lO]
   exact ⟨c1.mono (by omega),c2⟩
theorem aSz {A:LTerm→LTerm→List LSub→Bool→MR} {s:cI} {p t:LTerm} {m:Nat} (hA:∀ q ∈ p.kids,AOk A q) (ht:OkN t) (he:t.kids.length % 2=0) {l:List LSub} {b:Bool} (h:yN m l) (h1:l.length≤1000):yN (m+nodesL p.kids+1) (tE A s p t l b).1∧(tE A s p t l b).1.length≤1000:=by
 have hw:aDt t m (l.map (jG.mk · t.kids)):=fun w hw=>by
   obtain ⟨u,hu,rfl⟩:=dQ.1 hw
   exact ⟨h u hu,he,fun x hx=>hx,bA _⟩
 obtain ⟨a1,a2⟩:=aBl (A:=A) (s:=s) (p:=p) (b:=b) hA ht hw (by rw [dW]; exact h1) (p.kids.length / 2) (by omega)
 have hn:=nA (l:=p.kids) (k:=2 * (p.kids.length / 2))
 rw [tE]
 refine aLa (fun u' hu'=>?_)
 obtain ⟨w,hw,h2⟩:=gJ.1 hu'
 have hw:=a1 w hw
 rw [J6] at h2
 split at h2
 · exact (aDh hw.u (aFb (fun x hx=>(ht.kid (hw.sub x hx)).1) (eK hw.len ht.1.kids))).mono (by omega) u' h2
 · split at h2
   · rw [aU.1 h2]; exact hw.u.mono (by omega)
   · cases h2
theorem F5 {s:cI}:∀ (n:Nat) (p:LTerm),AOk (iB s n) p
 | 0,p=>fun t l b m _ _ _=>⟨fun u hu=>(by cases hu),by simp [iB]⟩
 | n + 1,p=>fun t l b m ht hl h1=>by
   have hA:∀ q ∈ p.kids,AOk (iB s n) q:=fun q _=>F5 n q
   have e:=gL p
   have none:yN (m+nodesT p) (([],b):MR).1∧(([],b):MR).1.length≤1000:=⟨fun u hu=>(by cases hu),by simp⟩
   rw [iB]
   split
   · split
     · obtain ⟨a,c⟩:=U8 (b:=b) hA (fun t' h=>ht.kid h) hl h1
       exact ⟨a.mono (by omega),c⟩
     · exact none
   split
   · split
     · obtain ⟨a,c⟩:=U8 (b:=b) hA (fun t' h=>ht.kid (fO h)) hl h1 (ts:=t.kids.take p.kids.length)
       split
       · obtain ⟨a2,c2⟩:=aPz (s:=s) (p:=p.rest.getD 0 default) (t:=.mk 7 0 [] [] (t.kids.drop p.kids.length) []) (b:=(oV (iB s n) p.kids (t.kids.take p.kids.length) l b).2) a (aFb (fun x hx=>(ht.kid (nO hx)).1) (by rw [fH]; have:=ht.1.kids; omega))
         exact ⟨a2.mono (by omega),c2⟩
       · exact ⟨a.mono (by omega),c⟩
     · exact none
   split
   · split
     · rename_i h8
       obtain ⟨a,c⟩:=aSz (s:=s) (b:=b) hA ht (ht.even h8) hl h1
       exact ⟨a.mono (by omega),c⟩
     · exact none
   obtain ⟨a,c⟩:=aPz (s:=s) (p:=p) (b:=b) hl ht.1
   exact ⟨a.mono (by omega),c⟩

theorem bJi (s:cI) (b:Bool) (p t:LTerm) (l:List LSub) (m:Nat) (hm:Small s) (hs:OkS s) (hl:l.length≤1000) (hu:yN m l) (hmm:m≤1000000) (op:OkT p) (ht:OkT t) (hq:wJ s t) :
   ACalls Tryz.prog G0 183 [.ptr 0 0,elT p,elT t,avw l] [.box false [.sl (s.sorts.map .s) s.sorts.length,.sl (s.below.flatMap aQ) s.below.length,.sl (s.ops.flatMap aI) s.ops.length,.sl (s.funs.flatMap aI) s.funs.length,.sl (s.values.map .s) s.values.length,.b (b)]] (fun r h'=>r=avw (C4 s p t l b).1∧h'=[.box false [.sl (s.sorts.map .s) s.sorts.length,.sl (s.below.flatMap aQ) s.below.length,.sl (s.ops.flatMap aI) s.ops.length,.sl (s.funs.flatMap aI) s.funs.length,.sl (s.values.map .s) s.values.length,.b ((C4 s p t l b).2)]]):=
 kC g0 (bSo s b p t l m hm hs hl hu hmm op ht hq) (iK _) (by rw [dH,tP]; rfl) (bA _)
def bBe (s:cI) (n:Nat) (p:LTerm):Prop:=
 ∀ (t:LTerm) (l:List LSub) (b:Bool) (m:Nat),OkN t→fY s t=true→nodesT t≤1000000→yN m l→l.length≤1000→m+nodesT p≤1000000 →
   ACalls Tryz.prog G0 123 [.ptr 0 0,elT p,elT t,avw l] [.box false [.sl (s.sorts.map .s) s.sorts.length,.sl (s.below.flatMap aQ) s.below.length,.sl (s.ops.flatMap aI) s.ops.length,.sl (s.funs.flatMap aI) s.funs.length,.sl (s.values.map .s) s.values.length,.b (b)]] (fun r h'=>r=avw (iB s n p t l b).1∧h'=[.box false [.sl (s.sorts.map .s) s.sorts.length,.sl (s.below.flatMap aQ) s.below.length,.sl (s.ops.flatMap aI) s.ops.length,.sl (s.funs.flatMap aI) s.funs.length,.sl (s.values.map .s) s.values.length,.b ((iB s n p t l b).2)]])
@[simp] theorem aMi {A:LTerm→LTerm→List LSub→Bool→MR} {ts:List LTerm} {l:List LSub} {b:Bool}:oV A [] ts l b=(l,b):=by cases ts <;> rfl
theorem aEm {A:LTerm→LTerm→List LSub→Bool→MR}:∀ {ps ts:List LTerm} {l:List LSub} {b:Bool} {k:Nat},k < ps.length→k < ts.length →
   oV A (ps.take (k+1)) (ts.take (k+1)) l b=A (ps.getD k default) (ts.getD k default) (oV A (ps.take k) (ts.take k) l b).1 (oV A (ps.take k) (ts.take k) l b).2
 | p::ps,t::ts,l,b,0,_,_=>by simp [oV]
 | p::ps,t::ts,l,b,k+1,h1,h2=>by
   rw [cV,cV,oV,aEm (by simpa using h1) (by simpa using h2),cV,cV,oV]
   rfl
 | [],_,_,_,_,h,_=>by simp at h
 | _::_,[],_,_,_,_,h=>by simp at h
theorem aMk {A:LTerm→LTerm→List LSub→Bool→MR}:∀ {ps ts:List LTerm} {l:List LSub} {b:Bool},oV A ps (ts.take ps.length) l b=oV A ps ts l b
 | [],ts,l,b=>by rw [aMi,aMi]
 | p::ps,[],l,b=>by simp [oV]
 | p::ps,t::ts,l,b=>by rw [aL,cV,oV,oV,aMk]
theorem bWv (s:cI) (n:Nat) (b:Bool) (ps ts:List LTerm) (l:List LSub) (m:Nat) (hA:∀ p ∈ ps,bBe s n p) (ht:∀ t ∈ ts,OkN t∧fY s t=true∧nodesT t≤1000000) (hlen:ps.length≤ts.length) (hp1:ps.length≤1000000) (hu:yN m l) (hl:l.length≤1000) (hmm:m+nodesL ps≤1000000): ACalls Tryz.prog G0 182 [.ptr 0 0,avt ps,avt ts,avw l] [.box false [.sl (s.sorts.map .s) s.sorts.length,.sl (s.below.flatMap aQ) s.below.length,.sl (s.ops.flatMap aI) s.ops.length,.sl (s.funs.flatMap aI) s.funs.length,.sl (s.values.map .s) s.values.length,.b (b)]] (MK s (oV (iB s n) ps ts l b)):=by
 refine yD (rx:=true) (th:=fun i=>if i=4 then some ⟨none,[],false,false,true,[],[],10⟩ else none) mixed Tryz.func182 rfl (by kernel_rfl) (by kernel_rfl) (ac:=?_) ?_ ?_
 rotate_left
 · simp only [strip,uQ,aMd,RX.off,ckF,ckX,zOf,exd,vOf,fI,fX,dG,dF,cN,Bool.and_true,Bool.and_false,cN,oZ,eQ,lU,tS,fV,qW,cH,cC,iZ,anyPre,Region.binds,Bool.not_true,Bool.not_false,aP,if_true,if_false,jI,iG,Bool.true_and,Bool.false_and,bO,aZ,fI,fX,List.append_nil,bOa,aIs,aOz,G8,sX,cU,dB,cN,dG,dF,cO,beq_self_eq_true,Option.some_beq_some,Nat.reduceBEq,aFt,X8,aFo,oN,bHe,wK,List.any_nil,oZ,dY,bJg,bJf,↓reduceIte,Nat.reduceEqDiff,Nat.reduceBEq,wQ,uP,xN,splitK,aJg,bEl,fX,wK,List.any_nil,Bool.not_true,Bool.not_false,Bool.and_true,Bool.true_and,Bool.and_false,dG,dF]
   rfl
 · simp -implicitDefEqProofs (disch:=omega) only [Tryz.f182,go_sem,List.replicate,↓reduceIte,reduceAdd,reduceSub,reduceMul,reduceLeDiff,reduceLT,reduceEqDiff,reduceNeg,Nat.reduceBEq,avt]
   refine bQ (fun (q:Nat × List AObj)=>[.k,.k,.k,.v (avw (oV (iB s n) (ps.take q.1) (ts.take q.1) l b).1),.k,.k,.k,.k,.k,.j,.k,.k,.v (.i .i64 (q.1:Nat)),.j,.j,.j,.j,.j,.j,.j,.j,.j,.j,.j,.j,.j,.j,.k]) (fun q=>(.box false [.sl (s.sorts.map .s) s.sorts.length,.sl (s.below.flatMap aQ) s.below.length,.sl (s.ops.flatMap aI) s.ops.length,.sl (s.funs.flatMap aI) s.funs.length,.sl (s.values.map .s) s.values.length,.b ((oV (iB s n) (ps.take q.1) (ts.take q.1) l b).2)]::q.2)) (fun q=>q.1≤ps.length) (fun q=>ps.length - q.1) ((0,[])) (aF _) rfl (by simp [fD]) ?_
   rintro ⟨k,g⟩ j hk
   dsimp only at hk
   by_cases hlt:k < ps.length
   · have hki:(k:Int) < ((ps.length:Nat):Int):=by omega
     have hkt:k < ts.length:=by omega
     have hpk:=bE (d:=default) hlt
     have htk:=bE (d:=default) hkt
     have e:=aEm (A:=iB s n) (l:=l) (b:=b) hlt hkt
     obtain ⟨r1,r2⟩:=U8 (A:=iB s n) (ps:=ps.take k) (ts:=ts.take k) (b:=b) (fun p _=>F5 n p) (fun t h=>(ht t (fO h)).1) hu hl
     have hn1:=tQ hlt
     have hn2:=nA (l:=ps) (k:=k+1)
     have c:=hA _ hpk (ts.getD k default) _ (oV (iB s n) (ps.take k) (ts.take k) l b).2 (m+nodesL (ps.take k)) (ht _ htk).1 (ht _ htk).2.1 (ht _ htk).2.2 r1 r2 (by omega)
     simp -implicitDefEqProofs (disch:=omega) only [zt hki,go_sem,↓reduceIte,reduceAdd,reduceSub,reduceMul,reduceLeDiff,reduceLT,reduceEqDiff,reduceNeg,Nat.reduceBEq]
     (repeat' (first | refine gT ?_ ?_ | refine gF ?_ ?_ | refine gC ?_ ?_ | refine aK (by omega) ?_ | (intro hr; have hc:=hr; (try simp only [zdz] at hc); simp -implicitDefEqProofs (disch:=omega) only [hr,zt hki,go_sem,↓reduceIte,reduceAdd,reduceSub,reduceMul,reduceLeDiff,reduceLT,reduceEqDiff,reduceNeg,Nat.reduceBEq]; (try clear hr))))
     refine aGx c (iK _) (by simp only [elT,avw,renL,ren,aW,avt,renL_pers _ _ iM,renL_pers _ _ fE,nG]) ?_
     simp -implicitDefEqProofs (disch:=omega) only [go_sem,↓reduceIte,reduceAdd,reduceSub,reduceMul,reduceLeDiff,reduceLT,reduceEqDiff,reduceNeg,Nat.reduceBEq]
     exact ⟨(k+1,g),by dsimp only; omega,by dsimp only; omega,by dsimp only; rw [e],by dsimp only; rw [e],by simp⟩
   · have hki:¬ (k:Int) < ((ps.length:Nat):Int):=by omega
     obtain rfl:k=ps.length:=by omega
     have e:oV (iB s n) (ps.take ps.length) (ts.take ps.length) l b=oV (iB s n) ps ts l b:=by
       rw [iJ,aMk]
     rw [e]
     simp -implicitDefEqProofs (disch:=omega) only [zf hki,go_sem,↓reduceIte,reduceAdd,reduceSub,reduceMul,reduceLeDiff,reduceLT,reduceEqDiff,reduceNeg,Nat.reduceBEq]
     exact tD

def nQ (w:jG):List AV:=[avu w.u,avt w.left]
def aKr (l:List jG):AV:=.sl (l.flatMap nQ) l.length
theorem aKw (w:jG):(nQ w).length=2:=rfl
theorem aNd (w:jG):persL (nQ w)=true:=by rw [nQ,persL,aNc,Bool.true_and,persL,aC]; exact ⟨fE,rfl⟩
theorem sH {l:List jG}:persL (l.flatMap nQ)=true:=kX fun x _=>aNd x
theorem S3 {l:List jG}:(l.flatMap nQ).length=l.length * 2:=oG aKw l
theorem bBm {l:List jG} {k:Nat} (h:k < l.length):((l.flatMap nQ).drop (k * 2)).take 2=nQ (l.getD k default):=by
 rw [qO aKw]
 simp [h,List.getD]
attribute [go_sem] bBm S3 sH aNd
theorem aBw (l:List jG):pers (aKr l)=true:=sH
theorem aUi {l:List LSub} {k:Nat}:pers (.sl (l.map avu) k)=true:=iM
abbrev WR:=List jG × Bool
abbrev MKW (s:cI) (r:WR):AV→List AObj→Prop:=fun v h'=>gB dep h' v=aKr r.1∧∃ z,Vo.freeze (dO dep h' v) h'=[.box false [.sl (s.sorts.map .s) s.sorts.length,.sl (s.below.flatMap aQ) s.below.length,.sl (s.ops.flatMap aI) s.ops.length,.sl (s.funs.flatMap aI) s.funs.length,.sl (s.values.map .s) s.values.length,.b (r.2)]]++z
section
variable {A:LTerm→LTerm→List LSub→Bool→MR} {s:cI} {key value:LTerm}
theorem Z8:∀ {ws:List jG} {b:Bool} {k:Nat},k < ws.length →
   kS A s key value (ws.take (k+1)) b=((kS A s key value (ws.take k) b).1++(lV A s key value (ws.getD k default) ((ws.getD k default).left.length / 2) (kS A s key value (ws.take k) b).2).1,(lV A s key value (ws.getD k default) ((ws.getD k default).left.length / 2) (kS A s key value (ws.take k) b).2).2)
 | w::ws,b,0,_=>by simp [kS]
 | w::ws,b,k+1,h=>by
   rw [cV,kS,Z8 (by simpa using h),cV,kS,bS]
   rfl
 | [],_,_,h=>by simp at h
end
def pX (key:LTerm) (u:LSub):Option LTerm:=if key.kind=6 then mOf u key.text else some key
theorem aIg {s:cI} {key:LTerm} {w:jG} {k:Nat} (h:pX key w.u=none):nB s key w k=kA s key (w.left.getD (2 * k) default) w.u:=by
 rw [nB,show (if key.kind=6 then mOf w.u key.text else some key)=none from h]
theorem aIf {s:cI} {key a:LTerm} {w:jG} {k:Nat} (h:pX key w.u=some a):nB s key w k=if a=w.left.getD (2 * k) default then [w.u] else []:=by
 rw [nB,show (if key.kind=6 then mOf w.u key.text else some key)=some a from h]
theorem bUg (s:cI) (n:Nat) (b:Bool) (ps ts:List LTerm) (l:List LSub) (m:Nat) (hA:∀ p ∈ ps,bBe s n p) (ht:∀ t ∈ ts,OkN t∧fY s t=true∧nodesT t≤1000000) (hlen:ps.length≤ts.length) (hp1:ps.length≤1000000) (hu:yN m l) (hl:l.length≤1000) (hmm:m+nodesL ps≤1000000) :
   ACalls Tryz.prog G0 182 [.ptr 0 0,avt ps,avt ts,avw l] [.box false [.sl (s.sorts.map .s) s.sorts.length,.sl (s.below.flatMap aQ) s.below.length,.sl (s.ops.flatMap aI) s.ops.length,.sl (s.funs.flatMap aI) s.funs.length,.sl (s.values.map .s) s.values.length,.b (b)]] (fun r h'=>r=avw (oV (iB s n) ps ts l b).1∧h'=[.box false [.sl (s.sorts.map .s) s.sorts.length,.sl (s.below.flatMap aQ) s.below.length,.sl (s.ops.flatMap aI) s.ops.length,.sl (s.funs.flatMap aI) s.funs.length,.sl (s.values.map .s) s.values.length,.b ((oV (iB s n) ps ts l b).2)]]):=
 kC g0 (bWv s n b ps ts l m hA ht hlen hp1 hu hl hmm) (iK _) (by rw [dH,tP]; rfl) (bA _)
theorem aCm {P:Program} {G:Glob} {f:FuncId} {A:List AV} {h:List AObj} {K:AV→List AObj→Prop} {a:AV} (j:Nat) (hj:A[j]? = some a) (s:ACalls P G f (A.set j (gB dep h a)) (Vo.freeze (dO dep h a) h) K):ACalls P G f A h K:=by
 refine ⟨s.1,fun X w vs g hl hr=>?_⟩
 have hjv:j < vs.size:=hl ▸ aO hj
 have hv:vs[j]? = some vs[j]:=bU hjv
 obtain ⟨X',g',r',t⟩:=rU g (hr j a vs[j] hj hv)
 refine (s.2 X' w vs g' (by rw [List.length_set]; exact hl) (fun k b v hb hk=>?_)).mono ?_
 · by_cases hkj:j=k
   · subst hkj
     rw [aBa (aO hj)] at hb
     rw [hv] at hk
     cases hb; cases hk
     exact r'
   · rw [dC hkj] at hb
     exact (hr k b v hb hk).mono t.ext
 · rintro e w' ⟨v,r,h',X2,h1,h2,h3,h4,t2⟩
   exact ⟨v,r,h',X2,h1,h2,h3,h4,t.trans t2⟩
theorem aPd {N:DR} {h t:List AObj} {x y:AObj} {ids:List Nat} (hn:¬ N.old 0) (e:Vo.freeze ids h=x::t):lT N h (y::t):=fun i o hi ho=>by
 have h1:=lE ids h i
 rw [e,ho] at h1
 cases i with
 | zero=>exact absurd hi hn
 | succ i=>
   refine ⟨if i+1 ∈ ids then o.fz else o,?_,?_⟩
   · rw [dB] at h1 ⊢
     rw [h1]; rfl
   · split
     · cases o <;> rfl
     · rfl
theorem aGy {s:cI} {b b':Bool} {N:DR} {f:FuncId} {A A0:List AV} {a r:AV} {d:Option Nat} {os:List fR} {K:List AV→List AObj→Prop} {env:List AV} {h t:List AObj} (j:Nat) (hj:A[j]? = some a) (c:ACalls Tryz.prog G0 f A0 [.box false [.sl (s.sorts.map .s) s.sorts.length,.sl (s.below.flatMap aQ) s.below.length,.sl (s.ops.flatMap aI) s.ops.length,.sl (s.funs.flatMap aI) s.funs.length,.sl (s.values.map .s) s.values.length,.b (b)]] (fun r0 h1=>r0=r∧h1=[.box false [.sl (s.sorts.map .s) s.sorts.length,.sl (s.below.flatMap aQ) s.below.length,.sl (s.ops.flatMap aI) s.ops.length,.sl (s.funs.flatMap aI) s.funs.length,.sl (s.values.map .s) s.values.length,.b (b')]])) (hr:pers r=true)
   (he:Vo.freeze (dO dep h a) h=.box false [.sl (s.sorts.map .s) s.sorts.length,.sl (s.below.flatMap aQ) s.below.length,.sl (s.ops.flatMap aI) s.ops.length,.sl (s.funs.flatMap aI) s.funs.length,.sl (s.values.map .s) s.values.length,.b (b)]::t) (hA:A.set j (gB dep h a)=renL (emb [0] (.box false [.sl (s.sorts.map .s) s.sorts.length,.sl (s.below.flatMap aQ) s.below.length,.sl (s.ops.flatMap aI) s.ops.length,.sl (s.funs.flatMap aI) s.funs.length,.sl (s.values.map .s) s.values.length,.b (b)]::t).length) A0) (hn:¬ N.old 0) (k:dI Tryz.prog (pl G0) (some N) os K (gN env d r) (.box false [.sl (s.sorts.map .s) s.sorts.length,.sl (s.below.flatMap aQ) s.below.length,.sl (s.ops.flatMap aI) s.ops.length,.sl (s.funs.flatMap aI) s.funs.length,.sl (s.values.map .s) s.values.length,.b (b')]::t)):bPt Tryz.prog (pl G0) N f A d os K env h:=by
 refine ⟨r,.box false [.sl (s.sorts.map .s) s.sorts.length,.sl (s.below.flatMap aQ) s.below.length,.sl (s.ops.flatMap aI) s.ops.length,.sl (s.funs.flatMap aI) s.funs.length,.sl (s.values.map .s) s.values.length,.b (b')]::t,aCm j hj ?_,aPd hn he,k⟩
 rw [he]
 exact (E7 0 g0 c sI sI hr rfl hA)
theorem aOe {s:cI} {r:WR} {g:List AObj} {x y:AObj} {out:AV} (ho:eP 2 3 g out (r.1.flatMap nQ) r.1.length):MKW s r out (.box false [.sl (s.sorts.map .s) s.sorts.length,.sl (s.below.flatMap aQ) s.below.length,.sl (s.ops.flatMap aI) s.ops.length,.sl (s.funs.flatMap aI) s.funs.length,.sl (s.values.map .s) s.values.length,.b (r.2)]::x::y::g):=by
 obtain ⟨k1,g',_,k3⟩:=oC (pre:=[.box false [.sl (s.sorts.map .s) s.sorts.length,.sl (s.below.flatMap aQ) s.below.length,.sl (s.ops.flatMap aI) s.ops.length,.sl (s.funs.flatMap aI) s.funs.length,.sl (s.values.map .s) s.values.length,.b (r.2)],x,y]) ho sH
 exact ⟨k1,x::y::g',k3⟩
theorem bHn {P:Program} {G:Md} {c:AV} {a b:kR} {R:List AV→List AObj→Prop} {Q:Exit→List AV→List AObj→Prop} {env:List AV} {h:List AObj} (ps:List bHh) (hp:List AObj)
   (first:H0 P G c a b (uK (fun e' h'=>h'=hp∧fD ps env e') Q) env h) (rest:∀ j:Nat→AV,R (vH j 0 ps env) hp):H0 P G c a b (uK R Q) env h:=by
 have mono:∀ x e h',uK (fun e' h'=>h'=hp∧fD ps env e') Q x e h'→uK R Q x e h':=fun x e h' k=>by
   cases x
   case normal=>
     obtain ⟨rfl,hf⟩:=k
     have he:vH (fun n=>e.getD n .u) 0 ps env=e:=aOf _ env e 0 _ (fun m v hv=>by simp [List.getD,hv]) hf
     have r:=rest (fun n=>e.getD n .u)
     rw [he] at r
     exact r
   all_goals exact k
 unfold H0 oR at *
 cases c <;> first | exact ⟨fun e=>oI mono (first.1 e),fun e=>oI mono (first.2 e)⟩ | exact first
theorem eH {α:Type} {l:List α} {k:Nat} {d:α} (h:k < l.length):l.take (k+1)=l.take k++[l.getD k d]:=by
 rw [List.take_add_one,aT h,dT,aT h]; rfl
theorem bKc (s:cI) (n:Nat) (b:Bool) (key value t:LTerm) (ws:List jG) (m:Nat) (hm:Small s) (hs:OkS s) (hv:eN s=true) (hA:bBe s n value) (ht:OkN t) (hpl:∀ x ∈ t.kids,fY s x=true) (hnk:∀ x ∈ t.kids,nodesT x≤1000000) (htl:t.kids.length≤1000000) (hkk:OkT key) (hws:aDt t m ws) (hl:ws.length≤1000) (hmm:m+1+nodesT value≤1000000): ACalls Tryz.prog G0 224 [.ptr 0 0,elT key,elT value,aKr ws] [.box false [.sl (s.sorts.map .s) s.sorts.length,.sl (s.below.flatMap aQ) s.below.length,.sl (s.ops.flatMap aI) s.ops.length,.sl (s.funs.flatMap aI) s.funs.length,.sl (s.values.map .s) s.values.length,.b (b)]] (MKW s (pL (iB s n) s key value ws b)):=by
 refine yD (rx:=true) (th:=fun i=>if i=14 then some ⟨none,[],false,false,true,[],[],9⟩ else if i=17 then some ⟨none,[0],false,false,false,[],[76],0⟩ else none) mixed Tryz.func224 rfl (by kernel_rfl) (by kernel_rfl) (ac:=?_) ?_ ?_
 rotate_left
 · simp only [strip,uQ,aMd,RX.off,ckF,ckX,zOf,exd,vOf,fI,fX,dG,dF,cN,Bool.and_true,Bool.and_false,cN,oZ,eQ,lU,tS,fV,qW,cH,cC,iZ,anyPre,Region.binds,Bool.not_true,Bool.not_false,aP,if_true,if_false,jI,iG,Bool.true_and,Bool.false_and,bO,aZ,fI,fX,List.append_nil,bOa,aIs,aOz,G8,sX,cU,dB,cN,dG,dF,cO,beq_self_eq_true,Option.some_beq_some,Nat.reduceBEq,aFt,X8,aFo,oN,bHe,wK,List.any_nil,oZ,dY,bJg,bJf,↓reduceIte,Nat.reduceEqDiff,Nat.reduceBEq,wQ,uP,xN,splitK,aJg,bEl,fX,wK,List.any_nil,Bool.not_true,Bool.not_false,Bool.and_true,Bool.true_and,Bool.and_false,dG,dF]
   rfl
 · simp -implicitDefEqProofs (disch:=omega) only [Tryz.f224,go_sem,List.replicate,↓reduceIte,reduceAdd,reduceSub,reduceMul,reduceLeDiff,reduceLT,reduceEqDiff,reduceNeg,Nat.reduceBEq,aKr]
   refine bQ (fun (q:Nat × AV × List AObj)=>[.k,.k,.k,.k,.k,.k,.k,.k,.k,.v (q.2.1),.k,.j,.j,.j,.j,.j,.k,.j,.k,.k,.v (.i .i64 (q.1:Nat)),.j,.j,.j,.j,.j,.j,.j,.j,.j,.j,.j,.j,.j,.j,.j,.j,.j,.j,.j,.j,.j,.j,.j,.j,.j,.j,.j,.j,.j,.j,.j,.j,.j,.j,.j,.j,.j,.j,.j,.j,.j,.j,.j,.j,.j,.j,.j,.j,.j,.j,.j,.j,.j,.j,.j,.j,.j,.j,.j,.j,.j,.j,.j,.j,.j,.j,.j,.j,.j,.j,.j,.j,.k,.k,.k,.k,.k,.k,.k]) (fun q=>(.box false [.sl (s.sorts.map .s) s.sorts.length,.sl (s.below.flatMap aQ) s.below.length,.sl (s.ops.flatMap aI) s.ops.length,.sl (s.funs.flatMap aI) s.funs.length,.sl (s.values.map .s) s.values.length,.b ((kS (iB s n) s key value (ws.take q.1) b).2)]::.box false [.i .i64 (key).kind,.i .i64 (key).n,.s (key).text,.s (key).sort,.sl ((key).kids.flatMap aA) (key).kids.length,.sl ((key).rest.flatMap aA) (key).rest.length]::.box false [.i .i64 (value).kind,.i .i64 (value).n,.s (value).text,.s (value).sort,.sl ((value).kids.flatMap aA) (value).kids.length,.sl ((value).rest.flatMap aA) (value).rest.length]::q.2.2)) (fun q=>q.1≤ws.length∧eP 2 3 q.2.2 q.2.1 ((kS (iB s n) s key value (ws.take q.1) b).1.flatMap nQ) (kS (iB s n) s key value (ws.take q.1) b).1.length) (fun q=>ws.length - q.1) ((0,.e0,[])) ⟨aF _,eR⟩ rfl (by simp [fD]) ?_
   rintro ⟨k,out,g⟩ j ⟨hk,ho⟩
   dsimp only at hk ho
   by_cases hlt:k < ws.length
   · have hki:(k:Int) < ((ws.length:Nat):Int):=by omega
     have hw:=hws _ (bE (d:=default) hlt)
     have hu1:=hw.u.1
     have hle:=hw.len
     have hev:=hw.even
     have e:=Z8 (A:=iB s n) (s:=s) (key:=key) (value:=value) (b:=b) hlt
     have hLl:(kS (iB s n) s key value (ws.take k) b).1.length≤1000 * (1000000 * 1000):=
       eK (aCy (s:=s) (key:=key) (F5 n value) ht (ws.take k) b (fun w h=>hws w (fO h))).2 (Nat.mul_le_mul (by rw [bZ]; omega) (Nat.mul_le_mul htl (bA _)))
     generalize kS (iB s n) s key value (ws.take k) b=L at *
     obtain ⟨L,bL⟩:=L
     dsimp only at ho e hLl ⊢
     have c0:=bAa (ws.getD k default).u key.text (by omega)
     generalize hW:ws.getD k default=w at *
     simp -implicitDefEqProofs (disch:=omega) only [zt hki,nQ,hW,go_sem,↓reduceIte,reduceAdd,reduceSub,reduceMul,reduceLeDiff,reduceLT,reduceEqDiff,reduceNeg,Nat.reduceBEq]
     refine ⟨by omega,by omega,?_⟩
     refine bHn [.k,.k,.k,.k,.k,.k,.k,.k,.k,.k,.k,.k,.k,.v (.b (pX key w.u).isSome),.k,.k,.k,.k,.k,.k,.k,.k,.k,.k,.k,.k,.k,.k,.j,.j,.j,.j,.j,.j,.j,.j,.k,.k,.k,.k,.k,.k,.k,.k,.k,.k,.k,.k,.k,.k,.k,.k,.k,.k,.k,.k,.k,.k,.k,.k,.k,.k,.k,.k,.k,.k,.k,.k,.k,.k,.k,.k,.k,.k,.k,.k,.k,.k,.k,.k,.k,.k,.k,.k,.k,.k,.k,.k,.k,.k,.k,.k,.k,.k,.k,.k,.k,.k,.k,.k] (.box false [.sl (s.sorts.map .s) s.sorts.length,.sl (s.below.flatMap aQ) s.below.length,.sl (s.ops.flatMap aI) s.ops.length,.sl (s.funs.flatMap aI) s.funs.length,.sl (s.values.map .s) s.values.length,.b (bL)]::.box false [.i .i64 (key).kind,.i .i64 (key).n,.s (key).text,.s (key).sort,.sl ((key).kids.flatMap aA) (key).kids.length,.sl ((key).rest.flatMap aA) (key).rest.length]::.box false [.i .i64 (value).kind,.i .i64 (value).n,.s (value).text,.s (value).sort,.sl ((value).kids.flatMap aA) (value).kids.length,.sl ((value).rest.flatMap aA) (value).rest.length]::(g++[.box false (nQ w),.box false [.i .i64 (((pX key w.u).getD zT)).kind,.i .i64 (((pX key w.u).getD zT)).n,.s (((pX key w.u).getD zT)).text,.s (((pX key w.u).getD zT)).sort,.sl ((((pX key w.u).getD zT)).kids.flatMap aA) (((pX key w.u).getD zT)).kids.length,.sl ((((pX key w.u).getD zT)).rest.flatMap aA) (((pX key w.u).getD zT)).rest.length]])) ?_ ?_
     · by_cases h6:key.kind=6
       · have hko:pX key w.u=mOf w.u key.text:=if_pos h6
         cases hO:mOf w.u key.text with
         | none=>
           rw [hO,X6,elT,aW] at c0
           simp -implicitDefEqProofs (disch:=omega) only [zt h6,avu,hko,hO,nQ,fQ,uB,go_sem,↓reduceIte,reduceAdd,reduceSub,reduceMul,reduceLeDiff,reduceLT,reduceEqDiff,reduceNeg,Nat.reduceBEq]
           (repeat' (first | refine gT ?_ ?_ | refine gF ?_ ?_ | refine gC ?_ ?_ | ((refine aY (c0) ?_ ?_; (focus (simp -implicitDefEqProofs (disch:=omega) only [zt h6,avu,hko,hO,nQ,fQ,uB,zdB,go_sem,↓reduceIte,reduceAdd,reduceSub,reduceMul,reduceLeDiff,reduceLT,reduceEqDiff,reduceNeg,Nat.reduceBEq]; done))); simp -implicitDefEqProofs (disch:=omega) only [zt h6,avu,hko,hO,nQ,fQ,uB,go_sem,↓reduceIte,reduceAdd,reduceSub,reduceMul,reduceLeDiff,reduceLT,reduceEqDiff,reduceNeg,Nat.reduceBEq]) | refine aK (by omega) ?_ | (intro hr; have hc:=hr; (try simp only [zdz] at hc); simp -implicitDefEqProofs (disch:=omega) only [hr,zt h6,avu,hko,hO,nQ,fQ,uB,go_sem,↓reduceIte,reduceAdd,reduceSub,reduceMul,reduceLeDiff,reduceLT,reduceEqDiff,reduceNeg,Nat.reduceBEq]; (try clear hr))))
           all_goals rfl
         | some a=>
           rw [hO,X6,elT,aW] at c0
           simp -implicitDefEqProofs (disch:=omega) only [zt h6,avu,hko,hO,nQ,fC,dU,go_sem,↓reduceIte,reduceAdd,reduceSub,reduceMul,reduceLeDiff,reduceLT,reduceEqDiff,reduceNeg,Nat.reduceBEq]
           (repeat' (first | refine gT ?_ ?_ | refine gF ?_ ?_ | refine gC ?_ ?_ | ((refine aY (c0) ?_ ?_; (focus (simp -implicitDefEqProofs (disch:=omega) only [zt h6,avu,hko,hO,nQ,fC,dU,zdB,go_sem,↓reduceIte,reduceAdd,reduceSub,reduceMul,reduceLeDiff,reduceLT,reduceEqDiff,reduceNeg,Nat.reduceBEq]; done))); simp -implicitDefEqProofs (disch:=omega) only [zt h6,avu,hko,hO,nQ,fC,dU,go_sem,↓reduceIte,reduceAdd,reduceSub,reduceMul,reduceLeDiff,reduceLT,reduceEqDiff,reduceNeg,Nat.reduceBEq]) | refine aK (by omega) ?_ | (intro hr; have hc:=hr; (try simp only [zdz] at hc); simp -implicitDefEqProofs (disch:=omega) only [hr,zt h6,avu,hko,hO,nQ,fC,dU,go_sem,↓reduceIte,reduceAdd,reduceSub,reduceMul,reduceLeDiff,reduceLT,reduceEqDiff,reduceNeg,Nat.reduceBEq]; (try clear hr))))
           all_goals rfl
       · have hko:pX key w.u=some key:=if_neg h6
         simp -implicitDefEqProofs (disch:=omega) only [zf h6,hko,nQ,avu,fC,dU,go_sem,↓reduceIte,reduceAdd,reduceSub,reduceMul,reduceLeDiff,reduceLT,reduceEqDiff,reduceNeg,Nat.reduceBEq]
     intro j2
     simp -implicitDefEqProofs (disch:=omega) only [go_sem,↓reduceIte,reduceAdd,reduceSub,reduceMul,reduceLeDiff,reduceLT,reduceEqDiff,reduceNeg,Nat.reduceBEq]
     refine bQ (fun (q:Nat × AV × List AObj)=>[.k,.k,.k,.k,.k,.k,.k,.k,.k,.v (q.2.1),.k,.k,.k,.k,.v (.i .i64 (2 * q.1:Nat)),.j,.k,.j,.k,.k,.k,.k,.k,.k,.k,.k,.k,.k,.k,.k,.k,.k,.k,.k,.k,.k,.j,.j,.j,.j,.j,.j,.j,.j,.j,.j,.j,.j,.j,.j,.j,.j,.j,.j,.j,.j,.j,.j,.j,.j,.j,.j,.j,.j,.j,.j,.j,.j,.j,.j,.j,.j,.j,.j,.j,.j,.j,.j,.j,.j,.j,.j,.j,.j,.j,.j,.j,.j,.j,.j,.j,.j,.k,.k,.k,.k,.k,.k,.k,.k]) (fun q=>(.box false [.sl (s.sorts.map .s) s.sorts.length,.sl (s.below.flatMap aQ) s.below.length,.sl (s.ops.flatMap aI) s.ops.length,.sl (s.funs.flatMap aI) s.funs.length,.sl (s.values.map .s) s.values.length,.b ((lV (iB s n) s key value w q.1 bL).2)]::.box false [.i .i64 (key).kind,.i .i64 (key).n,.s (key).text,.s (key).sort,.sl ((key).kids.flatMap aA) (key).kids.length,.sl ((key).rest.flatMap aA) (key).rest.length]::.box false [.i .i64 (value).kind,.i .i64 (value).n,.s (value).text,.s (value).sort,.sl ((value).kids.flatMap aA) (value).kids.length,.sl ((value).rest.flatMap aA) (value).rest.length]::q.2.2)) (fun q=>2 * q.1≤w.left.length∧eP 2 3 q.2.2 q.2.1 ((L++(lV (iB s n) s key value w q.1 bL).1).flatMap nQ) (L++(lV (iB s n) s key value w q.1 bL).1).length∧q.2.2[g.length]? = some (.box false (nQ w))∧q.2.2[g.length+1]? = some (.box false [.i .i64 (((pX key w.u).getD zT)).kind,.i .i64 (((pX key w.u).getD zT)).n,.s (((pX key w.u).getD zT)).text,.s (((pX key w.u).getD zT)).sort,.sl ((((pX key w.u).getD zT)).kids.flatMap aA) (((pX key w.u).getD zT)).kids.length,.sl ((((pX key w.u).getD zT)).rest.flatMap aA) (((pX key w.u).getD zT)).rest.length])) (fun q=>w.left.length - 2 * q.1) ((0,out,g++[.box false (nQ w),.box false [.i .i64 (((pX key w.u).getD zT)).kind,.i .i64 (((pX key w.u).getD zT)).n,.s (((pX key w.u).getD zT)).text,.s (((pX key w.u).getD zT)).sort,.sl ((((pX key w.u).getD zT)).kids.flatMap aA) (((pX key w.u).getD zT)).kids.length,.sl ((((pX key w.u).getD zT)).rest.flatMap aA) (((pX key w.u).getD zT)).rest.length]])) ⟨aF _,by dsimp only [lV]; rw [List.append_nil]; exact ho.more _,by simp,by simp⟩ rfl (by simp [fD]) ?_
     rintro ⟨i,out2,g2⟩ j3 ⟨hi,ho2,hw2,ha2⟩
     dsimp only at hi ho2 hw2 ha2
     by_cases hit:2 * i < w.left.length
     · have hii:((2 * i:Nat):Int) < ((w.left.length:Nat):Int):=by omega
       have hii':2 * i+1 < w.left.length:=by omega
       have hll:w.left.length≤1000000:=by omega
       have hNl:=(aCx (s:=s) (key:=key) (F5 (s:=s) n value) hw ht i bL hi).2
       have hm0:=hw.sub _ (bE (d:=default) hit)
       have hm1:=hw.sub _ (bE (d:=default) hii')
       have hgl:=aO hw2
       have hwx:∀ x:List AObj,(g2++x)[g.length]? = some (.box false (nQ w)):=fun x=>by rw [aD hgl]; exact hw2
       have hgl2:=aO ha2
       have hst:=aEg (s:=s) (key:=key) hw ht hit
       have hsucc:lV (iB s n) s key value w (i+1) bL=((lV (iB s n) s key value w i bL).1++(iB s n value (w.left.getD (2 * i+1) default) (nB s key w i) (lV (iB s n) s key value w i bL).2).1.map fun u=>⟨u,X7 w.left (2 * i)⟩,(iB s n value (w.left.getD (2 * i+1) default) (nB s key w i) (lV (iB s n) s key value w i bL).2).2):=rfl
       generalize hN:lV (iB s n) s key value w i bL=N at *
       obtain ⟨NL,bN⟩:=N
       dsimp only at hsucc ho2 hNl
       have cA:=hA (w.left.getD (2 * i+1) default) (nB s key w i) bN (m+1) (ht.kid hm1) (hpl _ hm1) (hnk _ hm1) hst.1 (by omega) hmm
       have hRl:=(F5 (s:=s) n value (w.left.getD (2 * i+1) default) (nB s key w i) bN (m+1) (ht.kid hm1) hst.1 (by omega)).2
       generalize hR:iB s n value (w.left.getD (2 * i+1) default) (nB s key w i) bN=R at *
       have haK:∀ a,pX key w.u=some a→OkT a:=fun a h=>by
         rw [pX] at h
         split at h
         · exact aZm hw.u h
         · cases h; exact hkk
       cases hK:pX key w.u
       have cb:=bEc s bN key (w.left.getD (2 * i) default) w.u m hm hs hw.u (by omega) (ht.kid hm0).1 (aLx hv (hpl _ hm0))
       rw [aIg hK] at cA
       simp -implicitDefEqProofs (disch:=omega) only [zt hii,hw2,ha2,nQ,hK,fQ,Bool.not_false,go_sem,↓reduceIte,reduceAdd,reduceSub,reduceMul,reduceLeDiff,reduceLT,reduceEqDiff,reduceNeg,Nat.reduceBEq]
       (repeat' (first | refine gT ?_ ?_ | refine gF ?_ ?_ | refine gC ?_ ?_ | refine aK (by omega) ?_ | (intro hr; have hc:=hr; (try simp only [zdz] at hc); simp -implicitDefEqProofs (disch:=omega) only [hr,zt hii,hw2,ha2,nQ,hK,fQ,Bool.not_false,avu,go_sem,↓reduceIte,reduceAdd,reduceSub,reduceMul,reduceLeDiff,reduceLT,reduceEqDiff,reduceNeg,Nat.reduceBEq]; (try clear hr))))
       refine aGx cb (iK _) (by simp only [elT,avu,renL,ren,aW,avt,renL_pers _ _ qJ,renL_pers _ _ fE,nG]) ?_
       simp -implicitDefEqProofs (disch:=omega) only [hw2,ha2,nQ,avu,go_sem,↓reduceIte,reduceAdd,reduceSub,reduceMul,reduceLeDiff,reduceLT,reduceEqDiff,reduceNeg,Nat.reduceBEq]
       repeat refine aK (by omega) ?_
       refine aGy 3 rfl cA (iK _) (t:=.box false [.i .i64 (key).kind,.i .i64 (key).n,.s (key).text,.s (key).sort,.sl ((key).kids.flatMap aA) (key).kids.length,.sl ((key).rest.flatMap aA) (key).rest.length]::.box false [.i .i64 (value).kind,.i .i64 (value).n,.s (value).text,.s (value).sort,.sl ((value).kids.flatMap aA) (value).kids.length,.sl ((value).rest.flatMap aA) (value).rest.length]::g2) (by rw [rR,if_pos (iK _)]; rfl) (by simp only [List.set,gO,aUi,elT,avw,renL,ren,aW,avt,renL_pers _ _ fE,renL_pers _ _ iM,nG,if_true]) (by simp [DR.old]) ?_
       simp -implicitDefEqProofs (disch:=omega) only [avw,go_sem,↓reduceIte,reduceAdd,reduceSub,reduceMul,reduceLeDiff,reduceLT,reduceEqDiff,reduceNeg,Nat.reduceBEq]
       rotate_left
       rename_i a
       rw [aIf hK] at cA
       have c3:=aGs a (w.left.getD (2 * i) default) (haK a hK) (ht.kid hm0).1
       simp only [hK,dU] at ha2
       simp -implicitDefEqProofs (disch:=omega) only [zt hii,hw2,ha2,nQ,hK,fC,Bool.not_true,avu,go_sem,↓reduceIte,reduceAdd,reduceSub,reduceMul,reduceLeDiff,reduceLT,reduceEqDiff,reduceNeg,Nat.reduceBEq]
       (repeat' (first | refine gT ?_ ?_ | refine gF ?_ ?_ | refine gC ?_ ?_ | ((refine aY (c3) ?_ ?_; (focus (simp -implicitDefEqProofs (disch:=omega) only [zt hii,hw2,ha2,hwx,nQ,hK,fC,Bool.not_true,avu,zdB,go_sem,↓reduceIte,reduceAdd,reduceSub,reduceMul,reduceLeDiff,reduceLT,reduceEqDiff,reduceNeg,Nat.reduceBEq]; done))); simp -implicitDefEqProofs (disch:=omega) only [zt hii,hw2,ha2,hwx,nQ,hK,fC,Bool.not_true,avu,go_sem,↓reduceIte,reduceAdd,reduceSub,reduceMul,reduceLeDiff,reduceLT,reduceEqDiff,reduceNeg,Nat.reduceBEq]) | refine aK (by omega) ?_ | (intro hr; have hc:=hr; (try simp only [zdz] at hc); simp -implicitDefEqProofs (disch:=omega) only [hr,zt hii,hw2,ha2,hwx,nQ,hK,fC,Bool.not_true,avu,go_sem,↓reduceIte,reduceAdd,reduceSub,reduceMul,reduceLeDiff,reduceLT,reduceEqDiff,reduceNeg,Nat.reduceBEq]; (try clear hr))))
       rw [if_pos hc] at cA
       repeat refine aK (by omega) ?_
       have KO:=oC (pre:=.box false [.sl (s.sorts.map .s) s.sorts.length,.sl (s.below.flatMap aQ) s.below.length,.sl (s.ops.flatMap aI) s.ops.length,.sl (s.funs.flatMap aI) s.funs.length,.sl (s.values.map .s) s.values.length,.b (bN)]::.box false [.i .i64 (key).kind,.i .i64 (key).n,.s (key).text,.s (key).sort,.sl ((key).kids.flatMap aA) (key).kids.length,.sl ((key).rest.flatMap aA) (key).rest.length]::.box false [.i .i64 (value).kind,.i .i64 (value).n,.s (value).text,.s (value).sort,.sl ((value).kids.flatMap aA) (value).kids.length,.sl ((value).rest.flatMap aA) (value).rest.length]::g2) (g:=[.arr false 1 [avu w.u]]) (sz:=1) (n:=1) (out:=.hs (0+(g2.length+1+1+1)) 0 1 false) (cells:=[avu w.u]) (.inr ⟨0,rfl,rfl,rfl⟩) (by rw [persL,aNc]; rfl)
       simp only [dM,cC,avu] at KO
       obtain ⟨k1,g',k2,k3⟩:=KO
       refine aGy 3 rfl cA (iK _) (t:=.box false [.i .i64 (key).kind,.i .i64 (key).n,.s (key).text,.s (key).sort,.sl ((key).kids.flatMap aA) (key).kids.length,.sl ((key).rest.flatMap aA) (key).rest.length]::.box false [.i .i64 (value).kind,.i .i64 (value).n,.s (value).text,.s (value).sort,.sl ((value).kids.flatMap aA) (value).kids.length,.sl ((value).rest.flatMap aA) (value).rest.length]::(g2++g')) k3 (by simp only [List.set]; rw [show gB dep _ (.hs (g2.length+1+1+1) 0 1 false)=_ from k1]; simp only [elT,avw,avu,renL,ren,aW,avt,renL_pers _ _ fE,renL_pers _ _ qJ,nG,aZ,bO,aL,bG]) (by simp [DR.old]) ?_
       simp -implicitDefEqProofs (disch:=omega) only [avw,go_sem,↓reduceIte,reduceAdd,reduceSub,reduceMul,reduceLeDiff,reduceLT,reduceEqDiff,reduceNeg,Nat.reduceBEq]
       have ho2:=ho2.more g'
       have hw2:(g2++g')[g.length]? = some (.box false (nQ w)):=by rw [aD (aO hw2)]; exact hw2
       have ha2:(g2++g')[g.length+1]? = some (.box false [.i .i64 (a).kind,.i .i64 (a).n,.s (a).text,.s (a).sort,.sl ((a).kids.flatMap aA) (a).kids.length,.sl ((a).rest.flatMap aA) (a).rest.length]):=by rw [aD (aO ha2)]; exact ha2
       generalize g2++g'=g2 at *
       rotate_left
       rw [if_neg hc] at cA
       repeat refine aK (by omega) ?_
       refine aGy 3 rfl cA (iK _) (t:=.box false [.i .i64 (key).kind,.i .i64 (key).n,.s (key).text,.s (key).sort,.sl ((key).kids.flatMap aA) (key).kids.length,.sl ((key).rest.flatMap aA) (key).rest.length]::.box false [.i .i64 (value).kind,.i .i64 (value).n,.s (value).text,.s (value).sort,.sl ((value).kids.flatMap aA) (value).kids.length,.sl ((value).rest.flatMap aA) (value).rest.length]::g2) (by rw [wU rfl]; rfl) (by simp only [List.set,gO,elT,avw,renL,ren,aW,avt,renL_pers _ _ fE,nG,bO,bG]; rfl) (by simp [DR.old]) ?_
       simp -implicitDefEqProofs (disch:=omega) only [avw,go_sem,↓reduceIte,reduceAdd,reduceSub,reduceMul,reduceLeDiff,reduceLT,reduceEqDiff,reduceNeg,Nat.reduceBEq]
       all_goals
         refine bQ (fun (q:Nat × AV × List AObj)=>[.k,.k,.k,.k,.k,.k,.k,.k,.k,.v (q.2.1),.k,.k,.k,.k,.k,.k,.k,.j,.k,.k,.k,.k,.k,.k,.k,.k,.k,.k,.k,.k,.k,.k,.k,.k,.k,.k,.k,.k,.k,.k,.k,.k,.k,.k,.k,.k,.k,.k,.k,.k,.k,.k,.k,.k,.k,.k,.k,.k,.k,.k,.k,.k,.k,.k,.k,.k,.k,.k,.k,.k,.k,.k,.k,.k,.k,.k,.k,.k,.v (.i .i64 (q.1:Nat)),.j,.j,.j,.j,.j,.j,.j,.j,.j,.j,.j,.j,.j,.k,.k,.k,.k,.k,.k,.k,.k]) (fun q=>(.box false [.sl (s.sorts.map .s) s.sorts.length,.sl (s.below.flatMap aQ) s.below.length,.sl (s.ops.flatMap aI) s.ops.length,.sl (s.funs.flatMap aI) s.funs.length,.sl (s.values.map .s) s.values.length,.b (R.2)]::.box false [.i .i64 (key).kind,.i .i64 (key).n,.s (key).text,.s (key).sort,.sl ((key).kids.flatMap aA) (key).kids.length,.sl ((key).rest.flatMap aA) (key).rest.length]::.box false [.i .i64 (value).kind,.i .i64 (value).n,.s (value).text,.s (value).sort,.sl ((value).kids.flatMap aA) (value).kids.length,.sl ((value).rest.flatMap aA) (value).rest.length]::q.2.2)) (fun q=>q.1≤R.1.length∧eP 2 3 q.2.2 q.2.1 ((L++(NL++(R.1.take q.1).map (jG.mk · (X7 w.left (2 * i))))).flatMap nQ) (L++(NL++(R.1.take q.1).map (jG.mk · (X7 w.left (2 * i))))).length∧q.2.2[g.length]? = some (.box false (nQ w))∧q.2.2[g.length+1]? = some (.box false [.i .i64 (((pX key w.u).getD zT)).kind,.i .i64 (((pX key w.u).getD zT)).n,.s (((pX key w.u).getD zT)).text,.s (((pX key w.u).getD zT)).sort,.sl ((((pX key w.u).getD zT)).kids.flatMap aA) (((pX key w.u).getD zT)).kids.length,.sl ((((pX key w.u).getD zT)).rest.flatMap aA) (((pX key w.u).getD zT)).rest.length])) (fun q=>R.1.length - q.1) ((0,out2,g2)) ⟨aF _,by simpa using ho2,hw2,by simpa only [hK,dU,uB] using ha2⟩ rfl (by simp [fD]) ?_
         rintro ⟨c,out3,g3⟩ j4 ⟨hc5,ho3,hw3,ha3⟩
         dsimp only at hc5 ho3 hw3 ha3
         by_cases hct:c < R.1.length
         · have hci:(c:Int) < ((R.1.length:Nat):Int):=by omega
           have hX:L++(NL++(R.1.take (c+1)).map (jG.mk · (X7 w.left (2 * i))))=(L++(NL++(R.1.take c).map (jG.mk · (X7 w.left (2 * i)))))++[⟨R.1.getD c default,X7 w.left (2 * i)⟩]:=by
             rw [eH (d:=default) hct,aV]; simp only [bS,aZ,bO]
           have hbig:(L++(NL++(R.1.take c).map (jG.mk · (X7 w.left (2 * i))))).length≤2000000000000:=by
             rw [List.length_append,List.length_append,dW,bZ]; omega
           have hlX:L.length+(NL.length+(List.take (c+1) R.1).length)=(L++(NL++(R.1.take c).map (jG.mk · (X7 w.left (2 * i))))).length+1:=by
             simp only [List.length_append,dW,bZ]; omega
           have cw:=bKt w.left (2 * i) hll (by omega)
           simp -implicitDefEqProofs (disch:=omega) only [zt hci,hw3,nQ,avu,go_sem,↓reduceIte,reduceAdd,reduceSub,reduceMul,reduceLeDiff,reduceLT,reduceEqDiff,reduceNeg,Nat.reduceBEq]
           (repeat' (first | refine gT ?_ ?_ | refine gF ?_ ?_ | refine gC ?_ ?_ | ((refine aY (cw) ?_ ?_; (focus (simp -implicitDefEqProofs (disch:=omega) only [zt hci,hw3,nQ,avu,gE,bF,bP,List.append_nil,zdB,go_sem,↓reduceIte,reduceAdd,reduceSub,reduceMul,reduceLeDiff,reduceLT,reduceEqDiff,reduceNeg,Nat.reduceBEq]; done))); simp -implicitDefEqProofs (disch:=omega) only [zt hci,hw3,nQ,avu,gE,bF,bP,List.append_nil,go_sem,↓reduceIte,reduceAdd,reduceSub,reduceMul,reduceLeDiff,reduceLT,reduceEqDiff,reduceNeg,Nat.reduceBEq]) | refine aK (by omega) ?_ | (intro hr; have hc:=hr; (try simp only [zdz] at hc); simp -implicitDefEqProofs (disch:=omega) only [hr,zt hci,hw3,nQ,avu,gE,bF,bP,List.append_nil,go_sem,↓reduceIte,reduceAdd,reduceSub,reduceMul,reduceLeDiff,reduceLT,reduceEqDiff,reduceNeg,Nat.reduceBEq]; (try clear hr))))
           refine eD (pre:=[_,_,_]) (news:=[.sl ((R.1.getD c default).flatMap prT) (R.1.getD c default).length,avt (X7 w.left (2 * i))]) (m:=1) ho3 rfl rfl bKd bHi bIf bOi rfl (by decide) (by simp -implicitDefEqProofs (disch:=omega) only [go_sem,↓reduceIte,reduceAdd,reduceSub,reduceMul,reduceLeDiff,reduceLT,reduceEqDiff,reduceNeg,Nat.reduceBEq]) (by simp -implicitDefEqProofs (disch:=omega) only [go_sem,↓reduceIte,reduceAdd,reduceSub,reduceMul,reduceLeDiff,reduceLT,reduceEqDiff,reduceNeg,Nat.reduceBEq]) ⟨by omega,by omega⟩ ?_
           intro out' g' ho' hkeep
           simp -implicitDefEqProofs (disch:=omega) only [go_sem,↓reduceIte,reduceAdd,reduceSub,reduceMul,reduceLeDiff,reduceLT,reduceEqDiff,reduceNeg,Nat.reduceBEq]
           refine ⟨(c+1,out',g'),⟨by dsimp only; omega,?_,?_,?_⟩,by dsimp only; omega,rfl,by simp⟩
           · dsimp only
             rw [hX,dN,hlX]
             exact ho'
           · exact hkeep _ _ hw3 (fun c h=>by cases h)
           · exact hkeep _ _ ha3 (fun c h=>by cases h)
         · have hci:¬ (c:Int) < ((R.1.length:Nat):Int):=by omega
           simp -implicitDefEqProofs (disch:=omega) only [zf hci,go_sem,↓reduceIte,reduceAdd,reduceSub,reduceMul,reduceLeDiff,reduceLT,reduceEqDiff,reduceNeg,Nat.reduceBEq]
           rw [aJ (by omega)] at ho3
           refine ⟨(i+1,out3,g3),⟨by dsimp only; omega,?_,hw3,?_⟩,by dsimp only; omega,?_,?_⟩
           · dsimp only
             rw [hsucc,← List.length_append]
             exact ho3
           · rw [hK] at ha3; exact ha3
           · dsimp only; rw [hsucc]
           · refine ⟨rfl,?_⟩
             dsimp only
             congr 1
     · have hii:¬ ((2 * i:Nat):Int) < ((w.left.length:Nat):Int):=by omega
       obtain rfl:i=w.left.length / 2:=by omega
       simp -implicitDefEqProofs (disch:=omega) only [zf hii,hw2,nQ,avu,go_sem,↓reduceIte,reduceAdd,reduceSub,reduceMul,reduceLeDiff,reduceLT,reduceEqDiff,reduceNeg,Nat.reduceBEq]
       refine ⟨(k+1,out2,g2),⟨by dsimp only; omega,?_⟩,by dsimp only; omega,?_,?_⟩
       · dsimp only
         rw [e]
         exact ho2
       · dsimp only; rw [e]
       · exact ⟨rfl,rfl⟩
   · have hki:¬ (k:Int) < ((ws.length:Nat):Int):=by omega
     rw [aJ (by omega)] at ho
     rw [aJ (by omega)]
     by_cases hmany:1000 < (kS (iB s n) s key value ws b).1.length
     · have e:pL (iB s n) s key value ws b=([],true):=if_pos hmany
       have hmi:(1000:Int) < (((kS (iB s n) s key value ws b).1.length:Nat):Int):=by omega
       rw [e]
       rcases ho with ⟨rfl,h2,h3⟩ | ⟨i,rfl,hi,hl2⟩
       · omega
       simp -implicitDefEqProofs (disch:=omega) only [zf hki,hi,zt hmi,go_sem,↓reduceIte,reduceAdd,reduceSub,reduceMul,reduceLeDiff,reduceLT,reduceEqDiff,reduceNeg,Nat.reduceBEq]
       exact aOe eR
     · have e:pL (iB s n) s key value ws b=kS (iB s n) s key value ws b:=if_neg hmany
       have hmi:¬ (1000:Int) < (((kS (iB s n) s key value ws b).1.length:Nat):Int):=by omega
       have hm:=aOe (s:=s) (r:=kS (iB s n) s key value ws b) (x:=.box false [.i .i64 (key).kind,.i .i64 (key).n,.s (key).text,.s (key).sort,.sl ((key).kids.flatMap aA) (key).kids.length,.sl ((key).rest.flatMap aA) (key).rest.length]) (y:=.box false [.i .i64 (value).kind,.i .i64 (value).n,.s (value).text,.s (value).sort,.sl ((value).kids.flatMap aA) (value).kids.length,.sl ((value).rest.flatMap aA) (value).rest.length]) ho
       rw [e]
       rcases ho with ⟨rfl,h2,h3⟩ | ⟨i,rfl,hi,hl2⟩
       · simp -implicitDefEqProofs (disch:=omega) only [zf hki,zf (by omega:¬ (1000:Int) < 0),go_sem,↓reduceIte,reduceAdd,reduceSub,reduceMul,reduceLeDiff,reduceLT,reduceEqDiff,reduceNeg,Nat.reduceBEq]
         exact hm
       · simp -implicitDefEqProofs (disch:=omega) only [zf hki,hi,zf hmi,go_sem,↓reduceIte,reduceAdd,reduceSub,reduceMul,reduceLeDiff,reduceLT,reduceEqDiff,reduceNeg,Nat.reduceBEq]
         exact hm
theorem bJh (s:cI) (n:Nat) (b:Bool) (key value t:LTerm) (ws:List jG) (m:Nat) (hm:Small s) (hs:OkS s) (hv:eN s=true) (hA:bBe s n value) (ht:OkN t) (hpl:∀ x ∈ t.kids,fY s x=true) (hnk:∀ x ∈ t.kids,nodesT x≤1000000) (htl:t.kids.length≤1000000) (hkk:OkT key) (hws:aDt t m ws) (hl:ws.length≤1000) (hmm:m+1+nodesT value≤1000000) :
   ACalls Tryz.prog G0 224 [.ptr 0 0,elT key,elT value,aKr ws] [.box false [.sl (s.sorts.map .s) s.sorts.length,.sl (s.below.flatMap aQ) s.below.length,.sl (s.ops.flatMap aI) s.ops.length,.sl (s.funs.flatMap aI) s.funs.length,.sl (s.values.map .s) s.values.length,.b (b)]] (fun r h'=>r=aKr (pL (iB s n) s key value ws b).1∧h'=[.box false [.sl (s.sorts.map .s) s.sorts.length,.sl (s.below.flatMap aQ) s.below.length,.sl (s.ops.flatMap aI) s.ops.length,.sl (s.funs.flatMap aI) s.funs.length,.sl (s.values.map .s) s.values.length,.b ((pL (iB s n) s key value ws b).2)]]):=
 kC g0 (bKc s n b key value t ws m hm hs hv hA ht hpl hnk htl hkk hws hl hmm) (aBw _) (by rw [dH,tP]; rfl) (bA _)
theorem aTd {t:LTerm} {m:Nat} {l:List LSub} (hu:yN m l) (he:t.kids.length % 2=0):aDt t m (l.map (jG.mk · t.kids)):=fun w hw=>by
 obtain ⟨u,hu',rfl⟩:=dQ.1 hw
 exact ⟨hu u hu',he,fun x hx=>hx,bA _⟩
theorem aFl {s:cI} {p:LTerm} {w:jG}:(J6 s p w).length≤1:=by
 rw [J6]
 split
 · exact zD
 · split <;> simp
theorem zC {s:cI} {p:LTerm}:∀ {l:List jG},(l.flatMap (J6 s p)).length≤l.length
 | []=>by simp
 | u::l=>by
   have h1:=aFl (s:=s) (p:=p) (w:=u)
   have h2:=zC (s:=s) (p:=p) (l:=l)
   rw [cJ,List.length_append,aL]; omega
def yO (g g':List AObj):Prop:=∀ (i:Nat) (o:AObj),g[i]? = some o→(∀ c:List AV,o ≠ .arr false 1 c)→g'[i]? = some o
theorem yO.more {g g':List AObj} (h:yO g g') (x:List AObj):yO g (g'++x):=fun i o hi hn=>by
 have:=h i o hi hn
 rw [aD (aO this)]; exact this
theorem yO.trans {g g1 g2:List AObj} (h:yO g g1) (h2:yO g1 g2):yO g g2:=fun i o hi hn=>h2 i o (h i o hi hn) hn
theorem bCb {h:List AObj} {l:List LTerm}:gB dep h (.agg [.i .i64 8,.i .i64 0,.s [],.s [],.sl (l.flatMap aA) l.length,.e0])=elT (.mk 8 0 [] [] l []):=by
 rw [elT,aW,gO]
 simp [pers,persL,avt,fE,wR]
 exact ⟨rfl,rfl,rfl,rfl,by rw [gB,if_pos (show pers (AV.sl _ _)=true from fE)]; rfl,rfl⟩
theorem bId (s : cI) (n:Nat) (b:Bool) (p t:LTerm) (l:List LSub) (m:Nat) (hm:Small s) (hs:OkS s) (hv:eN s=true) (hA:∀ q ∈ p.kids,bBe s n q) (hp:OkN p) (hp8:p.kind=8) (hpl1:p.kids.length≤1000000) (ht:OkN t) (ht8:t.kind=8) (hpl:∀ x ∈ t.kids,fY s x=true) (hnk:∀ x ∈ t.kids,nodesT x≤1000000) (htl:t.kids.length≤1000000) (hu:yN m l) (hl:l.length≤1000) (hmm:m+nodesT p≤1000000): ACalls Tryz.prog G0 184 [.ptr 0 0,elT p,elT t,avw l] [.box false [.sl (s.sorts.map .s) s.sorts.length,.sl (s.below.flatMap aQ) s.below.length,.sl (s.ops.flatMap aI) s.ops.length,.sl (s.funs.flatMap aI) s.funs.length,.sl (s.values.map .s) s.values.length,.b (b)]] (MK s (tE (iB s n) s p t l b)):=by
 refine yD (rx:=true) (th:=fun i=>if i=10 then some ⟨none,[],false,false,true,[],[],13⟩ else if i=16 then some ⟨none,[0],false,false,true,[],[72],12⟩ else none) mixed Tryz.func184 rfl (by kernel_rfl) (by kernel_rfl) (ac:=?_) ?_ ?_
 rotate_left
 · simp only [strip,uQ,aMd,RX.off,ckF,ckX,zOf,exd,vOf,fI,fX,dG,dF,cN,Bool.and_true,Bool.and_false,cN,oZ,eQ,lU,tS,fV,qW,cH,cC,iZ,anyPre,Region.binds,Bool.not_true,Bool.not_false,aP,if_true,if_false,jI,iG,Bool.true_and,Bool.false_and,bO,aZ,fI,fX,List.append_nil,bOa,aIs,aOz,G8,sX,cU,dB,cN,dG,dF,cO,beq_self_eq_true,Option.some_beq_some,Nat.reduceBEq,aFt,X8,aFo,oN,bHe,wK,List.any_nil,oZ,dY,bJg,bJf,↓reduceIte,Nat.reduceEqDiff,Nat.reduceBEq,wQ,uP,xN,splitK,aJg,bEl,fX,wK,List.any_nil,Bool.not_true,Bool.not_false,Bool.and_true,Bool.true_and,Bool.and_false,dG,dF]
   rfl
 · simp -implicitDefEqProofs (disch:=omega) only [Tryz.f184,go_sem,List.replicate,↓reduceIte,reduceAdd,reduceSub,reduceMul,reduceLeDiff,reduceLT,reduceEqDiff,reduceNeg,Nat.reduceBEq,avw]
   refine bQ (fun (q:Nat × AV × List AObj)=>[.k,.k,.k,.k,.k,.k,.k,.k,.k,.v (q.2.1),.k,.j,.k,.k,.k,.k,.k,.k,.v (.i .i64 (q.1:Nat)),.j,.j,.j,.j,.j,.j,.j,.j,.j,.j,.j,.k,.k,.k,.k,.k,.k,.k,.k,.k,.k,.k,.k,.k,.k,.k,.k,.k,.k,.k,.k,.k,.k,.k,.k,.k,.k,.k,.k,.k,.k,.k,.k,.k,.k,.k,.k,.k,.k,.k,.k,.k,.k,.k,.k,.k,.k,.k,.k,.k,.k,.k,.k,.k,.k,.k,.k,.k]) (fun q=>(.box false [.sl (s.sorts.map .s) s.sorts.length,.sl (s.below.flatMap aQ) s.below.length,.sl (s.ops.flatMap aI) s.ops.length,.sl (s.funs.flatMap aI) s.funs.length,.sl (s.values.map .s) s.values.length,.b (b)]::.box false [.i .i64 (p).kind,.i .i64 (p).n,.s (p).text,.s (p).sort,.sl ((p).kids.flatMap aA) (p).kids.length,.sl ((p).rest.flatMap aA) (p).rest.length]::.box false [.i .i64 (t).kind,.i .i64 (t).n,.s (t).text,.s (t).sort,.sl ((t).kids.flatMap aA) (t).kids.length,.sl ((t).rest.flatMap aA) (t).rest.length]::q.2.2)) (fun q=>q.1≤l.length∧eP 2 3 q.2.2 q.2.1 (((l.take q.1).map (jG.mk · t.kids)).flatMap nQ) ((l.take q.1).map (jG.mk · t.kids)).length) (fun q=>l.length - q.1) ((0,.e0,[])) ⟨aF _,eR⟩ rfl (by simp [fD]) ?_
   rintro ⟨k,out,g⟩ j ⟨hk,ho⟩
   dsimp only at hk ho
   by_cases hlt:k < l.length
   · have hki:(k:Int) < ((l.length:Nat):Int):=by omega
     have hX:(l.take (k+1)).map (jG.mk · t.kids)=(l.take k).map (jG.mk · t.kids)++[⟨l.getD k default,t.kids⟩]:=by
       rw [eH (d:=default) hlt,aV]; rfl
     have hbig:((l.take k).map (jG.mk · t.kids)).length≤1000:=by rw [dW,bZ]; omega
     have hlX:(l.take (k+1)).length=((l.take k).map (jG.mk · t.kids)).length+1:=by simp only [dW,bZ]; omega
     simp -implicitDefEqProofs (disch:=omega) only [zt hki,avu,gE,bF,bP,List.append_nil,go_sem,↓reduceIte,reduceAdd,reduceSub,reduceMul,reduceLeDiff,reduceLT,reduceEqDiff,reduceNeg,Nat.reduceBEq]
     (repeat' (first | refine gT ?_ ?_ | refine gF ?_ ?_ | refine gC ?_ ?_ | refine aK (by omega) ?_ | (intro hr; have hc:=hr; (try simp only [zdz] at hc); simp -implicitDefEqProofs (disch:=omega) only [hr,zt hki,avu,gE,bF,bP,List.append_nil,go_sem,↓reduceIte,reduceAdd,reduceSub,reduceMul,reduceLeDiff,reduceLT,reduceEqDiff,reduceNeg,Nat.reduceBEq]; (try clear hr))))
     refine eD (pre:=[_,_,_]) (news:=[.sl ((l.getD k default).flatMap prT) (l.getD k default).length,avt t.kids]) (m:=1) ho rfl rfl bKd bHi bIf bOi rfl (by decide) (by simp -implicitDefEqProofs (disch:=omega) only [go_sem,↓reduceIte,reduceAdd,reduceSub,reduceMul,reduceLeDiff,reduceLT,reduceEqDiff,reduceNeg,Nat.reduceBEq]) (by simp -implicitDefEqProofs (disch:=omega) only [go_sem,↓reduceIte,reduceAdd,reduceSub,reduceMul,reduceLeDiff,reduceLT,reduceEqDiff,reduceNeg,Nat.reduceBEq]) ⟨by omega,by omega⟩ ?_
     intro out' g' ho' _
     simp -implicitDefEqProofs (disch:=omega) only [go_sem,↓reduceIte,reduceAdd,reduceSub,reduceMul,reduceLeDiff,reduceLT,reduceEqDiff,reduceNeg,Nat.reduceBEq]
     refine ⟨(k+1,out',g'),⟨by dsimp only; omega,?_⟩,by dsimp only; omega,rfl,by simp⟩
     dsimp only
     rw [hX,dN,hlX]
     exact ho'
   · have hki:¬ (k:Int) < ((l.length:Nat):Int):=by omega
     rw [aJ (by omega)] at ho
     simp -implicitDefEqProofs (disch:=omega) only [zf hki,go_sem,↓reduceIte,reduceAdd,reduceSub,reduceMul,reduceLeDiff,reduceLT,reduceEqDiff,reduceNeg,Nat.reduceBEq]
     have hws:=aTd hu (ht.even ht8)
     have hpe:=hp.even hp8
     have hno:=gL p
     have htab:=fun k hk=>aBl (A:=iB s n) (s:=s) (p:=p) (b:=b) (fun q _=>F5 n q) ht hws (by rw [dW]; exact hl) k hk
     refine bQ (fun (q:Nat × AV × List AObj)=>[.k,.k,.k,.k,.k,.k,.k,.k,.k,.v (q.2.1),.k,.k,.v (.i .i64 (2 * q.1:Nat)),.k,.k,.k,.k,.k,.k,.k,.k,.k,.k,.k,.k,.k,.k,.k,.k,.k,.j,.j,.j,.j,.j,.j,.j,.j,.j,.j,.j,.j,.j,.j,.j,.j,.j,.j,.j,.j,.j,.k,.k,.k,.k,.k,.k,.k,.k,.k,.k,.k,.k,.k,.k,.k,.k,.k,.k,.k,.k,.k,.k,.k,.k,.k,.k,.k,.k,.k,.k,.k,.k,.k,.k,.k,.k]) (fun q=>(.box false [.sl (s.sorts.map .s) s.sorts.length,.sl (s.below.flatMap aQ) s.below.length,.sl (s.ops.flatMap aI) s.ops.length,.sl (s.funs.flatMap aI) s.funs.length,.sl (s.values.map .s) s.values.length,.b ((lO (iB s n) s p q.1 (l.map (jG.mk · t.kids),b)).2)]::.box false [.i .i64 (p).kind,.i .i64 (p).n,.s (p).text,.s (p).sort,.sl ((p).kids.flatMap aA) (p).kids.length,.sl ((p).rest.flatMap aA) (p).rest.length]::.box false [.i .i64 (t).kind,.i .i64 (t).n,.s (t).text,.s (t).sort,.sl ((t).kids.flatMap aA) (t).kids.length,.sl ((t).rest.flatMap aA) (t).rest.length]::q.2.2)) (fun q=>2 * q.1≤p.kids.length∧(eP 2 3 q.2.2 q.2.1 ((lO (iB s n) s p q.1 (l.map (jG.mk · t.kids),b)).1.flatMap nQ) (lO (iB s n) s p q.1 (l.map (jG.mk · t.kids),b)).1.length∨q.2.1=aKr (lO (iB s n) s p q.1 (l.map (jG.mk · t.kids),b)).1)) (fun q=>p.kids.length - 2 * q.1) ((0,out,g)) ⟨aF _,.inl ho⟩ rfl (by simp [fD]) ?_
     rintro ⟨i,out2,g2⟩ j2 ⟨hi,ho2⟩
     dsimp only at hi ho2
     by_cases hit:2 * i < p.kids.length
     · have hii:((2 * i:Nat):Int) < ((p.kids.length:Nat):Int):=by omega
       have hii':2 * i+1 < p.kids.length:=by omega
       obtain ⟨hb1,hb2⟩:=htab i hi
       have hn2:=J3 (l:=p.kids) (k:=i) hii'
       have hn3:=nA (l:=p.kids) (k:=2 * (i+1))
       have hn4:1≤nodesT (p.kids.getD (2 * i) default):=by rw [gL]; omega
       have ce:=bJh s n (lO (iB s n) s p i (l.map (jG.mk · t.kids),b)).2 (p.kids.getD (2 * i) default) (p.kids.getD (2 * i+1) default) t _ (m+nodesL (p.kids.take (2 * i))) hm hs hv (hA _ (bE (d:=default) hii')) ht hpl hnk htl (hp.kid (bE (d:=default) hit)).1 hb1 hb2 (by omega)
       simp -implicitDefEqProofs (disch:=omega) only [zt hii,go_sem,↓reduceIte,reduceAdd,reduceSub,reduceMul,reduceLeDiff,reduceLT,reduceEqDiff,reduceNeg,Nat.reduceBEq]
       repeat refine aK (by omega) ?_
       rcases ho2 with ho2 | rfl
       · obtain ⟨k1,g',k2,k3⟩:=oC (pre:=[.box false [.sl (s.sorts.map .s) s.sorts.length,.sl (s.below.flatMap aQ) s.below.length,.sl (s.ops.flatMap aI) s.ops.length,.sl (s.funs.flatMap aI) s.funs.length,.sl (s.values.map .s) s.values.length,.b ((lO (iB s n) s p i (l.map (jG.mk · t.kids),b)).2)],.box false [.i .i64 (p).kind,.i .i64 (p).n,.s (p).text,.s (p).sort,.sl ((p).kids.flatMap aA) (p).kids.length,.sl ((p).rest.flatMap aA) (p).rest.length],.box false [.i .i64 (t).kind,.i .i64 (t).n,.s (t).text,.s (t).sort,.sl ((t).kids.flatMap aA) (t).kids.length,.sl ((t).rest.flatMap aA) (t).rest.length]]) ho2 sH
         refine nH 3 rfl ?_
         simp only [cC,cH] at k1 k3
         rw [k1,k3]
         refine aGx ce (aBw _) (by simp only [List.set,elT,aKr,renL,ren,aW,avt,renL_pers _ _ fE,renL_pers _ _ sH,nG]) ?_
         simp -implicitDefEqProofs (disch:=omega) only [go_sem,↓reduceIte,reduceAdd,reduceSub,reduceMul,reduceLeDiff,reduceLT,reduceEqDiff,reduceNeg,Nat.reduceBEq]
         refine ⟨(i+1,aKr (pL (iB s n) s (p.kids.getD (2 * i) default) (p.kids.getD (2 * i+1) default) (lO (iB s n) s p i (l.map (jG.mk · t.kids),b)).1 (lO (iB s n) s p i (l.map (jG.mk · t.kids),b)).2).1,g'),⟨by dsimp only; omega,.inr rfl⟩,by dsimp only; omega,rfl,?_⟩
         refine ⟨rfl,?_⟩
         dsimp only
         congr 1
       · refine aGx ce (aBw _) (by simp only [List.set,elT,aKr,renL,ren,aW,avt,renL_pers _ _ fE,renL_pers _ _ sH,nG]) ?_
         simp -implicitDefEqProofs (disch:=omega) only [go_sem,↓reduceIte,reduceAdd,reduceSub,reduceMul,reduceLeDiff,reduceLT,reduceEqDiff,reduceNeg,Nat.reduceBEq]
         refine ⟨(i+1,aKr (pL (iB s n) s (p.kids.getD (2 * i) default) (p.kids.getD (2 * i+1) default) (lO (iB s n) s p i (l.map (jG.mk · t.kids),b)).1 (lO (iB s n) s p i (l.map (jG.mk · t.kids),b)).2).1,g2),⟨by dsimp only; omega,.inr rfl⟩,by dsimp only; omega,rfl,?_⟩
         refine ⟨rfl,?_⟩
         dsimp only
         congr 1
     · have hii:¬ ((2 * i:Nat):Int) < ((p.kids.length:Nat):Int):=by omega
       obtain rfl:i=p.kids.length / 2:=by omega
       obtain ⟨hb1,hb2⟩:=htab _ hi
       have hTe:tE (iB s n) s p t l b=pK (lO (iB s n) s p (p.kids.length / 2) (l.map (jG.mk · t.kids),b)).2 ((lO (iB s n) s p (p.kids.length / 2) (l.map (jG.mk · t.kids),b)).1.flatMap (J6 s p)):=rfl
       rw [hTe]
       generalize lO (iB s n) s p (p.kids.length / 2) (l.map (jG.mk · t.kids),b)=W at *
       obtain ⟨W,bW⟩:=W
       dsimp only at ho2 hb1 hb2 ⊢
       have hz0:out2=.e0→W.length=0:=fun e=>by
         subst e
         rcases ho2 with (⟨_,_,h⟩ | ⟨_,h,_⟩) | h
         · exact h
         · cases h
         · cases h
       rcases ho2 with (⟨rfl,h2,h3⟩ | ⟨i0,rfl,hi0,hl0⟩) | rfl
       simp -implicitDefEqProofs (disch:=omega) only [zf hii,go_sem,↓reduceIte,reduceAdd,reduceSub,reduceMul,reduceLeDiff,reduceLT,reduceEqDiff,reduceNeg,Nat.reduceBEq]
       rotate_left
       simp -implicitDefEqProofs (disch:=omega) only [zf hii,hi0,go_sem,↓reduceIte,reduceAdd,reduceSub,reduceMul,reduceLeDiff,reduceLT,reduceEqDiff,reduceNeg,Nat.reduceBEq]
       rotate_left
       simp -implicitDefEqProofs (disch:=omega) only [zf hii,aKr,go_sem,↓reduceIte,reduceAdd,reduceSub,reduceMul,reduceLeDiff,reduceLT,reduceEqDiff,reduceNeg,Nat.reduceBEq]
       rotate_left
       · refine bQ (fun (q:Nat × AV × List AObj)=>[.k,.k,.k,.k,.k,.k,.k,.k,.k,.k,.k,.k,.k,.v (q.2.1),.k,.j,.k,.k,.k,.k,.k,.k,.k,.k,.k,.k,.k,.k,.k,.k,.k,.k,.k,.k,.k,.k,.k,.k,.k,.k,.k,.k,.k,.k,.k,.k,.k,.k,.k,.k,.k,.k,.k,.v (.i .i64 (q.1:Nat)),.j,.j,.j,.j,.j,.j,.j,.j,.j,.j,.j,.j,.j,.j,.j,.j,.j,.j,.j,.j,.j,.j,.j,.j,.j,.j,.j,.j,.j,.j,.k,.k,.k]) (fun q=>(.box false [.sl (s.sorts.map .s) s.sorts.length,.sl (s.below.flatMap aQ) s.below.length,.sl (s.ops.flatMap aI) s.ops.length,.sl (s.funs.flatMap aI) s.funs.length,.sl (s.values.map .s) s.values.length,.b (bW)]::.box false [.i .i64 (p).kind,.i .i64 (p).n,.s (p).text,.s (p).sort,.sl ((p).kids.flatMap aA) (p).kids.length,.sl ((p).rest.flatMap aA) (p).rest.length]::.box false [.i .i64 (t).kind,.i .i64 (t).n,.s (t).text,.s (t).sort,.sl ((t).kids.flatMap aA) (t).kids.length,.sl ((t).rest.flatMap aA) (t).rest.length]::q.2.2)) (fun q=>q.1≤W.length∧eP 1 3 q.2.2 q.2.1 (((W.take q.1).flatMap (J6 s p)).map avu) ((W.take q.1).flatMap (J6 s p)).length∧yO g2 q.2.2) (fun q=>W.length - q.1) ((0,.e0,g2)) ⟨aF _,eR,fun i o h _=>h⟩ rfl (by simp [fD]) ?_
         rintro ⟨c,out3,g3⟩ j4 ⟨hc,ho3,hk3⟩
         dsimp only at hc ho3 hk3
         by_cases hct:c < W.length
         · exfalso; have:=hz0 rfl; omega
         · have hci:¬ (c:Int) < ((W.length:Nat):Int):=by omega
           rw [aJ (by omega)] at ho3
           have hfl:=zC (s:=s) (p:=p) (l:=W)
           have ct:=bEb s bW (W.flatMap (J6 s p)) (by omega)
           have hc0:¬ (c:Int) < 0:=by omega
           simp -implicitDefEqProofs (disch:=omega) only [zf hci,zf hc0,go_sem,↓reduceIte,reduceAdd,reduceSub,reduceMul,reduceLeDiff,reduceLT,reduceEqDiff,reduceNeg,Nat.reduceBEq]
           obtain ⟨k1,g',k2,k3⟩:=oC (pre:=[.box false [.sl (s.sorts.map .s) s.sorts.length,.sl (s.below.flatMap aQ) s.below.length,.sl (s.ops.flatMap aI) s.ops.length,.sl (s.funs.flatMap aI) s.funs.length,.sl (s.values.map .s) s.values.length,.b (bW)],.box false [.i .i64 (p).kind,.i .i64 (p).n,.s (p).text,.s (p).sort,.sl ((p).kids.flatMap aA) (p).kids.length,.sl ((p).rest.flatMap aA) (p).rest.length],.box false [.i .i64 (t).kind,.i .i64 (t).n,.s (t).text,.s (t).sort,.sl ((t).kids.flatMap aA) (t).kids.length,.sl ((t).rest.flatMap aA) (t).rest.length]]) ho3 iM
           refine nH 1 rfl ?_
           simp only [cC,cH] at k1 k3
           rw [k1,k3]
           refine aGx ct (iK _) (by simp only [List.set,avw,renL,ren,renL_pers _ _ iM,nG]) ?_
           simp -implicitDefEqProofs (disch:=omega) only [go_sem,↓reduceIte,reduceAdd,reduceSub,reduceMul,reduceLeDiff,reduceLT,reduceEqDiff,reduceNeg,Nat.reduceBEq]
           exact tD
       all_goals
         refine bQ (fun (q:Nat × AV × List AObj)=>[.k,.k,.k,.k,.k,.k,.k,.k,.k,.k,.k,.k,.k,.v (q.2.1),.k,.j,.k,.k,.k,.k,.k,.k,.k,.k,.k,.k,.k,.k,.k,.k,.k,.k,.k,.k,.k,.k,.k,.k,.k,.k,.k,.k,.k,.k,.k,.k,.k,.k,.k,.k,.k,.k,.k,.v (.i .i64 (q.1:Nat)),.j,.j,.j,.j,.j,.j,.j,.j,.j,.j,.j,.j,.j,.j,.j,.j,.j,.j,.j,.j,.j,.j,.j,.j,.j,.j,.j,.j,.j,.j,.k,.k,.k]) (fun q=>(.box false [.sl (s.sorts.map .s) s.sorts.length,.sl (s.below.flatMap aQ) s.below.length,.sl (s.ops.flatMap aI) s.ops.length,.sl (s.funs.flatMap aI) s.funs.length,.sl (s.values.map .s) s.values.length,.b (bW)]::.box false [.i .i64 (p).kind,.i .i64 (p).n,.s (p).text,.s (p).sort,.sl ((p).kids.flatMap aA) (p).kids.length,.sl ((p).rest.flatMap aA) (p).rest.length]::.box false [.i .i64 (t).kind,.i .i64 (t).n,.s (t).text,.s (t).sort,.sl ((t).kids.flatMap aA) (t).kids.length,.sl ((t).rest.flatMap aA) (t).rest.length]::q.2.2)) (fun q=>q.1≤W.length∧eP 1 3 q.2.2 q.2.1 (((W.take q.1).flatMap (J6 s p)).map avu) ((W.take q.1).flatMap (J6 s p)).length∧yO g2 q.2.2) (fun q=>W.length - q.1) ((0,.e0,g2)) ⟨aF _,eR,fun i o h _=>h⟩ rfl (by simp [fD]) ?_
         rintro ⟨c,out3,g3⟩ j4 ⟨hc,ho3,hk3⟩
         dsimp only at hc ho3 hk3
         by_cases hct:c < W.length
         · have hci:(c:Int) < ((W.length:Nat):Int):=by omega
           have hi2:∀ x:List AObj,(fun _=>True) x:=fun _=>True.intro
           first
             | have hi2:=hk3 i0 _ hi0 (fun c h=>by cases h)
               have hil:=aO hi2
             | skip
           have hw:=hb1 _ (bE (d:=default) hct)
           have hfl:=zC (s:=s) (p:=p) (l:=W.take c)
           rw [bZ] at hfl
           have hbl:=aFl (s:=s) (p:=p) (w:=W.getD c default)
           have hsucc:=rY (f:=J6 s p) (d:=default) hct
           have hn9:=nA (l:=p.kids) (k:=2 * (p.kids.length / 2))
           by_cases hr:0 < p.rest.length
           · have hri:(0:Int) < ((p.rest.length:Nat):Int):=by omega
             have hel:=eK hw.len ht.1.kids
             have cb:=bEc s bW (p.rest.getD 0 default) (.mk 8 0 [] [] (W.getD c default).left []) (W.getD c default).u _ hm hs hw.u (by omega) (aFb (fun x hx=>(ht.kid (hw.sub x hx)).1) hel) (aLy (.inr rfl))
             have e1:J6 s p (W.getD c default)=kA s (p.rest.getD 0 default) (.mk 8 0 [] [] (W.getD c default).left []) (W.getD c default).u:=if_pos hr
             rw [← e1] at cb
             simp -implicitDefEqProofs (disch:=omega) only [zt hci,zt hri,hi2,nQ,avu,go_sem,↓reduceIte,reduceAdd,reduceSub,reduceMul,reduceLeDiff,reduceLT,reduceEqDiff,reduceNeg,Nat.reduceBEq]
             (repeat' (first | refine gT ?_ ?_ | refine gF ?_ ?_ | refine gC ?_ ?_ | refine aK (by omega) ?_ | (intro hr; have hc:=hr; (try simp only [zdz] at hc); simp -implicitDefEqProofs (disch:=omega) only [hr,zt hci,zt hri,hi2,nQ,avu,go_sem,↓reduceIte,reduceAdd,reduceSub,reduceMul,reduceLeDiff,reduceLT,reduceEqDiff,reduceNeg,Nat.reduceBEq]; (try clear hr))))
             refine aGy 2 rfl cb (iK _) (t:=.box false [.i .i64 (p).kind,.i .i64 (p).n,.s (p).text,.s (p).sort,.sl ((p).kids.flatMap aA) (p).kids.length,.sl ((p).rest.flatMap aA) (p).rest.length]::.box false [.i .i64 (t).kind,.i .i64 (t).n,.s (t).text,.s (t).sort,.sl ((t).kids.flatMap aA) (t).kids.length,.sl ((t).rest.flatMap aA) (t).rest.length]::(g3++[.box false [.sl ((W.getD c default).u.flatMap prT) (W.getD c default).u.length,.sl ((W.getD c default).left.flatMap aA) (W.getD c default).left.length]])) (by rw [A4,bOz,if_pos (by simp [aJr,pers,avt,fE])]; rfl) (by simp only [List.set]; rw [bCb]; simp only [elT,avu,renL,ren,aW,avt,renL_pers _ _ qJ,renL_pers _ _ fE,nG]) (by simp [DR.old]) ?_
             simp -implicitDefEqProofs (disch:=omega) only [avw,go_sem,↓reduceIte,reduceAdd,reduceSub,reduceMul,reduceLeDiff,reduceLT,reduceEqDiff,reduceNeg,Nat.reduceBEq]
             have ho4:=ho3.more [.box false [.sl ((W.getD c default).u.flatMap prT) (W.getD c default).u.length,.sl ((W.getD c default).left.flatMap aA) (W.getD c default).left.length]]
             refine eD (more:=[]) (pre:=[.box false [.sl (s.sorts.map .s) s.sorts.length,.sl (s.below.flatMap aQ) s.below.length,.sl (s.ops.flatMap aI) s.ops.length,.sl (s.funs.flatMap aI) s.funs.length,.sl (s.values.map .s) s.values.length,.b (bW)],.box false [.i .i64 (p).kind,.i .i64 (p).n,.s (p).text,.s (p).sort,.sl ((p).kids.flatMap aA) (p).kids.length,.sl ((p).rest.flatMap aA) (p).rest.length],.box false [.i .i64 (t).kind,.i .i64 (t).n,.s (t).text,.s (t).sort,.sl ((t).kids.flatMap aA) (t).kids.length,.sl ((t).rest.flatMap aA) (t).rest.length]]) (news:=(J6 s p (W.getD c default)).map avu) (m:=(J6 s p (W.getD c default)).length) ho4 rfl (by simp) aWg bPf bPh bPs rfl (by decide) (by simp -implicitDefEqProofs (disch:=omega) only [go_sem,↓reduceIte,reduceAdd,reduceSub,reduceMul,reduceLeDiff,reduceLT,reduceEqDiff,reduceNeg,Nat.reduceBEq]) (by simp -implicitDefEqProofs (disch:=omega) only [go_sem,↓reduceIte,reduceAdd,reduceSub,reduceMul,reduceLeDiff,reduceLT,reduceEqDiff,reduceNeg,Nat.reduceBEq]) ⟨by omega,by omega⟩ ?_
             intro out' g' ho' hkeep
             simp -implicitDefEqProofs (disch:=omega) only [go_sem,↓reduceIte,reduceAdd,reduceSub,reduceMul,reduceLeDiff,reduceLT,reduceEqDiff,reduceNeg,Nat.reduceBEq]
             refine ⟨(c+1,out',g'),⟨by dsimp only; omega,?_,?_⟩,by dsimp only; omega,rfl,by simp⟩
             · dsimp only
               rw [hsucc,aV,List.length_append]
               exact ho'
             · exact (hk3.more _).trans hkeep
           · have hri:¬ (0:Int) < ((p.rest.length:Nat):Int):=by omega
             simp -implicitDefEqProofs (disch:=omega) only [zt hci,zf hri,hi2,nQ,avu,go_sem,↓reduceIte,reduceAdd,reduceSub,reduceMul,reduceLeDiff,reduceLT,reduceEqDiff,reduceNeg,Nat.reduceBEq]
             (repeat' (first | refine gT ?_ ?_ | refine gF ?_ ?_ | refine gC ?_ ?_ | refine aK (by omega) ?_ | (intro hr; have hc:=hr; (try simp only [zdz] at hc); simp -implicitDefEqProofs (disch:=omega) only [hr,zt hci,zf hri,hi2,nQ,avu,gE,bF,bP,List.append_nil,go_sem,↓reduceIte,reduceAdd,reduceSub,reduceMul,reduceLeDiff,reduceLT,reduceEqDiff,reduceNeg,Nat.reduceBEq]; (try clear hr))))
             · have e1:J6 s p (W.getD c default)=[(W.getD c default).u]:=by rw [J6,if_neg hr,if_pos (by omega)]
               refine eD (pre:=[.box false [.sl (s.sorts.map .s) s.sorts.length,.sl (s.below.flatMap aQ) s.below.length,.sl (s.ops.flatMap aI) s.ops.length,.sl (s.funs.flatMap aI) s.funs.length,.sl (s.values.map .s) s.values.length,.b (bW)],.box false [.i .i64 (p).kind,.i .i64 (p).n,.s (p).text,.s (p).sort,.sl ((p).kids.flatMap aA) (p).kids.length,.sl ((p).rest.flatMap aA) (p).rest.length],.box false [.i .i64 (t).kind,.i .i64 (t).n,.s (t).text,.s (t).sort,.sl ((t).kids.flatMap aA) (t).kids.length,.sl ((t).rest.flatMap aA) (t).rest.length]]) (g:=g3++[.box false [.sl ((W.getD c default).u.flatMap prT) (W.getD c default).u.length,.sl ((W.getD c default).left.flatMap aA) (W.getD c default).left.length]]) (more:=[.arr false 1 ([.sl ((W.getD c default).u.flatMap prT) (W.getD c default).u.length])]) (news:=[.sl ((W.getD c default).u.flatMap prT) (W.getD c default).u.length]) (m:=1) ((ho3).more _) rfl (by simp -implicitDefEqProofs (disch:=omega) only [go_sem,↓reduceIte,reduceAdd,reduceSub,reduceMul,reduceLeDiff,reduceLT,reduceEqDiff,reduceNeg,Nat.reduceBEq]) aWg bPf bPh bPs rfl (by decide) (by simp -implicitDefEqProofs (disch:=omega) only [go_sem,↓reduceIte,reduceAdd,reduceSub,reduceMul,reduceLeDiff,reduceLT,reduceEqDiff,reduceNeg,Nat.reduceBEq]) (by simp -implicitDefEqProofs (disch:=omega) only [go_sem,↓reduceIte,reduceAdd,reduceSub,reduceMul,reduceLeDiff,reduceLT,reduceEqDiff,reduceNeg,Nat.reduceBEq]) ⟨by omega,by omega⟩ ?_
               intro out' g' ho' hkeep
               simp -implicitDefEqProofs (disch:=omega) only [go_sem,↓reduceIte,reduceAdd,reduceSub,reduceMul,reduceLeDiff,reduceLT,reduceEqDiff,reduceNeg,Nat.reduceBEq]
               refine ⟨(c+1,out',g'),⟨by dsimp only; omega,?_,?_⟩,by dsimp only; omega,rfl,by simp⟩
               · dsimp only
                 rw [hsucc,e1,aV,List.length_append]
                 exact ho'
               · exact (hk3.more _).trans hkeep
             · have e1:J6 s p (W.getD c default)=[]:=by rw [J6,if_neg hr,if_neg (by omega)]
               refine ⟨(c+1,out3,g3++[.box false [.sl ((W.getD c default).u.flatMap prT) (W.getD c default).u.length,.sl ((W.getD c default).left.flatMap aA) (W.getD c default).left.length]]),⟨by dsimp only; omega,?_,hk3.more _⟩,by dsimp only; omega,rfl,by simp⟩
               dsimp only
               rw [hsucc,e1,List.append_nil]
               exact ho3.more _
         · have hci:¬ (c:Int) < ((W.length:Nat):Int):=by omega
           rw [aJ (by omega)] at ho3
           have hfl:=zC (s:=s) (p:=p) (l:=W)
           have ct:=bEb s bW (W.flatMap (J6 s p)) (by omega)
           have hc0:¬ (c:Int) < 0:=by omega
           simp -implicitDefEqProofs (disch:=omega) only [zf hci,zf hc0,go_sem,↓reduceIte,reduceAdd,reduceSub,reduceMul,reduceLeDiff,reduceLT,reduceEqDiff,reduceNeg,Nat.reduceBEq]
           obtain ⟨k1,g',k2,k3⟩:=oC (pre:=[.box false [.sl (s.sorts.map .s) s.sorts.length,.sl (s.below.flatMap aQ) s.below.length,.sl (s.ops.flatMap aI) s.ops.length,.sl (s.funs.flatMap aI) s.funs.length,.sl (s.values.map .s) s.values.length,.b (bW)],.box false [.i .i64 (p).kind,.i .i64 (p).n,.s (p).text,.s (p).sort,.sl ((p).kids.flatMap aA) (p).kids.length,.sl ((p).rest.flatMap aA) (p).rest.length],.box false [.i .i64 (t).kind,.i .i64 (t).n,.s (t).text,.s (t).sort,.sl ((t).kids.flatMap aA) (t).kids.length,.sl ((t).rest.flatMap aA) (t).rest.length]]) ho3 iM
           refine nH 1 rfl ?_
           simp only [cC,cH] at k1 k3
           rw [k1,k3]
           refine aGx ct (iK _) (by simp only [List.set,avw,renL,ren,renL_pers _ _ iM,nG]) ?_
           simp -implicitDefEqProofs (disch:=omega) only [go_sem,↓reduceIte,reduceAdd,reduceSub,reduceMul,reduceLeDiff,reduceLT,reduceEqDiff,reduceNeg,Nat.reduceBEq]
           exact tD

theorem aUg {s:cI} {t c:LTerm} (h:fY s t=true) (hc:c ∈ t.kids):fY s c=true:=by
 rw [fY,aC] at h ⊢
 have hp:=h.2
 rw [uW] at hp
 simp only [aC,aR] at hp
 refine ⟨?_,hp.1.2 c hc⟩
 have hv:=h.1
 simp only [gD,aC,decide_eq_true_eq] at hv ⊢
 have m:=sL hc
 have e1:=gL t
 have e2:=qM t
 exact ⟨⟨(mE.1 hv.1.1).2 c hc,by omega⟩,by omega⟩
theorem bJe (s:cI) (n:Nat) (b:Bool) (p t:LTerm) (l:List LSub) (m:Nat) (hm:Small s) (hs:OkS s) (hv:eN s=true) (hA:∀ q ∈ p.kids,bBe s n q) (hp:OkN p) (hp8:p.kind=8) (hpl1:p.kids.length≤1000000) (ht:OkN t) (ht8:t.kind=8) (hpl:∀ x ∈ t.kids,fY s x=true) (hnk:∀ x ∈ t.kids,nodesT x≤1000000) (htl:t.kids.length≤1000000) (hu:yN m l) (hl:l.length≤1000) (hmm:m+nodesT p≤1000000) :
   ACalls Tryz.prog G0 184 [.ptr 0 0,elT p,elT t,avw l] [.box false [.sl (s.sorts.map .s) s.sorts.length,.sl (s.below.flatMap aQ) s.below.length,.sl (s.ops.flatMap aI) s.ops.length,.sl (s.funs.flatMap aI) s.funs.length,.sl (s.values.map .s) s.values.length,.b (b)]] (fun r h'=>r=avw (tE (iB s n) s p t l b).1∧h'=[.box false [.sl (s.sorts.map .s) s.sorts.length,.sl (s.below.flatMap aQ) s.below.length,.sl (s.ops.flatMap aI) s.ops.length,.sl (s.funs.flatMap aI) s.funs.length,.sl (s.values.map .s) s.values.length,.b ((tE (iB s n) s p t l b).2)]]):=
 kC g0 (bId s n b p t l m hm hs hv hA hp hp8 hpl1 ht ht8 hpl hnk htl hu hl hmm) (iK _) (by rw [dH,tP]; rfl) (bA _)
theorem bCc {h:List AObj} {x:Int} {l:List LTerm}:gB dep h (.agg [.i .i64 x,.i .i64 0,.s [],.s [],.sl (l.flatMap aA) l.length,.e0])=elT (.mk x 0 [] [] l []):=by
 rw [elT,aW,gO]
 simp [pers,persL,avt,fE,wR]
 exact ⟨rfl,rfl,rfl,rfl,by rw [gB,if_pos (show pers (AV.sl _ _)=true from fE)]; rfl,rfl⟩
theorem aTu {h:List AObj} {x:Int} {l:List LTerm}:Vo.freeze (dO dep h (.agg [.i .i64 x,.i .i64 0,.s [],.s [],.sl (l.flatMap aA) l.length,.e0])) h=h:=by
 rw [A4,bOz,if_pos (by simp [aJr,pers,avt,fE])]; rfl
theorem bTu (s:cI) (n:Nat) (b:Bool) (p t:LTerm) (l:List LSub) (m:Nat) (hm:Small s) (hs:OkS s) (hv:eN s=true) (hA:∀ q ∈ p.kids,bBe s n q) (hp:OkN p) (ht:OkN t) (hpt:fY s t=true) (hnt:nodesT t≤1000000) (hu:yN m l) (hl:l.length≤1000) (hmm:m+nodesT p≤1000000): ACalls Tryz.prog G0 123 [.ptr 0 0,elT p,elT t,avw l] [.box false [.sl (s.sorts.map .s) s.sorts.length,.sl (s.below.flatMap aQ) s.below.length,.sl (s.ops.flatMap aI) s.ops.length,.sl (s.funs.flatMap aI) s.funs.length,.sl (s.values.map .s) s.values.length,.b (b)]] (MK s (iB s (n+1) p t l b)):=by
 refine yD (rx:=true) (th:=fun i=>if i=10 then some ⟨none,[],false,false,true,[],[],8⟩ else if i=12 then some ⟨none,[],false,false,true,[],[],11⟩ else none) mixed Tryz.func123 rfl (by kernel_rfl) (by kernel_rfl) (ac:=?_) ?_ ?_
 rotate_left
 · simp only [strip,uQ,aMd,RX.off,ckF,ckX,zOf,exd,vOf,fI,fX,dG,dF,cN,Bool.and_true,Bool.and_false,cN,oZ,eQ,lU,tS,fV,qW,cH,cC,iZ,anyPre,Region.binds,Bool.not_true,Bool.not_false,aP,if_true,if_false,jI,iG,Bool.true_and,Bool.false_and,bO,aZ,fI,fX,List.append_nil,bOa,aIs,aOz,G8,sX,cU,dB,cN,dG,dF,cO,beq_self_eq_true,Option.some_beq_some,Nat.reduceBEq,aFt,X8,aFo,oN,bHe,wK,List.any_nil,oZ,dY,bJg,bJf,↓reduceIte,Nat.reduceEqDiff,Nat.reduceBEq,wQ,uP,xN,splitK,aJg,bEl,fX,wK,List.any_nil,Bool.not_true,Bool.not_false,Bool.and_true,Bool.true_and,Bool.and_false,dG,dF]
   rfl
 · simp -implicitDefEqProofs (disch:=omega) only [Tryz.f123,go_sem,List.replicate,↓reduceIte,reduceAdd,reduceSub,reduceMul,reduceLeDiff,reduceLT,reduceEqDiff,reduceNeg,Nat.reduceBEq,avw]
   have hno:=gL p
   have hnt2:=gL t
   have hk1:=sM p.kids
   have hk2:=sM t.kids
   have hnk:∀ x ∈ t.kids,nodesT x≤1000000:=fun x hx=>by have:=(sL hx).1; omega
   have hpk:∀ x ∈ t.kids,fY s x=true:=fun x hx=>aUg hpt hx
   have all:∀ x ∈ t.kids,OkN x∧fY s x=true∧nodesT x≤1000000:=fun x hx=>⟨ht.kid hx,hpk x hx,hnk x hx⟩
   rw [iB]
   by_cases h5:p.kind=5
   · rw [if_pos h5]
     by_cases hc1:t.kind=5
     · by_cases hc2:t.text=p.text
       · by_cases hc3:t.kids.length=p.kids.length
         · rw [if_pos ⟨hc1,hc2,hc3⟩]
           have c:=bUg s n b p.kids t.kids l m hA all (by omega) (by omega) hu hl (by omega)
           have hi3:((t.kids.length:Nat):Int)=((p.kids.length:Nat):Int):=by omega
           simp -implicitDefEqProofs (disch:=omega) only [zt h5,zt hc1,zt hc2,zt hi3,hc2,go_sem,↓reduceIte,reduceAdd,reduceSub,reduceMul,reduceLeDiff,reduceLT,reduceEqDiff,reduceNeg,Nat.reduceBEq]
           (repeat' (first | refine gT ?_ ?_ | refine gF ?_ ?_ | refine gC ?_ ?_ | refine aK (by omega) ?_ | (intro hr; have hc:=hr; (try simp only [zdz] at hc); simp -implicitDefEqProofs (disch:=omega) only [hr,zt h5,zt hc1,zt hc2,zt hi3,hc2,go_sem,↓reduceIte,reduceAdd,reduceSub,reduceMul,reduceLeDiff,reduceLT,reduceEqDiff,reduceNeg,Nat.reduceBEq]; (try clear hr))))
           refine aGx c (iK _) (by simp only [avw,avt,renL,ren,renL_pers _ _ iM,renL_pers _ _ fE,nG]) ?_
           simp -implicitDefEqProofs (disch:=omega) only [go_sem,↓reduceIte,reduceAdd,reduceSub,reduceMul,reduceLeDiff,reduceLT,reduceEqDiff,reduceNeg,Nat.reduceBEq]
           exact tD
         · rw [if_neg (fun h=>hc3 h.2.2)]
           have hi3:¬ ((t.kids.length:Nat):Int)=((p.kids.length:Nat):Int):=by omega
           simp -implicitDefEqProofs (disch:=omega) only [zt h5,zt hc1,zt hc2,zf hi3,hc2,go_sem,↓reduceIte,reduceAdd,reduceSub,reduceMul,reduceLeDiff,reduceLT,reduceEqDiff,reduceNeg,Nat.reduceBEq]
           (repeat' (first | refine gT ?_ ?_ | refine gF ?_ ?_ | refine gC ?_ ?_ | refine aK (by omega) ?_ | (intro hr; have hc:=hr; (try simp only [zdz] at hc); simp -implicitDefEqProofs (disch:=omega) only [hr,zt h5,zt hc1,zt hc2,zf hi3,hc2,go_sem,↓reduceIte,reduceAdd,reduceSub,reduceMul,reduceLeDiff,reduceLT,reduceEqDiff,reduceNeg,Nat.reduceBEq]; (try clear hr))))
           all_goals exact oB (r:=([],b)) eR
       · rw [if_neg (fun h=>hc2 h.2.1)]
         simp -implicitDefEqProofs (disch:=omega) only [zt h5,zt hc1,zf hc2,go_sem,↓reduceIte,reduceAdd,reduceSub,reduceMul,reduceLeDiff,reduceLT,reduceEqDiff,reduceNeg,Nat.reduceBEq]
         (repeat' (first | refine gT ?_ ?_ | refine gF ?_ ?_ | refine gC ?_ ?_ | refine aK (by omega) ?_ | (intro hr; have hc:=hr; (try simp only [zdz] at hc); simp -implicitDefEqProofs (disch:=omega) only [hr,zt h5,zt hc1,zf hc2,go_sem,↓reduceIte,reduceAdd,reduceSub,reduceMul,reduceLeDiff,reduceLT,reduceEqDiff,reduceNeg,Nat.reduceBEq]; (try clear hr))))
         all_goals exact oB (r:=([],b)) eR
     · rw [if_neg (fun h=>hc1 h.1)]
       simp -implicitDefEqProofs (disch:=omega) only [zt h5,zf hc1,go_sem,↓reduceIte,reduceAdd,reduceSub,reduceMul,reduceLeDiff,reduceLT,reduceEqDiff,reduceNeg,Nat.reduceBEq]
       (repeat' (first | refine gT ?_ ?_ | refine gF ?_ ?_ | refine gC ?_ ?_ | refine aK (by omega) ?_ | (intro hr; have hc:=hr; (try simp only [zdz] at hc); simp -implicitDefEqProofs (disch:=omega) only [hr,zt h5,zf hc1,go_sem,↓reduceIte,reduceAdd,reduceSub,reduceMul,reduceLeDiff,reduceLT,reduceEqDiff,reduceNeg,Nat.reduceBEq]; (try clear hr))))
       all_goals exact oB (r:=([],b)) eR
   rw [if_neg h5]
   by_cases h7:p.kind=7
   · rw [if_pos h7]
     have h57:¬ (7:Int)=5:=by decide
     by_cases hc1:t.kind=7
     · by_cases hc2:p.kids.length≤t.kids.length
       · have hi2:¬ ((t.kids.length:Nat):Int) < ((p.kids.length:Nat):Int):=by omega
         have hrow:=bUg s n b p.kids (t.kids.take p.kids.length) l m hA (fun x hx=>all x (fO hx)) (by rw [bZ]; omega) (by omega) hu hl (by omega)
         obtain ⟨r1,r2⟩:=U8 (A:=iB s n) (ps:=p.kids) (ts:=t.kids.take p.kids.length) (b:=b) (fun q _=>F5 n q) (fun x hx=>(all x (fO hx)).1) hu hl
         have htk:(t.kids.take p.kids.length).length=p.kids.length:=by rw [bZ]; omega
         by_cases hr:0 < p.rest.length
         · have hr0:¬ ((p.rest.length:Nat):Int)=0:=by omega
           have hri:(0:Int) < ((p.rest.length:Nat):Int):=by omega
           rw [if_pos ⟨hc1,hc2,fun h=>by omega⟩,if_pos hr]
           have ce:=bJi s (oV (iB s n) p.kids (t.kids.take p.kids.length) l b).2 (p.rest.getD 0 default) (.mk 7 0 [] [] (t.kids.drop p.kids.length) []) (oV (iB s n) p.kids (t.kids.take p.kids.length) l b).1 (m+nodesL p.kids) hm hs r2 r1 (by omega) (hp.1.rst _ (bE (d:=default) hr)) (aFb (fun x hx=>(all x (nO hx)).1.1) (by rw [fH]; omega)) (aLy (.inl rfl))
           simp -implicitDefEqProofs (disch:=omega) only [zf h5,zt h7,zt hc1,zf hi2,zf hr0,go_sem,↓reduceIte,reduceAdd,reduceSub,reduceMul,reduceLeDiff,reduceLT,reduceEqDiff,reduceNeg,Nat.reduceBEq]
           (repeat' (first | refine gT ?_ ?_ | refine gF ?_ ?_ | refine gC ?_ ?_ | refine aK (by omega) ?_ | (intro hr; have hc:=hr; (try simp only [zdz] at hc); simp -implicitDefEqProofs (disch:=omega) only [hr,zf h5,zt h7,zt hc1,zf hi2,zf hr0,go_sem,↓reduceIte,reduceAdd,reduceSub,reduceMul,reduceLeDiff,reduceLT,reduceEqDiff,reduceNeg,Nat.reduceBEq]; (try clear hr))))
           refine aGx hrow (iK _) (by simp only [avw,avt,renL,ren,renL_pers _ _ iM,renL_pers _ _ fE,nG,htk]) ?_
           simp -implicitDefEqProofs (disch:=omega) only [zt hri,avw,go_sem,↓reduceIte,reduceAdd,reduceSub,reduceMul,reduceLeDiff,reduceLT,reduceEqDiff,reduceNeg,Nat.reduceBEq]
           (repeat' (first | refine gT ?_ ?_ | refine gF ?_ ?_ | refine gC ?_ ?_ | refine aK (by omega) ?_ | (intro hr; have hc:=hr; (try simp only [zdz] at hc); simp -implicitDefEqProofs (disch:=omega) only [hr,zt hri,avw,go_sem,↓reduceIte,reduceAdd,reduceSub,reduceMul,reduceLeDiff,reduceLT,reduceEqDiff,reduceNeg,Nat.reduceBEq]; (try clear hr))))
           have q1:List.drop (p.kids.length * 6) (t.kids.flatMap aA)=(t.kids.drop p.kids.length).flatMap aA:=T3
           rw [q1,← fH]
           refine nH 2 rfl ?_
           rw [bCc,aTu]
           refine aGx ce (iK _) (by simp only [List.set,elT,aW,avw,avt,renL,ren,renL_pers _ _ iM,renL_pers _ _ fE,nG,LTerm.kind,LTerm.n,LTerm.text,LTerm.sort,LTerm.kids,LTerm.rest,gK,bG]) ?_
           simp -implicitDefEqProofs (disch:=omega) only [go_sem,↓reduceIte,reduceAdd,reduceSub,reduceMul,reduceLeDiff,reduceLT,reduceEqDiff,reduceNeg,Nat.reduceBEq]
           exact tD
         · have hr0:((p.rest.length:Nat):Int)=0:=by omega
           by_cases hc3:t.kids.length≤p.kids.length
           · have hi3:¬ ((p.kids.length:Nat):Int) < ((t.kids.length:Nat):Int):=by omega
             have hri:¬ (0:Int) < ((p.rest.length:Nat):Int):=by omega
             have htt:t.kids.take p.kids.length=t.kids:=aJ hc3
             have hte:t.kids.length=p.kids.length:=by omega
             rw [htt] at hrow
             rw [if_pos ⟨hc1,hc2,fun _=>hc3⟩,if_neg hr,htt]
             simp -implicitDefEqProofs (disch:=omega) only [zf h5,zt h7,zt hc1,zf hi2,zt hr0,zf hi3,go_sem,↓reduceIte,reduceAdd,reduceSub,reduceMul,reduceLeDiff,reduceLT,reduceEqDiff,reduceNeg,Nat.reduceBEq]
             (repeat' (first | refine gT ?_ ?_ | refine gF ?_ ?_ | refine gC ?_ ?_ | refine aK (by omega) ?_ | (intro hr; have hc:=hr; (try simp only [zdz] at hc); simp -implicitDefEqProofs (disch:=omega) only [hr,zf h5,zt h7,zt hc1,zf hi2,zt hr0,zf hi3,go_sem,↓reduceIte,reduceAdd,reduceSub,reduceMul,reduceLeDiff,reduceLT,reduceEqDiff,reduceNeg,Nat.reduceBEq]; (try clear hr))))
             refine aGx hrow (iK _) (by simp only [avw,avt,renL,ren,renL_pers _ _ iM,renL_pers _ _ fE,nG,hte]) ?_
             simp -implicitDefEqProofs (disch:=omega) only [zf hri,go_sem,↓reduceIte,reduceAdd,reduceSub,reduceMul,reduceLeDiff,reduceLT,reduceEqDiff,reduceNeg,Nat.reduceBEq]
             exact tD
           · have hi3:((p.kids.length:Nat):Int) < ((t.kids.length:Nat):Int):=by omega
             rw [if_neg (fun h=>hc3 (h.2.2 (by omega)))]
             simp -implicitDefEqProofs (disch:=omega) only [zf h5,zt h7,zt hc1,zf hi2,zt hr0,zt hi3,go_sem,↓reduceIte,reduceAdd,reduceSub,reduceMul,reduceLeDiff,reduceLT,reduceEqDiff,reduceNeg,Nat.reduceBEq]
             (repeat' (first | refine gT ?_ ?_ | refine gF ?_ ?_ | refine gC ?_ ?_ | refine aK (by omega) ?_ | (intro hr; have hc:=hr; (try simp only [zdz] at hc); simp -implicitDefEqProofs (disch:=omega) only [hr,zf h5,zt h7,zt hc1,zf hi2,zt hr0,zt hi3,go_sem,↓reduceIte,reduceAdd,reduceSub,reduceMul,reduceLeDiff,reduceLT,reduceEqDiff,reduceNeg,Nat.reduceBEq]; (try clear hr))))
             all_goals exact oB (r:=([],b)) eR
       · have hi2:((t.kids.length:Nat):Int) < ((p.kids.length:Nat):Int):=by omega
         rw [if_neg (fun h=>hc2 h.2.1)]
         simp -implicitDefEqProofs (disch:=omega) only [zf h5,zt h7,zt hc1,zt hi2,go_sem,↓reduceIte,reduceAdd,reduceSub,reduceMul,reduceLeDiff,reduceLT,reduceEqDiff,reduceNeg,Nat.reduceBEq]
         (repeat' (first | refine gT ?_ ?_ | refine gF ?_ ?_ | refine gC ?_ ?_ | refine aK (by omega) ?_ | (intro hr; have hc:=hr; (try simp only [zdz] at hc); simp -implicitDefEqProofs (disch:=omega) only [hr,zf h5,zt h7,zt hc1,zt hi2,go_sem,↓reduceIte,reduceAdd,reduceSub,reduceMul,reduceLeDiff,reduceLT,reduceEqDiff,reduceNeg,Nat.reduceBEq]; (try clear hr))))
         all_goals exact oB (r:=([],b)) eR
     · rw [if_neg (fun h=>hc1 h.1)]
       simp -implicitDefEqProofs (disch:=omega) only [zf h5,zt h7,zf hc1,go_sem,↓reduceIte,reduceAdd,reduceSub,reduceMul,reduceLeDiff,reduceLT,reduceEqDiff,reduceNeg,Nat.reduceBEq]
       (repeat' (first | refine gT ?_ ?_ | refine gF ?_ ?_ | refine gC ?_ ?_ | refine aK (by omega) ?_ | (intro hr; have hc:=hr; (try simp only [zdz] at hc); simp -implicitDefEqProofs (disch:=omega) only [hr,zf h5,zt h7,zf hc1,go_sem,↓reduceIte,reduceAdd,reduceSub,reduceMul,reduceLeDiff,reduceLT,reduceEqDiff,reduceNeg,Nat.reduceBEq]; (try clear hr))))
       all_goals exact oB (r:=([],b)) eR
   rw [if_neg h7]
   by_cases h8:p.kind=8
   · rw [if_pos h8]
     by_cases hc1:t.kind=8
     · rw [if_pos hc1]
       have c:=bJe s n b p t l m hm hs hv hA hp h8 (by omega) ht hc1 hpk hnk (by omega) hu hl hmm
       simp -implicitDefEqProofs (disch:=omega) only [zf h5,zf h7,zt h8,zt hc1,go_sem,↓reduceIte,reduceAdd,reduceSub,reduceMul,reduceLeDiff,reduceLT,reduceEqDiff,reduceNeg,Nat.reduceBEq]
       (repeat' (first | refine gT ?_ ?_ | refine gF ?_ ?_ | refine gC ?_ ?_ | refine aK (by omega) ?_ | (intro hr; have hc:=hr; (try simp only [zdz] at hc); simp -implicitDefEqProofs (disch:=omega) only [hr,zf h5,zf h7,zt h8,zt hc1,go_sem,↓reduceIte,reduceAdd,reduceSub,reduceMul,reduceLeDiff,reduceLT,reduceEqDiff,reduceNeg,Nat.reduceBEq]; (try clear hr))))
       refine aGx c (iK _) (by simp only [elT,aW,avw,avt,renL,ren,renL_pers _ _ iM,renL_pers _ _ fE,nG]) ?_
       simp -implicitDefEqProofs (disch:=omega) only [go_sem,↓reduceIte,reduceAdd,reduceSub,reduceMul,reduceLeDiff,reduceLT,reduceEqDiff,reduceNeg,Nat.reduceBEq]
       exact tD
     · rw [if_neg hc1]
       simp -implicitDefEqProofs (disch:=omega) only [zf h5,zf h7,zt h8,zf hc1,go_sem,↓reduceIte,reduceAdd,reduceSub,reduceMul,reduceLeDiff,reduceLT,reduceEqDiff,reduceNeg,Nat.reduceBEq]
       (repeat' (first | refine gT ?_ ?_ | refine gF ?_ ?_ | refine gC ?_ ?_ | refine aK (by omega) ?_ | (intro hr; have hc:=hr; (try simp only [zdz] at hc); simp -implicitDefEqProofs (disch:=omega) only [hr,zf h5,zf h7,zt h8,zf hc1,go_sem,↓reduceIte,reduceAdd,reduceSub,reduceMul,reduceLeDiff,reduceLT,reduceEqDiff,reduceNeg,Nat.reduceBEq]; (try clear hr))))
       all_goals exact oB (r:=([],b)) eR
   rw [if_neg h8]
   have c:=bJi s b p t l m hm hs hl hu (by omega) hp.1 ht.1 (aLx hv hpt)
   simp -implicitDefEqProofs (disch:=omega) only [zf h5,zf h7,zf h8,go_sem,↓reduceIte,reduceAdd,reduceSub,reduceMul,reduceLeDiff,reduceLT,reduceEqDiff,reduceNeg,Nat.reduceBEq]
   (repeat' (first | refine gT ?_ ?_ | refine gF ?_ ?_ | refine gC ?_ ?_ | refine aK (by omega) ?_ | (intro hr; have hc:=hr; (try simp only [zdz] at hc); simp -implicitDefEqProofs (disch:=omega) only [hr,zf h5,zf h7,zf h8,go_sem,↓reduceIte,reduceAdd,reduceSub,reduceMul,reduceLeDiff,reduceLT,reduceEqDiff,reduceNeg,Nat.reduceBEq]; (try clear hr))))
   refine aGx c (iK _) (by simp only [elT,aW,avw,avt,renL,ren,renL_pers _ _ iM,renL_pers _ _ fE,nG]) ?_
   simp -implicitDefEqProofs (disch:=omega) only [go_sem,↓reduceIte,reduceAdd,reduceSub,reduceMul,reduceLeDiff,reduceLT,reduceEqDiff,reduceNeg,Nat.reduceBEq]
   exact tD

theorem bVi {s:cI} (hm:Small s) (hs:OkS s) (hv:eN s=true):∀ (n:Nat) (p:LTerm),OkN p→nodesT p≤n→bBe s n p
 | 0,p,hp,h=>by rw [gL] at h; omega
 | n+1,p,hp,h=>fun t l b m ht hpt hnt hu hl hmm=>
   kC g0 (bTu s n b p t l m hm hs hv (fun q hq=>bVi hm hs hv n q (hp.kid hq) (by have:=(sL hq).1; have:=gL p; omega)) hp ht hpt hnt hu hl hmm) (iK _) (by rw [dH,tP]; rfl) (bA _)
theorem bFn (s:cI): CT 122 [.agg (bB s),.sl [] 0] (.b true):=by
 refine aE mixed Tryz.func122 g0 ?_
 · skip
   refine bQ (fun (q:List AObj)=>[.k,.k,.k,.k,.j,.j,.j,.k,.k,.v (.i .i64 0),.j,.j,.j,.j,.j,.j,.j,.j,.j,.j,.j,.j,.j,.j,.j,.j,.j,.j,.j,.j,.j,.j,.j,.j,.j,.j,.j,.j,.j,.j,.j]) (fun q=>(.box false (bB s)::q)) (fun q=>True) (fun q=>0) ([]) True.intro rfl (by simp [fD]) ?_
   intro g j _
   simp -implicitDefEqProofs (disch:=omega) only [go_sem,↓reduceIte,reduceAdd,reduceSub,reduceMul,reduceLeDiff,reduceLT,reduceEqDiff,reduceNeg,Nat.reduceBEq]
   (repeat' (first | refine gT ?_ ?_ | refine gF ?_ ?_ | refine gC ?_ ?_ | refine aK (by omega) ?_ | (intro hr; have hc:=hr; (try simp only [zdz] at hc); simp -implicitDefEqProofs (disch:=omega) only [hr,go_sem,↓reduceIte,reduceAdd,reduceSub,reduceMul,reduceLeDiff,reduceLT,reduceEqDiff,reduceNeg,Nat.reduceBEq]; (try clear hr))))
   · exfalso; omega
   · exact aG rfl rfl
theorem aCw {h:List AObj} {o:Int}:Vo.Fin h (.tup [.e0,.i .i64 o]) (.tup [avw [],.i .i64 o]):=.inr ⟨⟨rfl,rfl,trivial⟩,eS,fun i hi=>by cases hi⟩
theorem bJx {h:List AObj} {l:List LSub} {n:Nat} {o:Int} (hn:l.length=n):Vo.Fin h (.tup [.sl (l.map avu) n,.i .i64 o]) (.tup [avw l,.i .i64 o]):=.inl ⟨by rw [avw,hn],by simp [pers,persL,iM]⟩
def bPm (s:cI) (p t:LTerm):MR:=iB s (nodesT p) p t [[]] false
def tF (s:cI) (p t:LTerm):List LSub × Int:=
 if B0 s p=true∧fY s t=true then (if (bPm s p t).2=true then ([],3) else ((bPm s p t).1,0)) else ([],2)
def xT (s:cI) (p t:LTerm):LSub × Int:=
 if (tF s p t).2=0 then (match (tF s p t).1 with | []=>([],4) | u::_=>(u,0)) else ([],(tF s p t).2)
theorem bFo (s:cI) (p t:LTerm) (hm:Small s) (hs:OkS s) (op:OkT p) (ot:OkT t) (hnp:nodesT p≤100000) (hnt:nodesT t≤100000): CT 71 [.agg (bB s),elT p,elT t,.sl [] 0] (.tup [avw (tF s p t).1,.i .i64 (tF s p t).2]):=by
 refine aE mixed Tryz.func71 g0 ?_
 · skip
   have c1:=bLo s p hm hs op (bEy s _ hm hs op)
   have c3:=bFn s
   rw [tF]
   by_cases hp:B0 s p=true
   · have hv:eN s=true:=by rw [B0,aC] at hp; exact hp.1
     have c2:=bMs s t hm hs hv ot
     rw [hp] at c1
     by_cases hpt:fY s t=true
     · rw [hpt] at c2
       rw [if_pos ⟨hp,hpt⟩]
       have on:OkN p:=⟨op,pZ (mQ hp)⟩
       have otn:OkN t:=⟨ot,pZ (by rw [fY,aC] at hpt; exact hpt.1)⟩
       have c4:=bVi hm hs hv (nodesT p) p on (bA _) t [[]] false 0 otn hpt (by omega) (fun u hu=>by rw [aU.1 hu]; exact ⟨bA _,fun q hq=>by cases hq⟩) (by simp) (by omega)
       rw [show iB s (nodesT p) p t [[]] false=bPm s p t from rfl] at c4
       (repeat' (first | refine gT ?_ ?_ | refine gF ?_ ?_ | refine gC ?_ ?_ | ((first | (refine aY (c1) ?_ ?_; (focus (simp -implicitDefEqProofs (disch:=omega) only [zdB,go_sem,↓reduceIte,reduceAdd,reduceSub,reduceMul,reduceLeDiff,reduceLT,reduceEqDiff,reduceNeg,Nat.reduceBEq]; done))) | (refine aY (c2) ?_ ?_; (focus (simp -implicitDefEqProofs (disch:=omega) only [zdB,go_sem,↓reduceIte,reduceAdd,reduceSub,reduceMul,reduceLeDiff,reduceLT,reduceEqDiff,reduceNeg,Nat.reduceBEq]; done))) | (refine aY (c3) ?_ ?_; (focus (simp -implicitDefEqProofs (disch:=omega) only [zdB,go_sem,↓reduceIte,reduceAdd,reduceSub,reduceMul,reduceLeDiff,reduceLT,reduceEqDiff,reduceNeg,Nat.reduceBEq]; done)))); simp -implicitDefEqProofs (disch:=omega) only [go_sem,↓reduceIte,reduceAdd,reduceSub,reduceMul,reduceLeDiff,reduceLT,reduceEqDiff,reduceNeg,Nat.reduceBEq]) | refine aK (by omega) ?_ | (intro hr; have hc:=hr; (try simp only [zdz] at hc); simp -implicitDefEqProofs (disch:=omega) only [hr,go_sem,↓reduceIte,reduceAdd,reduceSub,reduceMul,reduceLeDiff,reduceLT,reduceEqDiff,reduceNeg,Nat.reduceBEq]; (try clear hr))))
       refine nH 3 rfl ?_
       obtain ⟨k1,g',k2,k3⟩:=oC (pre:=[.box false (bB s),.box false [.i .i64 (p).kind,.i .i64 (p).n,.s (p).text,.s (p).sort,.sl ((p).kids.flatMap aA) (p).kids.length,.sl ((p).rest.flatMap aA) (p).rest.length],.box false [.i .i64 (t).kind,.i .i64 (t).n,.s (t).text,.s (t).sort,.sl ((t).kids.flatMap aA) (t).kids.length,.sl ((t).rest.flatMap aA) (t).rest.length],.box false [.sl (s.sorts.map .s) s.sorts.length,.sl (s.below.flatMap aQ) s.below.length,.sl (s.ops.flatMap aI) s.ops.length,.sl (s.funs.flatMap aI) s.funs.length,.sl (s.values.map .s) s.values.length,.b (false)]]) (g:=[.arr false 1 [.sl [] 0]]) (sz:=1) (n:=1) (out:=.hs 4 0 1 false) (cells:=[.sl [] 0]) (.inr ⟨0,rfl,rfl,rfl⟩) rfl
       simp only [cC,cH,bB,avs,avb,avo] at k1 k3
       rw [k1,k3]
       refine eZ (E7 3 g0 c4 sI sI (iK _) rfl (by simp only [List.set,elT,aW,avw,avu,avt,renL,ren,renL_pers _ _ fE,nG,aZ,bO,gK,bG,aL])) ?_
       rintro r' h' ⟨rfl,rfl⟩
       by_cases hmany:(bPm s p t).2=true
       · rw [if_pos hmany]
         simp -implicitDefEqProofs (disch:=omega) only [hmany,go_sem,↓reduceIte,reduceAdd,reduceSub,reduceMul,reduceLeDiff,reduceLT,reduceEqDiff,reduceNeg,Nat.reduceBEq]
         exact aCw
       · rw [if_neg hmany]
         simp -implicitDefEqProofs (disch:=omega) only [dV.2 hmany,go_sem,↓reduceIte,reduceAdd,reduceSub,reduceMul,reduceLeDiff,reduceLT,reduceEqDiff,reduceNeg,Nat.reduceBEq]
         exact bJx rfl
     · rw [dV.2 hpt] at c2
       rw [if_neg (fun h=>hpt h.2)]
       (repeat' (first | refine gT ?_ ?_ | refine gF ?_ ?_ | refine gC ?_ ?_ | ((first | (refine aY (c1) ?_ ?_; (focus (simp -implicitDefEqProofs (disch:=omega) only [zdB,go_sem,↓reduceIte,reduceAdd,reduceSub,reduceMul,reduceLeDiff,reduceLT,reduceEqDiff,reduceNeg,Nat.reduceBEq]; done))) | (refine aY (c2) ?_ ?_; (focus (simp -implicitDefEqProofs (disch:=omega) only [zdB,go_sem,↓reduceIte,reduceAdd,reduceSub,reduceMul,reduceLeDiff,reduceLT,reduceEqDiff,reduceNeg,Nat.reduceBEq]; done))) | (refine aY (c3) ?_ ?_; (focus (simp -implicitDefEqProofs (disch:=omega) only [zdB,go_sem,↓reduceIte,reduceAdd,reduceSub,reduceMul,reduceLeDiff,reduceLT,reduceEqDiff,reduceNeg,Nat.reduceBEq]; done)))); simp -implicitDefEqProofs (disch:=omega) only [go_sem,↓reduceIte,reduceAdd,reduceSub,reduceMul,reduceLeDiff,reduceLT,reduceEqDiff,reduceNeg,Nat.reduceBEq]) | refine aK (by omega) ?_ | (intro hr; have hc:=hr; (try simp only [zdz] at hc); simp -implicitDefEqProofs (disch:=omega) only [hr,go_sem,↓reduceIte,reduceAdd,reduceSub,reduceMul,reduceLeDiff,reduceLT,reduceEqDiff,reduceNeg,Nat.reduceBEq]; (try clear hr))))
       all_goals exact aCw
   · rw [dV.2 hp] at c1
     rw [if_neg (fun h=>hp h.1)]
     (repeat' (first | refine gT ?_ ?_ | refine gF ?_ ?_ | refine gC ?_ ?_ | ((refine aY (c1) ?_ ?_; (focus (simp -implicitDefEqProofs (disch:=omega) only [zdB,go_sem,↓reduceIte,reduceAdd,reduceSub,reduceMul,reduceLeDiff,reduceLT,reduceEqDiff,reduceNeg,Nat.reduceBEq]; done))); simp -implicitDefEqProofs (disch:=omega) only [go_sem,↓reduceIte,reduceAdd,reduceSub,reduceMul,reduceLeDiff,reduceLT,reduceEqDiff,reduceNeg,Nat.reduceBEq]) | refine aK (by omega) ?_ | (intro hr; have hc:=hr; (try simp only [zdz] at hc); simp -implicitDefEqProofs (disch:=omega) only [hr,go_sem,↓reduceIte,reduceAdd,reduceSub,reduceMul,reduceLeDiff,reduceLT,reduceEqDiff,reduceNeg,Nat.reduceBEq]; (try clear hr))))
     all_goals exact aCw
theorem bJy {h:List AObj} {u:LSub} {o:Int}:Vo.Fin h (.tup [.sl (u.flatMap prT) u.length,.i .i64 o]) (.tup [avu u,.i .i64 o]):=.inl ⟨rfl,by simp [pers,persL,qJ]⟩
theorem aPq {h:List AObj} {o:Int}:Vo.Fin h (.tup [.e0,.i .i64 o]) (.tup [avu [],.i .i64 o]):=.inr ⟨⟨rfl,rfl,trivial⟩,eS,fun i hi=>by cases hi⟩
theorem bFq (s:cI) (p t:LTerm) (hm:Small s) (hs:OkS s) (op:OkT p) (ot:OkT t) (hnp:nodesT p≤100000) (hnt:nodesT t≤100000): CT 30 [.agg (bB s),elT p,elT t,.sl [] 0] (.tup [avu (xT s p t).1,.i .i64 (xT s p t).2]):=by
 refine aE mixed Tryz.func30 g0 ?_
 · skip
   have c:=bFo s p t hm hs op ot hnp hnt
   rw [xT]
   generalize tF s p t=M at *
   obtain ⟨l,o⟩:=M
   simp only [avw] at c
   dsimp only
   by_cases ho:o=0
   · subst ho
     rw [if_pos rfl]
     cases l with
     | nil=>
       simp only [bO,bG] at c
       (repeat' (first | refine gT ?_ ?_ | refine gF ?_ ?_ | refine gC ?_ ?_ | ((refine aY (c) ?_ ?_; (focus (simp -implicitDefEqProofs (disch:=omega) only [zdB,go_sem,↓reduceIte,reduceAdd,reduceSub,reduceMul,reduceLeDiff,reduceLT,reduceEqDiff,reduceNeg,Nat.reduceBEq]; done))); simp -implicitDefEqProofs (disch:=omega) only [go_sem,↓reduceIte,reduceAdd,reduceSub,reduceMul,reduceLeDiff,reduceLT,reduceEqDiff,reduceNeg,Nat.reduceBEq]) | refine aK (by omega) ?_ | (intro hr; have hc:=hr; (try simp only [zdz] at hc); simp -implicitDefEqProofs (disch:=omega) only [hr,go_sem,↓reduceIte,reduceAdd,reduceSub,reduceMul,reduceLeDiff,reduceLT,reduceEqDiff,reduceNeg,Nat.reduceBEq]; (try clear hr))))
       all_goals exact aPq
     | cons u l=>
       simp only [aZ,aL] at c
       (repeat' (first | refine gT ?_ ?_ | refine gF ?_ ?_ | refine gC ?_ ?_ | ((refine aY (c) ?_ ?_; (focus (simp -implicitDefEqProofs (disch:=omega) only [avu,zdB,go_sem,↓reduceIte,reduceAdd,reduceSub,reduceMul,reduceLeDiff,reduceLT,reduceEqDiff,reduceNeg,Nat.reduceBEq]; done))); simp -implicitDefEqProofs (disch:=omega) only [avu,go_sem,↓reduceIte,reduceAdd,reduceSub,reduceMul,reduceLeDiff,reduceLT,reduceEqDiff,reduceNeg,Nat.reduceBEq]) | refine aK (by omega) ?_ | (intro hr; have hc:=hr; (try simp only [zdz] at hc); simp -implicitDefEqProofs (disch:=omega) only [hr,avu,go_sem,↓reduceIte,reduceAdd,reduceSub,reduceMul,reduceLeDiff,reduceLT,reduceEqDiff,reduceNeg,Nat.reduceBEq]; (try clear hr))))
       · exfalso; omega
       · exact bJy
   · rw [if_neg ho]
     (repeat' (first | refine gT ?_ ?_ | refine gF ?_ ?_ | refine gC ?_ ?_ | ((refine aY (c) ?_ ?_; (focus (simp -implicitDefEqProofs (disch:=omega) only [zdB,go_sem,↓reduceIte,reduceAdd,reduceSub,reduceMul,reduceLeDiff,reduceLT,reduceEqDiff,reduceNeg,Nat.reduceBEq]; done))); simp -implicitDefEqProofs (disch:=omega) only [go_sem,↓reduceIte,reduceAdd,reduceSub,reduceMul,reduceLeDiff,reduceLT,reduceEqDiff,reduceNeg,Nat.reduceBEq]) | refine aK (by omega) ?_ | (intro hr; have hc:=hr; (try simp only [zdz] at hc); simp -implicitDefEqProofs (disch:=omega) only [hr,go_sem,↓reduceIte,reduceAdd,reduceSub,reduceMul,reduceLeDiff,reduceLT,reduceEqDiff,reduceNeg,Nat.reduceBEq]; (try clear hr))))
     all_goals first
       | exact aPq
       | (exfalso; simp_all; done)

mutual
def yG:LTerm→Bool
 | .mk k n x so ks rs=>decide (k=8) || mapsL ks
def mapsL:List LTerm→Bool
 | []=>false
 | t::l=>yG t || mapsL l
end
mutual
def jC:LTerm→List Str
 | .mk k n x so ks rs=>(if k=6∧¬ x=[95] then [x] else [])++(mVarsL ks++mVarsL rs)
def mVarsL:List LTerm→List Str
 | []=>[]
 | t::l=>jC t++mVarsL l
end
theorem aFk (t:LTerm):yG t=(decide (t.kind=8) || mapsL t.kids):=by cases t; rw [yG]; rfl
theorem yX (t:LTerm):jC t=(if t.kind=6∧¬ t.text=[95] then [t.text] else [])++(mVarsL t.kids++mVarsL t.rest):=by cases t; rw [jC]; rfl
theorem X3:∀ {l:List LTerm} {k:LTerm},mapsL l=false→k ∈ l→yG k=false
 | t::l,k,h,hk=>by
   simp only [mapsL,jX] at h
   rcases cD.1 hk with rfl | hk
   · exact h.1
   · exact X3 h.2 hk
theorem aOl {u v:LSub} {x:Str}:mOf (u++v) x=match mOf u x with | some t=>some t | none=>mOf v x:=by
 rw [mOf,mOf,mOf,List.find?_append]
 cases u.find? fun p=>decide (p.1=x) <;> rfl
theorem aVe {p:LPr} {u:LSub} {x:Str}:mOf (p::u) x=if p.1=x then some p.2 else mOf u x:=by
 rw [mOf,xJ]
 by_cases h:p.1=x
 · rw [zt h,if_pos h]; rfl
 · rw [zf h,if_neg h]; rfl
theorem bEd {u:LSub} {x y:Str} {t:LTerm} (h:¬ x=y):mOf (aOn u x t) y=mOf u y:=by
 have e:mOf u y=mOf (u.take (aIz u x u.length)++u.drop (aIz u x u.length)) y:=by rw [eL]
 rw [e,aOn,aOl,aOl,aVe,if_neg h]
theorem uI (l:List LSub):(pK true l).2=true:=by rw [pK]; split <;> rfl
section
variable {A:LTerm→LTerm→List LSub→Bool→MR} {s:cI} (hA:∀ p t l,(A p t l true).2=true)
include hA
theorem uU:∀ (ps ts:List LTerm) (l:List LSub),(oV A ps ts l true).2=true
 | p::ps,t::ts,l=>by
   have:=hA p t l
   rw [oV,this]
   exact uU ps ts _
 | [],ts,l=>by rw [oV]; intros; simp_all
 | p::ps,[],l=>rfl
theorem Z7 (key value:LTerm) (w:jG):∀ k,(lV A s key value w k true).2=true
 | 0=>rfl
 | k+1=>by rw [lV,Z7 key value w k]; exact hA _ _ _
theorem Z9 (key value:LTerm):∀ ws,(kS A s key value ws true).2=true
 | []=>rfl
 | w::ws=>by rw [kS,Z7 hA]; exact Z9 key value ws
theorem T5 (p:LTerm) (ws:List jG):∀ k,(lO A s p k (ws,true)).2=true
 | 0=>rfl
 | k+1=>by
   rw [lO,T5 p ws k,pL]
   split
   · rfl
   · exact Z9 hA _ _ _
end
theorem Q0 {s:cI}:∀ {n:Nat} (p t:LTerm) (l:List LSub),(iB s n p t l true).2=true
 | 0,p,t,l=>rfl
 | n + 1,p,t,l=>by
   have hA:=fun p t l=>Q0 (s:=s) (n:=n) p t l
   rw [iB]
   split
   · split
     · exact uU hA _ _ _
     · rfl
   split
   · split
     · split
       · rw [uU hA]; exact uI _
       · exact uU hA _ _ _
     · rfl
   split
   · split
     · rw [tE,T5 hA]; exact uI _
     · rfl
   exact uI _
def bBd (X:List Str) (l:List LSub) (r:MR):Prop:=r.2=true∨(r.1 ≠ []∧∀ u' ∈ r.1,∃ u ∈ l,∀ x,x ∉ X→mOf u' x=mOf u x)
theorem S9 {X:List Str} {l m:List LSub} {b:Bool} (h:m ≠ []) (h2:∀ u' ∈ m,∃ u ∈ l,∀ x,x ∉ X→mOf u' x=mOf u x):bBd X l (pK b m):=by
 rw [pK]
 split
 · exact .inl rfl
 · exact .inr ⟨h,h2⟩
theorem aAq {s:cI} {v t:LTerm} {u:LSub} (h1:jE s (iL s t) v.sort=true) (h2:¬ v.text=[95]→mOf u v.text=none):kA s v t u ≠ []∧∀ u' ∈ kA s v t u,∀ x,(¬ v.text=[95]→x ≠ v.text)→mOf u' x=mOf u x:=by
 rw [kA,if_pos h1]
 by_cases h9:v.text=[95]
 · rw [if_pos h9]
   exact ⟨by simp,fun u' hu x _=>by rw [aU] at hu; rw [hu]⟩
 · rw [if_neg h9,h2 h9]
   refine ⟨by simp,fun u' hu x hx=>?_⟩
   rw [aU] at hu
   rw [hu]
   exact bEd (fun e=>hx h9 e.symm)
theorem aAa {s:cI} {p t:LTerm} {l:List LSub} {b:Bool} (hl:l ≠ []) (h6:p.kind=6) (h1:jE s (iL s t) p.sort=true) (h2:∀ u ∈ l,¬ p.text=[95]→mOf u p.text=none):bBd (if p.kind=6∧¬ p.text=[95] then [p.text] else []) l (C4 s p t l b):=by
 obtain ⟨u0,l0,rfl⟩:∃ u0 l0,l=u0::l0:=by cases l with | nil=>exact absurd rfl hl | cons a b=>exact ⟨a,b,rfl⟩
 refine S9 (fun e=>?_) (fun u' hu=>?_)
 · rw [cJ,List.append_eq_nil_iff,jN,if_pos h6] at e
   exact (aAq h1 (h2 u0 (by simp))).1 e.1
 · obtain ⟨u,hm,hb⟩:=gJ.1 hu
   rw [jN,if_pos h6] at hb
   refine ⟨u,hm,fun x hx=>(aAq h1 (h2 u hm)).2 u' hb x (fun h9 e=>hx ?_)⟩
   rw [if_pos ⟨h6,h9⟩,e]; simp
theorem aKe {s:cI} {x:Str}:jE s x P9=true:=by
 have:decide (P9=oW)=true:=by decide
 rw [jE,this]; rfl
theorem aOd {s:cI}:jE s nC nC=true:=by
 have h:existsA s nC=true:=jU (by decide)
 rw [jE,Q7,if_pos h,bH]
 right
 rw [eM]
 exact (xZ s.below nC).me
theorem B9 {α:Type} {l m:List α} (h:(l++m).Nodup):l.Nodup∧m.Nodup∧∀ x ∈ l,x ∉ m:=by
 rw [gU] at h
 exact ⟨h.1,h.2.1,fun x h1 h2=>h.2.2 x h1 x h2 rfl⟩
theorem M5 {A:LTerm→LTerm→List LSub→Bool→MR} {s:cI} (hm:∀ p t l,(A p t l true).2=true):∀ {ps ts:List LTerm} {l:List LSub} {b:Bool},
   (∀ p ∈ ps,(jC p).Nodup→∀ t l b,mOk s p t=true→l ≠ []→(∀ u ∈ l,∀ x ∈ jC p,mOf u x=none)→bBd (jC p) l (A p t l b)) →
   (mVarsL ps).Nodup→mOkL s ps ts=true→l ≠ []→(∀ u ∈ l,∀ x ∈ mVarsL ps,mOf u x=none)→bBd (mVarsL ps) l (oV A ps ts l b)
 | [],ts,l,b,_,_,_,hl,_=>by
   have e:oV A [] ts l b=(l,b):=by cases ts <;> rfl
   rw [e]
   exact .inr ⟨hl,fun u' h=>⟨u',h,fun x _=>rfl⟩⟩
 | p::ps,[],l,b,_,_,h,_,_=>by rw [mOkL] at h; cases h
 | p :: ps,t::ts,l,b,hA,hn,ho,hl,hx=>by
   rw [mVarsL] at hn hx
   obtain ⟨n1,n2,n3⟩:=B9 hn
   rw [mOkL,aC] at ho
   rw [oV]
   rcases hA p (by simp) n1 t l b ho.1 hl (fun u hu x h=>hx u hu x (cM _ h)) with h | ⟨h1,h2⟩
   · rw [h]
     exact .inl (uU hm _ _ _)
   · rcases M5 hm (b:=(A p t l b).2) (fun q hq=>hA q (by simp [hq])) n2 ho.2 h1 (fun u' hu' x h=>by
       obtain ⟨u,hu,e⟩:=h2 u' hu'
       rw [e x (fun hp=>n3 x hp h)]
       exact hx u hu x (cX _ h)) with h3 | ⟨h3,h4⟩
     · exact .inl h3
     · refine .inr ⟨h3,fun u2 hu2=>?_⟩
       obtain ⟨u1,hu1,e1⟩:=h4 u2 hu2
       obtain ⟨u,hu,e⟩:=h2 u1 hu1
       refine ⟨u,hu,fun x hx=>?_⟩
       rw [mVarsL,bC,not_or] at hx
       rw [e1 x hx.2,e x hx.1]
theorem aJa {s:cI} {ps ts:List LTerm} (h:mOkL s ps ts=true):mOkL s ps (ts.take ps.length)=true:=by rw [C3 (bA _)]; exact h
theorem aTs {t:LTerm} (hn:cP t=true) (h7:t.kind=7) (hr:0 < t.rest.length):∃ r,t.rest=[r]∧r.kind=6∧r.sort=nC∧dP r.text=true:=by
 have e:mV t nC=true:=by
   rw [cP] at hn
   simp only [h7,(by decide:¬ (7:Int)=1),(by decide:¬ (7:Int)=2),(by decide:¬ (7:Int)=3),(by decide:¬ (7:Int)=4),(by decide:¬ (7:Int)=5),(by decide:¬ (7:Int)=6),if_false,if_true,aC] at hn
   exact hn.1
 simp only [mV,aC,bH,decide_eq_true_eq] at e
 rcases e with e | e
 · omega
 obtain ⟨⟨⟨⟨e1,e2⟩,e3⟩,e4⟩,_⟩:=e
 match hr1:t.rest with
 | [r]=>
   rw [hr1] at e2 e3 e4
   exact ⟨r,rfl,e2,e4,e3⟩
 | []=>rw [hr1] at hr; simp at hr
 | _::_::_=>rw [hr1] at e1; simp at e1
theorem aAr {s:cI}:∀ {n:Nat} {p:LTerm},highT p≤n→wfT cP p=true→yG p=false→(jC p).Nodup→∀ t l b,mOk s p t=true→l ≠ []→(∀ u ∈ l,∀ x ∈ jC p,mOf u x=none)→bBd (jC p) l (iB s n p t l b)
 | 0,p,h,_,_,_,t,l,b,_,_,_=>by rw [qM] at h; omega
 | n + 1,p,hh,hw,hm,hn,t,l,b,ho,hl,hx=>by
   obtain ⟨w1,w2⟩:=mE.1 hw
   rw [qM] at hh
   rw [aFk,jX,decide_eq_false_iff_not] at hm
   have hk:∀ q ∈ p.kids,(jC q).Nodup→∀ t l b,mOk s q t=true→l ≠ []→(∀ u ∈ l,∀ x ∈ jC q,mOf u x=none)→bBd (jC q) l (iB s n q t l b):=fun q hq h=>aAr (by have:=(sL hq).2; omega) (w2 q hq) (X3 hm.2 hq) h
   have eX:=yX p
   have hv6:p.kind=6→¬ p.text=[95]→p.text ∈ jC p:=fun a b=>by rw [eX,if_pos ⟨a,b⟩]; simp
   have hvk:∀ x ∈ mVarsL p.kids,x ∈ jC p:=fun x h=>by rw [eX]; simp [h]
   have hvr:∀ x ∈ mVarsL p.rest,x ∈ jC p:=fun x h=>by rw [eX]; simp [h]
   rw [eX] at hn
   obtain ⟨n1,n2,n3⟩:=B9 hn
   generalize jC p=X at *
   clear eX
   obtain ⟨n4,n5,n6⟩:=B9 n2
   have wide:∀ {X:List Str} {l:List LSub} {r:MR} {Y:List Str},(∀ x ∈ X,x ∈ Y)→bBd X l r→bBd Y l r:=fun hXY h=>h.imp id fun h=>⟨h.1,fun u' hu=>by obtain ⟨u,h1,h2⟩:=h.2 u' hu; exact ⟨u,h1,fun x hx=>h2 x (fun hX=>hx (hXY x hX))⟩⟩
   rw [aOk] at ho
   rw [iB]
   by_cases h5:p.kind=5
   · rw [if_pos h5] at ho ⊢
     simp only [aC,decide_eq_true_eq] at ho
     rw [if_pos ⟨ho.1,ho.2.1,ho.2.2.1⟩]
     exact wide hvk (M5 (fun p t l=>Q0 p t l) hk n4 ho.2.2.2 hl (fun u hu x h=>hx u hu x (hvk x h)))
   rw [if_neg h5] at ho ⊢
   by_cases h7:p.kind=7
   · rw [if_pos h7] at ho ⊢
     simp only [aC,decide_eq_true_eq] at ho
     obtain ⟨o1,o2,o3⟩:=ho
     have hle:p.kids.length≤t.kids.length∧(p.rest.length=0→t.kids.length≤p.kids.length):=by
       split at o2
       · rw [decide_eq_true_eq] at o2; exact ⟨o2,fun h=>by omega⟩
       · rw [decide_eq_true_eq] at o2; exact ⟨by omega,fun _=>by omega⟩
     rw [if_pos ⟨o1,hle.1,hle.2⟩]
     have hrow:=M5 (b:=b) (fun p t l=>Q0 p t l) hk n4 (aJa o3) hl (fun u hu x h=>hx u hu x (hvk x h))
     by_cases hr:0 < p.rest.length
     · rw [if_pos hr]
       obtain ⟨r,e,r6,rs,rn⟩:=aTs w1 h7 hr
       have hr9:¬ r.text=[95]:=fun e9=>by rw [e9] at rn; revert rn; decide
       have hrv:r.text ∈ mVarsL p.rest:=by rw [e,mVarsL,yX,if_pos ⟨r6,hr9⟩]; simp
       rw [show p.rest.getD 0 default=r by rw [e]; rfl]
       rcases hrow with h | ⟨h1,h2⟩
       · rw [h]; exact .inl (uI _)
       · have g:=aAa (s:=s) (p:=r) (t:=.mk 7 0 [] [] (t.kids.drop p.kids.length) []) (b:=(oV (iB s n) p.kids (t.kids.take p.kids.length) l b).2) h1 r6 (by rw [rs]; exact aOd) (fun u' hu' _=>by
           obtain ⟨u,hu,eu⟩:=h2 u' hu'
           rw [eu _ (fun hk=>n6 _ hk hrv)]
           exact hx u hu _ (hvr _ hrv))
         refine g.imp id fun g=>⟨g.1,fun u2 hu2=>?_⟩
         obtain ⟨u1,hu1,e1⟩:=g.2 u2 hu2
         obtain ⟨u,hu,eu⟩:=h2 u1 hu1
         refine ⟨u,hu,fun x hx=>?_⟩
         rw [e1 x (fun h=>hx (hvr _ (by
           rw [if_pos ⟨r6,hr9⟩,aU] at h
           rw [h]; exact hrv))),eu x (fun h=>hx (hvk x h))]
     · rw [if_neg hr]
       exact wide hvk hrow
   rw [if_neg h7] at ho ⊢
   rw [if_neg hm.1] at ho ⊢
   by_cases h6:p.kind=6
   · rw [if_pos h6,bH,decide_eq_true_eq] at ho
     have ha:jE s (iL s t) p.sort=true:=ho.elim (fun h=>by rw [h]; exact aKe) id
     exact wide (fun x hx=>by
       by_cases h9:p.text=[95]
       · rw [if_neg (fun h=>h.2 h9)] at hx; cases hx
       · rw [if_pos ⟨h6,h9⟩,aU] at hx; rw [hx]; exact hv6 h6 h9) (aAa hl h6 ha (fun u hu h9=>hx u hu _ (hv6 h6 h9)))
   · rw [if_neg h6,decide_eq_true_eq] at ho
     have e1:l.flatMap (jN s p t)=l:=by
       have:∀ m:List LSub,m.flatMap (jN s p t)=m:=by
         intro m
         induction m with
         | nil=>rfl
         | cons u m ih=>rw [cJ,ih,jN,if_neg h6,if_pos ho]; rfl
       exact this l
     rw [C4,e1]
     exact S9 hl (fun u' hu=>⟨u',hu,fun x _=>rfl⟩)
end Go.Proofs.YtifefbhllfdmlaaGreatDoor
