/-
  What functions of the chapter return, as plain functions of what they are given; no condition beyond those that each theorem names.
-/
import Derived.Test.YtifefbhllfdmlaaGreatDoorVbP125
set_option maxRecDepth 100000
set_option linter.unusedSimpArgs false
set_option linter.unusedVariables false
set_option maxHeartbeats 4000000
namespace Go.Proofs.YtifefbhllfdmlaaGreatDoor
open Go Go.Vo
open Nat (reduceAdd reduceSub reduceMul reduceLeDiff reduceLT reduceEqDiff)
open Int (reduceNeg)

theorem zF {s:dF} {t:LTerm}:∀ {l m:List LTerm} {i:Nat},fC s t (l++m) i=fC s t l i++fC s t m (i+l.length)
 | [],m,i=>rfl
 | p::l,m,i=>by rw [aU,fC,fC,zF,bW,aD,show i+1+l.length=i+(l.length+1) by omega]
theorem zE {s:dF} {t:LTerm}:∀ {l:List LTerm} {i:Nat},fC s t l (i+1)=(fC s t l i).map (·+1)
 | [],i=>rfl
 | p::l,i=>by
   rw [fC,fC,bF,zE]
   congr 1
   split <;> simp
theorem U5 {s:dF} {t:LTerm}:∀ {l:List LTerm},fC s t l.reverse 0=((fC s t l 0).map fun x=>((l.length:Nat):Int) - 1 - x).reverse
 | []=>rfl
 | p :: l=>by
   rw [List.reverse_cons,zF,U5 (l:=l)]
   conv=>rhs; rw [fC,zE,bF,List.reverse_append,List.map_map]
   rw [fC,fC,List.append_nil,kN,cZ]
   congr 1
   · congr 1
     apply iS
     intro x _
     simp only [Function.comp,aD]; omega
   · split <;> simp
theorem U6 {s:dF} {t:LTerm}:∀ {l:List LTerm} {i:Nat} {x:Int},x ∈ fC s t l i→(i:Int)≤x∧x < ((i+l.length:Nat):Int)
 | [],i,x,h=>by cases h
 | p :: l,i,x,h=>by
   rw [fC] at h
   rcases bN.1 h with h | h
   · split at h
     · obtain rfl:=bA.1 h
       rw [aD]; omega
     · cases h
   · have:=U6 h
     rw [aD]; omega
theorem aGh {s:dF} {t:LTerm} {l:List LTerm} {p:LTerm}:fC s t (l++[p]) 0=fC s t l 0∨fC s t (l++[p]) 0=fC s t l 0++[((l.length:Nat):Int)]:=by
 rw [zF,fC,fC,List.append_nil,cZ]
 split
 · exact .inr rfl
 · exact .inl (List.append_nil _)
theorem sZ {s:dF} {l:List LTerm}:dZ s l.reverse=dZ s l:=by
 rw [dZ,dZ,kN,List.all_reverse]
theorem B5 {s:dF} {l:List LTerm} {p:LTerm} (h:dZ s (l++[p])=true):dZ s l=true:=by
 simp only [dZ,aB,decide_eq_true_eq,jZ,aG,aD,aY] at h ⊢
 exact ⟨h.1,by omega,h.2.2.1⟩
theorem aNh {s:dF} {l:List LTerm} (ho:∀ p ∈ l,OkT p):OkV (jK s l).1:=by
 rcases iC (dZ s l) with h | h
 · obtain ⟨hv,h100,hpl⟩:=pM h
   obtain ⟨ok1,ok2⟩:=aBt hpl ho h100
   rw [jK,if_pos h]
   exact wQ ok1 (pG hpl)
 · rw [jK,h,if_neg (by simp)]
   exact .mk aKl (by simp [cM.rows]) (fun r hr=>by cases hr) (by simp [cM.yes]) (by simp [cM.no]) (fun k hk=>by cases hk) (fun k hk=>by cases hk)
theorem aNi {s:dF} {l:List LTerm}:(jK s l).2=if dZ s l=true then 0 else 2:=by
 rw [jK]; split <;> rfl
theorem aQb {l:List Int} {f:Int→Int} {k:Nat} (h:k < l.length):((l.map f).reverse).getD (l.length - 1 - k) 0=f (l.getD k 0):=by
 rw [jA,List.getElem?_reverse (by simp; omega),fM,show l.length - 1 - (l.length - 1 - k)=k by omega,dR,jA,bQ h]
 rfl
theorem aQa {l:List LTerm} {k:Nat} (h:k < l.length):l.reverse.take (k+1)=l.reverse.take k++[l.getD (l.length - 1 - k) default]:=by
 rw [jT (by simpa using h)]
 congr 2
 rw [jA,List.getElem?_reverse h,jA]
theorem I3 {pre g:List AObj} {i n sz:Nat} {fz:Bool} {cells:List AV} (hi:g[i]? = some (.arr fz sz cells)) (hl:cells.length=n * sz) (hp:persL cells=true) :
   fU dep (pre++g) (.hs (i+pre.length) 0 n false)=.sl cells n∧∃ g',g'[i]? = some (.arr true sz cells)∧Vo.freeze (dJ dep (pre++g) (.hs (i+pre.length) 0 n false)) (pre++g)=pre++g':=by
 have hlt:=aK hi
 have hg:(pre++g)[i+pre.length]? = some (.arr fz sz cells):=by
   rw [aF (by omega)]; simpa using hi
 have hd:(cells.drop 0).take (n * sz)=cells:=by rw [dX,aJ (by omega)]
 have he:cells.all aAj=true:=by
   rw [aV]
   intro a ha
   obtain ⟨j,hj⟩:=cO.1 ha
   have:=gM hp j a hj
   cases a <;> first | rfl | exact this
 refine ⟨?_,g.modify i AObj.fz,by rw [eP,hi]; simp [AObj.fz],?_⟩
 · simp only [fS,pers,qX,hg,hd,hp,if_true,aH,if_false]
   rw [if_pos (by omega)]
 · rw [wK,hg]
   simp only [hsQ,he,if_true,Vo.freeze]
   apply qH
   intro j
   by_cases hj:j < pre.length
   · rw [eP,aC hj,aC hj]
     have:¬ i+pre.length=j:=by omega
     simp [this]
   · rw [eP,aF (by omega),aF (by omega),eP]
     have:(i+pre.length=j)=(i=j - pre.length):=propext ⟨fun h=>by omega,fun h=>by omega⟩
     simp only [this]
theorem bGd (s : dF) (l:List LTerm) (t:LTerm) (hs:OkS s) (hl:l.length≤1466015503700) (ho:∀ p ∈ l,OkT p) (ht:OkT t): CT 8 [.agg (cB s),avt l,elT t] (.b true):=by
 refine eD (rx:=true) (th:=fun i=>if i=1 then some ⟨none,[],true,true,false,[32,37],[],0⟩ else none) mixed Tryz.func8 g0 ?_
 · generalize hR:((.b true):AV)=R
   simp -implicitDefEqProofs (disch:=omega) only [Tryz.f8,go_sem,List.replicate,↓reduceIte,reduceAdd,reduceSub,reduceMul,reduceLeDiff,reduceLT,reduceEqDiff,reduceNeg,Nat.reduceBEq,avt]
   subst hR
   have hlt:(l++[t]).length≤1466015503701:=by simp; omega
   have hot:∀ p ∈ l++[t],OkT p:=by
     intro p hp
     rcases bN.1 hp with hp | hp
     · exact ho p hp
     · rw [bA] at hp; exact hp ▸ ht
   have c1:=bGc s (l++[t]) hs hlt hot
   have ca:=bGb
   have e1:(l++[t]).flatMap aE=l.flatMap aE++[.i .i64 (t).kind,.i .i64 (t).n,.s (t).text,.s (t).sort,.sl ((t).kids.flatMap aE) (t).kids.length,.sl ((t).rest.flatMap aE) (t).rest.length]:=by rw [eJ,dL,jC,List.append_nil,bT]; rfl
   have e2:(l++[t]).length=l.length+1:=by simp
   have b1:(l.length * 96≤140737488355328)=True:=eq_true (by omega)
   have b2:(l.length≤140737488355328)=True:=eq_true (by omega)
   have b3:((l.length+1) * 96≤140737488355328)=True:=eq_true (by omega)
   have b4:(l.length+1≤140737488355328)=True:=eq_true (by omega)
   have b5:(l.length≤140737488355327)=True:=eq_true (by omega)
   have b6:∀ n:Nat,(n≤n)=True:=fun n=>eq_true (aX n)
   have q1:(l.flatMap aE).length=l.length * 6:=nZ
   have tl1:List.take (l.length * 6) (l.flatMap aE)=l.flatMap aE:=aJ (by omega)
   have tl2:List.take ((l.length+1) * 6) (l.flatMap aE++[.i .i64 (t).kind,.i .i64 (t).n,.s (t).text,.s (t).sort,.sl ((t).kids.flatMap aE) (t).kids.length,.sl ((t).rest.flatMap aE) (t).rest.length])=l.flatMap aE++[.i .i64 (t).kind,.i .i64 (t).n,.s (t).text,.s (t).sort,.sl ((t).kids.flatMap aE) (t).kids.length,.sl ((t).rest.flatMap aE) (t).rest.length]:=aJ (by rw [aG,q1]; simp only [aD,aY]; omega)
   have hps:persL (l.flatMap aE++[.i .i64 (t).kind,.i .i64 (t).n,.s (t).text,.s (t).sort,.sl ((t).kids.flatMap aE) (t).kids.length,.sl ((t).rest.flatMap aE) (t).rest.length])=true:=by simp [kD,iF,persL,pers]
   simp only [avt,e1,e2] at c1
   have b7:((l.length+1) * 6≤l.length * 6+6)=True:=eq_true (by omega)
   rcases iC (few s && bJd 1500 (l++[t])) with h1 | h1
   · rw [h1] at c1
     have hm:=aMa ((aB _ _).mp h1).1
     by_cases h40:40 < l.length
     · have h40i:(40:Int) < ((l.length:Nat):Int):=by omega
       simp -implicitDefEqProofs (disch:=omega) only [b1,b2,b3,b4,b5,b6,b7,q1,tl1,tl2,hps,gI,aZ,bH,List.append_nil,go_sem,↓reduceIte,reduceAdd,reduceSub,reduceMul,reduceLeDiff,reduceLT,reduceEqDiff,reduceNeg,Nat.reduceBEq]
       (repeat' (first | refine gT ?_ ?_ | refine gF ?_ ?_ | refine gC ?_ ?_ | ((first | (refine bI (c1) ?_ ?_; (focus (simp -implicitDefEqProofs (disch:=omega) only [b1,b2,b3,b4,b5,b6,b7,q1,tl1,tl2,hps,gI,aZ,bH,List.append_nil,zt h40i,zdB,go_sem,↓reduceIte,reduceAdd,reduceSub,reduceMul,reduceLeDiff,reduceLT,reduceEqDiff,reduceNeg,Nat.reduceBEq]; done))) | (refine bI (ca) ?_ ?_; (focus (simp -implicitDefEqProofs (disch:=omega) only [b1,b2,b3,b4,b5,b6,b7,q1,tl1,tl2,hps,gI,aZ,bH,List.append_nil,zt h40i,zdB,go_sem,↓reduceIte,reduceAdd,reduceSub,reduceMul,reduceLeDiff,reduceLT,reduceEqDiff,reduceNeg,Nat.reduceBEq]; done)))); simp -implicitDefEqProofs (disch:=omega) only [b1,b2,b3,b4,b5,b6,b7,q1,tl1,tl2,hps,gI,aZ,bH,List.append_nil,zt h40i,go_sem,↓reduceIte,reduceAdd,reduceSub,reduceMul,reduceLeDiff,reduceLT,reduceEqDiff,reduceNeg,Nat.reduceBEq]) | refine bM (by omega) ?_ | (intro hr; have hc:=hr; (try simp only [zdz] at hc); simp -implicitDefEqProofs (disch:=omega) only [hr,b1,b2,b3,b4,b5,b6,b7,q1,tl1,tl2,hps,gI,aZ,bH,List.append_nil,zt h40i,go_sem,↓reduceIte,reduceAdd,reduceSub,reduceMul,reduceLeDiff,reduceLT,reduceEqDiff,reduceNeg,Nat.reduceBEq]; (try clear hr))))
       all_goals exact aP rfl rfl
     have h40i:¬ (40:Int) < ((l.length:Nat):Int):=by omega
     by_cases h0:l.length=0
     · have h0i:((l.length:Nat):Int)=0:=by omega
       simp -implicitDefEqProofs (disch:=omega) only [b1,b2,b3,b4,b5,b6,b7,q1,tl1,tl2,hps,gI,aZ,bH,List.append_nil,go_sem,↓reduceIte,reduceAdd,reduceSub,reduceMul,reduceLeDiff,reduceLT,reduceEqDiff,reduceNeg,Nat.reduceBEq]
       (repeat' (first | refine gT ?_ ?_ | refine gF ?_ ?_ | refine gC ?_ ?_ | ((first | (refine bI (c1) ?_ ?_; (focus (simp -implicitDefEqProofs (disch:=omega) only [b1,b2,b3,b4,b5,b6,b7,q1,tl1,tl2,hps,gI,aZ,bH,List.append_nil,zf h40i,zt h0i,zdB,go_sem,↓reduceIte,reduceAdd,reduceSub,reduceMul,reduceLeDiff,reduceLT,reduceEqDiff,reduceNeg,Nat.reduceBEq]; done))) | (refine bI (ca) ?_ ?_; (focus (simp -implicitDefEqProofs (disch:=omega) only [b1,b2,b3,b4,b5,b6,b7,q1,tl1,tl2,hps,gI,aZ,bH,List.append_nil,zf h40i,zt h0i,zdB,go_sem,↓reduceIte,reduceAdd,reduceSub,reduceMul,reduceLeDiff,reduceLT,reduceEqDiff,reduceNeg,Nat.reduceBEq]; done)))); simp -implicitDefEqProofs (disch:=omega) only [b1,b2,b3,b4,b5,b6,b7,q1,tl1,tl2,hps,gI,aZ,bH,List.append_nil,zf h40i,zt h0i,go_sem,↓reduceIte,reduceAdd,reduceSub,reduceMul,reduceLeDiff,reduceLT,reduceEqDiff,reduceNeg,Nat.reduceBEq]) | refine bM (by omega) ?_ | (intro hr; have hc:=hr; (try simp only [zdz] at hc); simp -implicitDefEqProofs (disch:=omega) only [hr,b1,b2,b3,b4,b5,b6,b7,q1,tl1,tl2,hps,gI,aZ,bH,List.append_nil,zf h40i,zt h0i,go_sem,↓reduceIte,reduceAdd,reduceSub,reduceMul,reduceLeDiff,reduceLT,reduceEqDiff,reduceNeg,Nat.reduceBEq]; (try clear hr))))
       all_goals exact aP rfl rfl
     have h0i:¬ ((l.length:Nat):Int)=0:=by omega
     have d1:=aMk s l t hm hs (by omega) ho ht
     have hor:∀ p ∈ l.reverse,OkT p:=fun p hp=>ho p (List.mem_reverse.1 hp)
     have cr:=aMk s l.reverse t hm hs (by rw [kN]; omega) hor ht
     have cb:=bFw s l.reverse hm hs (by rw [kN]; omega) hor
     have cf:=bFy s (jK s l.reverse).1 t hm hs (aNh hor) ht
     have hlr:l.reverse.length=l.length:=kN
     simp only [aDo,avt,hlr] at d1 cr
     simp only [J9,avt,hlr] at cb
     simp only [aJp] at cf
     have h01:0 < l.length:=by omega
     have hw0:IntKind.i64.wrap (((l.length:Nat):Int) - 1)=((l.length:Nat):Int) - 1:=wrap64 (by omega) (by omega)
     simp -implicitDefEqProofs (disch:=omega) only [b1,b2,b3,b4,b5,b6,b7,q1,tl1,tl2,hps,gI,aZ,bH,List.append_nil,go_sem,↓reduceIte,reduceAdd,reduceSub,reduceMul,reduceLeDiff,reduceLT,reduceEqDiff,reduceNeg,Nat.reduceBEq]
     (repeat' (first | refine gT ?_ ?_ | refine gF ?_ ?_ | refine gC ?_ ?_ | ((first | (refine bI (c1) ?_ ?_; (focus (simp -implicitDefEqProofs (disch:=omega) only [b1,b2,b3,b4,b5,b6,b7,q1,tl1,tl2,hps,gI,aZ,bH,List.append_nil,zf h40i,zf h0i,zdB,go_sem,↓reduceIte,reduceAdd,reduceSub,reduceMul,reduceLeDiff,reduceLT,reduceEqDiff,reduceNeg,Nat.reduceBEq]; done))) | (refine bI (d1) ?_ ?_; (focus (simp -implicitDefEqProofs (disch:=omega) only [b1,b2,b3,b4,b5,b6,b7,q1,tl1,tl2,hps,gI,aZ,bH,List.append_nil,zf h40i,zf h0i,zdB,go_sem,↓reduceIte,reduceAdd,reduceSub,reduceMul,reduceLeDiff,reduceLT,reduceEqDiff,reduceNeg,Nat.reduceBEq]; done)))); simp -implicitDefEqProofs (disch:=omega) only [b1,b2,b3,b4,b5,b6,b7,q1,tl1,tl2,hps,gI,aZ,bH,List.append_nil,zf h40i,zf h0i,go_sem,↓reduceIte,reduceAdd,reduceSub,reduceMul,reduceLeDiff,reduceLT,reduceEqDiff,reduceNeg,Nat.reduceBEq]) | refine bM (by omega) ?_ | (intro hr; have hc:=hr; (try simp only [zdz] at hc); simp -implicitDefEqProofs (disch:=omega) only [hr,b1,b2,b3,b4,b5,b6,b7,q1,tl1,tl2,hps,gI,aZ,bH,List.append_nil,zf h40i,zf h0i,go_sem,↓reduceIte,reduceAdd,reduceSub,reduceMul,reduceLeDiff,reduceLT,reduceEqDiff,reduceNeg,Nat.reduceBEq]; (try clear hr))))
     refine dD (fun (q:Nat × AV × List AObj)=>[.k,.k,.k,.k,.k,.k,.k,.k,.k,.v (q.2.1),.v (.i .i64 (((l.length:Nat):Int) - 1 - (q.1:Nat))),.k,.k,.k,.k,.k,.k,.k,.k,.k,.k,.k,.k,.k,.k,.k,.k,.k,.k,.k,.k,.k,.k,.k,.k,.k,.k,.k,.k,.k,.k,.k,.k,.k,.k,.k,.k,.k,.k,.k,.k,.j,.j,.j,.j,.j,.j,.j,.j,.j,.j,.j,.k,.k,.k,.k,.k,.k,.k,.k,.k,.k,.k,.k,.k,.k,.k,.k,.k,.k,.k,.k,.k,.k,.k,.k,.k,.k,.k,.k,.k,.k,.k,.k,.k,.k,.k,.k,.k,.k,.k,.k,.k,.k,.k,.k,.k,.k,.k,.k,.k,.k,.k,.k,.k,.k,.k,.k,.k,.k,.k,.k,.k,.k,.k,.k,.k,.k,.k,.k,.k,.k,.k,.k,.k,.k,.k,.k,.k,.k,.k,.k,.k,.k,.k,.k,.k,.k,.k,.k,.k,.k,.k,.k,.k,.k,.k,.k,.k,.k,.k,.k,.k,.k,.k,.k,.k,.k,.k,.k,.k,.k,.k,.k,.k,.k,.k,.k,.k,.k,.k,.k,.k,.k,.k,.k,.k,.k]) (fun q=>(.box false (cB s)::.box false [.i .i64 (t).kind,.i .i64 (t).n,.s (t).text,.s (t).sort,.sl ((t).kids.flatMap aE) (t).kids.length,.sl ((t).rest.flatMap aE) (t).rest.length]::q.2.2)) (fun q=>q.1≤l.length∧fD 6 2 q.2.2 q.2.1 ((l.reverse.take q.1).flatMap aE) (l.reverse.take q.1).length) (fun q=>l.length - q.1) ((0,.e0,_)) ⟨aT _,kK⟩ rfl (by simp [iL]) ?_
     rintro ⟨k,out,g⟩ j ⟨hk,hout⟩
     dsimp only at hk hout
     by_cases hlt:k < l.length
     · have hj:((l.length:Nat):Int) - 1 - ((k:Nat):Int)=((l.length - 1 - k:Nat):Int):=by omega
       have hj2:l.length - 1 - k < l.length:=by omega
       have hkl:(l.reverse.take k).length=k:=by rw [eZ,hlr]; omega
       rw [hkl] at hout
       have h0j:(0:Int)≤((l.length - 1 - k:Nat):Int):=by omega
       simp -implicitDefEqProofs (disch:=omega) only [hj,zt h0j,gI,aZ,bH,List.append_nil,go_sem,↓reduceIte,reduceAdd,reduceSub,reduceMul,reduceLeDiff,reduceLT,reduceEqDiff,reduceNeg,Nat.reduceBEq]
       (repeat' (first | refine gT ?_ ?_ | refine gF ?_ ?_ | refine gC ?_ ?_ | refine bM (by omega) ?_ | (intro hr; have hc:=hr; (try simp only [zdz] at hc); simp -implicitDefEqProofs (disch:=omega) only [hr,hj,zt h0j,gI,aZ,bH,List.append_nil,go_sem,↓reduceIte,reduceAdd,reduceSub,reduceMul,reduceLeDiff,reduceLT,reduceEqDiff,reduceNeg,Nat.reduceBEq]; (try clear hr))))
       refine fE (pre:=[_,_]) (news:=[.i .i64 (l.getD (l.length - 1 - k) default).kind,.i .i64 (l.getD (l.length - 1 - k) default).n,.s (l.getD (l.length - 1 - k) default).text,.s (l.getD (l.length - 1 - k) default).sort,.sl ((l.getD (l.length - 1 - k) default).kids.flatMap aE) (l.getD (l.length - 1 - k) default).kids.length,.sl ((l.getD (l.length - 1 - k) default).rest.flatMap aE) (l.getD (l.length - 1 - k) default).rest.length]) (m:=1) hout rfl rfl bLy bJl bJw bMo rfl (by decide) (by simp -implicitDefEqProofs (disch:=omega) only [go_sem,↓reduceIte,reduceAdd,reduceSub,reduceMul,reduceLeDiff,reduceLT,reduceEqDiff,reduceNeg,Nat.reduceBEq]) (by simp -implicitDefEqProofs (disch:=omega) only [go_sem,↓reduceIte,reduceAdd,reduceSub,reduceMul,reduceLeDiff,reduceLT,reduceEqDiff,reduceNeg,Nat.reduceBEq]) ⟨by omega,by omega⟩ ?_
       intro out' g' ho' _
       simp -implicitDefEqProofs (disch:=omega) only [go_sem,↓reduceIte,reduceAdd,reduceSub,reduceMul,reduceLeDiff,reduceLT,reduceEqDiff,reduceNeg,Nat.reduceBEq]
       refine ⟨(k+1,out',g'),⟨by dsimp only; omega,?_⟩,by dsimp only; omega,rfl,?_⟩
       · dsimp only
         rw [aQa hlt,eJ,aG,hkl]
         have e9:[l.getD (l.length - 1 - k) default].flatMap aE=[.i .i64 (l.getD (l.length - 1 - k) default).kind,.i .i64 (l.getD (l.length - 1 - k) default).n,.s (l.getD (l.length - 1 - k) default).text,.s (l.getD (l.length - 1 - k) default).sort,.sl ((l.getD (l.length - 1 - k) default).kids.flatMap aE) (l.getD (l.length - 1 - k) default).kids.length,.sl ((l.getD (l.length - 1 - k) default).rest.flatMap aE) (l.getD (l.length - 1 - k) default).rest.length]:=by rw [dL,jC,List.append_nil,bT]; rfl
         rw [e9]
         exact ho'
       · refine ⟨rfl,?_⟩
         dsimp only
         congr 1
         omega
     · obtain rfl:k=l.length:=by omega
       rw [← hlr,jB] at hout
       rcases hout with ⟨_,_,h3⟩ | ⟨i0,rfl,hi0,hl0⟩
       · omega
       have hx:¬ (0:Int)≤((l.length:Nat):Int) - 1 - ((l.length:Nat):Int):=by omega
       have hql:(l.reverse.flatMap aE).length=l.length * 6:=by rw [nZ,hlr]
       rw [hlr] at hl0
       have htl:List.take (l.length * 6) (l.reverse.flatMap aE)=l.reverse.flatMap aE:=aJ (by omega)
       rcases iC (dZ s l && (gK s && nK s t)) with hc0 | hc0
       · have hcr:(dZ s l.reverse && (gK s && nK s t))=true:=by rw [sZ]; exact hc0
         have hpv:dZ s l.reverse=true:=((aB _ _).mp hcr).1
         obtain ⟨p1,p2,p3⟩:=aGl (t:=t) hpv
         have hbe:(jK s l.reverse).2=0:=by rw [aNi,if_pos hpv]
         have cvl:tT s l t=(fC s t l 0,0):=if_pos hc0
         have cvr:tT s l.reverse t=(fC s t l.reverse 0,0):=if_pos hcr
         rw [cvr] at cr p1 p2
         rw [cvl] at d1
         dsimp only at cr d1 p1 p2
         rw [p1,p2] at cf
         rw [hbe] at cb
         generalize (jK s l.reverse).1=x at *
         generalize (sX s x t).2.1=pn at *
         simp only [elX,dU,avr,avt,avx,ava] at cb cf
         have hCl:=tU (s:=s) (t:=t) (l:=l) (i:=0)
         have hrev:=U5 (s:=s) (t:=t) (l:=l)
         have hRl:(fC s t l.reverse 0).length=(fC s t l 0).length:=by rw [hrev,kN,fM]
         rw [cvl]
         obtain ⟨k1,g1,hg1,k3⟩:=I3 (pre:=[.box false (cB s),.box false [.i .i64 (t).kind,.i .i64 (t).n,.s (t).text,.s (t).sort,.sl ((t).kids.flatMap aE) (t).kids.length,.sl ((t).rest.flatMap aE) (t).rest.length]]) hi0 hl0 iF
         obtain ⟨k4,g2,hg2,k6⟩:=I3 (pre:=[.box false (cB s),.box false [.i .i64 (t).kind,.i .i64 (t).n,.s (t).text,.s (t).sort,.sl ((t).kids.flatMap aE) (t).kids.length,.sl ((t).rest.flatMap aE) (t).rest.length]]) hg1 hl0 iF
         simp only [aU,bJ,aD,aY,cB,avs,avb,avo,cZ,Nat.reduceAdd] at k1 k3 k4 k6
         simp -implicitDefEqProofs (disch:=omega) only [zf hx,hi0,hlr,htl,hql,go_sem,↓reduceIte,reduceAdd,reduceSub,reduceMul,reduceLeDiff,reduceLT,reduceEqDiff,reduceNeg,Nat.reduceBEq]
         refine mY 1 rfl ?_
         rw [k1,k3]
         simp -implicitDefEqProofs (disch:=omega) only [List.set,go_sem,↓reduceIte,reduceAdd,reduceSub,reduceMul,reduceLeDiff,reduceLT,reduceEqDiff,reduceNeg,Nat.reduceBEq]
         (repeat' (first | refine gT ?_ ?_ | refine gF ?_ ?_ | refine gC ?_ ?_ | ((refine bI (cr) ?_ ?_; (focus (simp -implicitDefEqProofs (disch:=omega) only [hlr,zdB,go_sem,↓reduceIte,reduceAdd,reduceSub,reduceMul,reduceLeDiff,reduceLT,reduceEqDiff,reduceNeg,Nat.reduceBEq]; done))); simp -implicitDefEqProofs (disch:=omega) only [hlr,go_sem,↓reduceIte,reduceAdd,reduceSub,reduceMul,reduceLeDiff,reduceLT,reduceEqDiff,reduceNeg,Nat.reduceBEq]) | refine bM (by omega) ?_ | (intro hr; have hc:=hr; (try simp only [zdz] at hc); simp -implicitDefEqProofs (disch:=omega) only [hr,hlr,go_sem,↓reduceIte,reduceAdd,reduceSub,reduceMul,reduceLeDiff,reduceLT,reduceEqDiff,reduceNeg,Nat.reduceBEq]; (try clear hr))))
         refine mY 1 rfl ?_
         rw [k4,k6]
         simp -implicitDefEqProofs (disch:=omega) only [List.set,go_sem,↓reduceIte,reduceAdd,reduceSub,reduceMul,reduceLeDiff,reduceLT,reduceEqDiff,reduceNeg,Nat.reduceBEq]
         have hcm:=fun x (h:x ∈ fC s t l 0)=>U6 h
         have hli:fC s t l.reverse 0=((fC s t l 0).map fun x=>((l.length:Nat):Int) - 1 - x).reverse:=hrev
         clear hrev
         have hlast:=aGh (s:=s) (t:=t) (l:=l.take (l.length - 1)) (p:=l.getD (l.length - 1) default)
         generalize fC s t l.reverse 0=R at *
         have d3:=aMj R R (by omega) (by omega)
         rw [zt rfl] at d3
         have hRi:((fC s t l 0).length:Int)=((R.length:Nat):Int):=by omega
         (repeat' (first | refine gT ?_ ?_ | refine gF ?_ ?_ | refine gC ?_ ?_ | ((first | (refine bI (cb) ?_ ?_; (focus (simp -implicitDefEqProofs (disch:=omega) only [eq_self,decide_true,hRl,zdB,go_sem,↓reduceIte,reduceAdd,reduceSub,reduceMul,reduceLeDiff,reduceLT,reduceEqDiff,reduceNeg,Nat.reduceBEq]; done))) | (refine bI (cf) ?_ ?_; (focus (simp -implicitDefEqProofs (disch:=omega) only [eq_self,decide_true,hRl,zdB,go_sem,↓reduceIte,reduceAdd,reduceSub,reduceMul,reduceLeDiff,reduceLT,reduceEqDiff,reduceNeg,Nat.reduceBEq]; done))) | (refine bI (d3) ?_ ?_; (focus (simp -implicitDefEqProofs (disch:=omega) only [eq_self,decide_true,hRl,zdB,go_sem,↓reduceIte,reduceAdd,reduceSub,reduceMul,reduceLeDiff,reduceLT,reduceEqDiff,reduceNeg,Nat.reduceBEq]; done)))); simp -implicitDefEqProofs (disch:=omega) only [eq_self,decide_true,hRl,go_sem,↓reduceIte,reduceAdd,reduceSub,reduceMul,reduceLeDiff,reduceLT,reduceEqDiff,reduceNeg,Nat.reduceBEq]) | refine bM (by omega) ?_ | (intro hr; have hc:=hr; (try simp only [zdz] at hc); simp -implicitDefEqProofs (disch:=omega) only [hr,eq_self,decide_true,hRl,go_sem,↓reduceIte,reduceAdd,reduceSub,reduceMul,reduceLeDiff,reduceLT,reduceEqDiff,reduceNeg,Nat.reduceBEq]; (try clear hr))))
         refine jW (fun (k:Nat)=>[.k,.k,.k,.k,.k,.k,.j,.k,.k,.k,.k,.k,.k,.k,.k,.k,.k,.k,.j,.k,.k,.k,.k,.k,.k,.k,.k,.k,.k,.k,.k,.k,.k,.k,.k,.k,.k,.k,.k,.k,.k,.k,.k,.k,.k,.k,.k,.k,.k,.k,.k,.k,.k,.k,.k,.k,.k,.k,.k,.k,.k,.k,.k,.k,.k,.k,.k,.k,.k,.k,.k,.k,.k,.k,.k,.k,.k,.k,.k,.k,.k,.k,.k,.k,.k,.k,.k,.k,.k,.k,.k,.k,.k,.k,.k,.k,.k,.k,.k,.k,.k,.k,.k,.k,.k,.k,.k,.k,.k,.k,.k,.k,.k,.k,.k,.k,.v (.i .i64 (k:Nat)),.j,.j,.j,.j,.j,.j,.j,.j,.j,.j,.j,.j,.j,.j,.j,.j,.j,.j,.j,.j,.k,.k,.k,.k,.k,.k,.k,.k,.k,.k,.k,.k,.k,.k,.k,.k,.k,.k,.k,.k,.k,.k,.k,.k,.k,.k,.k,.k,.k,.k,.k,.k,.k,.k,.k,.k,.k,.k,.k,.k,.k,.k,.k,.k,.k,.k,.k,.k,.k,.k,.k]) (fun k=>[.box false (cB s),.box false [.i .i64 (t).kind,.i .i64 (t).n,.s (t).text,.s (t).sort,.sl ((t).kids.flatMap aE) (t).kids.length,.sl ((t).rest.flatMap aE) (t).rest.length]]) (fun k=>k≤(fC s t l 0).length) (fun k=>(fC s t l 0).length - k) (0) _ (aT _) rfl (by simp [iL]) ?_
         rintro k g3 j3 hk3
         by_cases hkt:k < (fC s t l 0).length
         · have hki:(k:Int) < (((fC s t l 0).length:Nat):Int):=by omega
           have hel:=hcm _ (cC (d:=0) hkt)
           have hrv:R.getD ((fC s t l 0).length - 1 - k) 0=((l.length:Nat):Int) - 1 - (fC s t l 0).getD k 0:=by rw [hli]; exact aQb (f:=fun x=>((l.length:Nat):Int) - 1 - x) hkt
           have hj1:((((fC s t l 0).length:Nat):Int) - 1) - ((k:Nat):Int)=(((fC s t l 0).length - 1 - k:Nat):Int):=by omega
           have hzz:(fC s t l 0).getD k 0=((l.length:Nat):Int) - 1 - (((l.length:Nat):Int) - 1 - (fC s t l 0).getD k 0):=by omega
           simp -implicitDefEqProofs (disch:=omega) only [zt hki,hRl,hj1,hrv,zt hzz,go_sem,↓reduceIte,reduceAdd,reduceSub,reduceMul,reduceLeDiff,reduceLT,reduceEqDiff,reduceNeg,Nat.reduceBEq]
           repeat refine bM (by omega) ?_
           exact ⟨k+1,_,by omega,by omega,rfl,by simp⟩
         · have hki:¬ (k:Int) < (((fC s t l 0).length:Nat):Int):=by omega
           have hl9:l.take (l.length - 1)++[l.getD (l.length - 1) default]=l:=by
             have:=jT (l:=l) (k:=l.length - 1) (by omega)
             rw [← this,show l.length - 1+1=l.length by omega,jB]
           have hll:(l.take (l.length - 1)).length=l.length - 1:=by rw [eZ]; omega
           have hpi:dZ s (l.take (l.length - 1))=true:=B5 (p:=l.getD (l.length - 1) default) (by rw [hl9]; exact ((aB _ _).mp hc0).1)
           have ci:=aMk s (l.take (l.length - 1)) t hm hs (by omega) (fun p hp=>ho p (sC hp)) ht
           rw [tT,if_pos (by rw [hpi,((aB _ _).mp hc0).2]; rfl)] at ci
           rw [hl9,hll] at hlast
           have hIl:=tU (s:=s) (t:=t) (l:=l.take (l.length - 1)) (i:=0)
           simp only [aDo,avt,hll] at ci
           generalize fC s t (l.take (l.length - 1)) 0=I at *
           generalize fC s t l 0=C at *
           have d4:=aMj C I (by omega) (by omega)
           have d5:=aMj I I (by omega) (by omega)
           rw [zt rfl] at d5
           rcases hlast with hlast | hlast
           · subst hlast
             by_cases h1l:l.length - 1=0
             · simp only [h1l,kW,jC] at ci
               simp -implicitDefEqProofs (disch:=omega) only [zf hki,h1l,go_sem,↓reduceIte,reduceAdd,reduceSub,reduceMul,reduceLeDiff,reduceLT,reduceEqDiff,reduceNeg,Nat.reduceBEq]
               (repeat' (first | refine gT ?_ ?_ | refine gF ?_ ?_ | refine gC ?_ ?_ | ((first | (refine bI (ci) ?_ ?_; (focus (simp -implicitDefEqProofs (disch:=omega) only [eq_self,decide_true,zdB,go_sem,↓reduceIte,reduceAdd,reduceSub,reduceMul,reduceLeDiff,reduceLT,reduceEqDiff,reduceNeg,Nat.reduceBEq]; done))) | (refine bI (d5) ?_ ?_; (focus (simp -implicitDefEqProofs (disch:=omega) only [eq_self,decide_true,zdB,go_sem,↓reduceIte,reduceAdd,reduceSub,reduceMul,reduceLeDiff,reduceLT,reduceEqDiff,reduceNeg,Nat.reduceBEq]; done))) | (refine bI (ca) ?_ ?_; (focus (simp -implicitDefEqProofs (disch:=omega) only [eq_self,decide_true,zdB,go_sem,↓reduceIte,reduceAdd,reduceSub,reduceMul,reduceLeDiff,reduceLT,reduceEqDiff,reduceNeg,Nat.reduceBEq]; done)))); simp -implicitDefEqProofs (disch:=omega) only [eq_self,decide_true,go_sem,↓reduceIte,reduceAdd,reduceSub,reduceMul,reduceLeDiff,reduceLT,reduceEqDiff,reduceNeg,Nat.reduceBEq]) | refine bM (by omega) ?_ | (intro hr; have hc:=hr; (try simp only [zdz] at hc); simp -implicitDefEqProofs (disch:=omega) only [hr,eq_self,decide_true,go_sem,↓reduceIte,reduceAdd,reduceSub,reduceMul,reduceLeDiff,reduceLT,reduceEqDiff,reduceNeg,Nat.reduceBEq]; (try clear hr))))
               all_goals exact aP rfl rfl
             · obtain ⟨n1,hn1⟩:∃ n1,l.length - 1=n1+1:=⟨l.length - 2,by omega⟩
               rw [hn1] at ci
               simp -implicitDefEqProofs (disch:=omega) only [zf hki,hn1,go_sem,↓reduceIte,reduceAdd,reduceSub,reduceMul,reduceLeDiff,reduceLT,reduceEqDiff,reduceNeg,Nat.reduceBEq]
               refine ⟨by omega,?_⟩
               (repeat' (first | refine gT ?_ ?_ | refine gF ?_ ?_ | refine gC ?_ ?_ | ((first | (refine bI (ci) ?_ ?_; (focus (simp -implicitDefEqProofs (disch:=omega) only [eq_self,decide_true,zdB,go_sem,↓reduceIte,reduceAdd,reduceSub,reduceMul,reduceLeDiff,reduceLT,reduceEqDiff,reduceNeg,Nat.reduceBEq]; done))) | (refine bI (d5) ?_ ?_; (focus (simp -implicitDefEqProofs (disch:=omega) only [eq_self,decide_true,zdB,go_sem,↓reduceIte,reduceAdd,reduceSub,reduceMul,reduceLeDiff,reduceLT,reduceEqDiff,reduceNeg,Nat.reduceBEq]; done))) | (refine bI (ca) ?_ ?_; (focus (simp -implicitDefEqProofs (disch:=omega) only [eq_self,decide_true,zdB,go_sem,↓reduceIte,reduceAdd,reduceSub,reduceMul,reduceLeDiff,reduceLT,reduceEqDiff,reduceNeg,Nat.reduceBEq]; done)))); simp -implicitDefEqProofs (disch:=omega) only [eq_self,decide_true,go_sem,↓reduceIte,reduceAdd,reduceSub,reduceMul,reduceLeDiff,reduceLT,reduceEqDiff,reduceNeg,Nat.reduceBEq]) | refine bM (by omega) ?_ | (intro hr; have hc:=hr; (try simp only [zdz] at hc); simp -implicitDefEqProofs (disch:=omega) only [hr,eq_self,decide_true,go_sem,↓reduceIte,reduceAdd,reduceSub,reduceMul,reduceLeDiff,reduceLT,reduceEqDiff,reduceNeg,Nat.reduceBEq]; (try clear hr))))
               all_goals exact aP rfl rfl
           · have hlC:C.length=I.length+1:=by rw [hlast]; simp
             have hC1:((C.length:Nat):Int)=((I.length:Nat):Int)+1:=by omega
             have hgC:C.getD I.length 0=((l.length:Nat):Int) - 1:=by
               rw [hlast]
               simp [List.getD]
               omega
             have hts:List.take I.length (ints C)=ints I:=by
               rw [hlast,ints,ints,bF,List.take_left' (by simp)]
             have hne:¬ C=I:=fun e=>by rw [e] at hlC; omega
             rw [zf hne] at d4
             by_cases h1l:l.length - 1=0
             · simp only [h1l,kW,jC] at ci
               simp -implicitDefEqProofs (disch:=omega) only [zf hki,h1l,go_sem,↓reduceIte,reduceAdd,reduceSub,reduceMul,reduceLeDiff,reduceLT,reduceEqDiff,reduceNeg,Nat.reduceBEq]
               (repeat' (first | refine gT ?_ ?_ | refine gF ?_ ?_ | refine gC ?_ ?_ | ((first | (refine bI (ci) ?_ ?_; (focus (simp -implicitDefEqProofs (disch:=omega) only [eq_self,decide_true,zt hC1,hC1,hgC,hts,zdB,go_sem,↓reduceIte,reduceAdd,reduceSub,reduceMul,reduceLeDiff,reduceLT,reduceEqDiff,reduceNeg,Nat.reduceBEq]; done))) | (refine bI (d4) ?_ ?_; (focus (simp -implicitDefEqProofs (disch:=omega) only [eq_self,decide_true,zt hC1,hC1,hgC,hts,zdB,go_sem,↓reduceIte,reduceAdd,reduceSub,reduceMul,reduceLeDiff,reduceLT,reduceEqDiff,reduceNeg,Nat.reduceBEq]; done))) | (refine bI (d5) ?_ ?_; (focus (simp -implicitDefEqProofs (disch:=omega) only [eq_self,decide_true,zt hC1,hC1,hgC,hts,zdB,go_sem,↓reduceIte,reduceAdd,reduceSub,reduceMul,reduceLeDiff,reduceLT,reduceEqDiff,reduceNeg,Nat.reduceBEq]; done))) | (refine bI (ca) ?_ ?_; (focus (simp -implicitDefEqProofs (disch:=omega) only [eq_self,decide_true,zt hC1,hC1,hgC,hts,zdB,go_sem,↓reduceIte,reduceAdd,reduceSub,reduceMul,reduceLeDiff,reduceLT,reduceEqDiff,reduceNeg,Nat.reduceBEq]; done)))); simp -implicitDefEqProofs (disch:=omega) only [eq_self,decide_true,zt hC1,hC1,hgC,hts,go_sem,↓reduceIte,reduceAdd,reduceSub,reduceMul,reduceLeDiff,reduceLT,reduceEqDiff,reduceNeg,Nat.reduceBEq]) | refine bM (by omega) ?_ | (intro hr; have hc:=hr; (try simp only [zdz] at hc); simp -implicitDefEqProofs (disch:=omega) only [hr,eq_self,decide_true,zt hC1,hC1,hgC,hts,go_sem,↓reduceIte,reduceAdd,reduceSub,reduceMul,reduceLeDiff,reduceLT,reduceEqDiff,reduceNeg,Nat.reduceBEq]; (try clear hr))))
               all_goals exact aP rfl rfl
             · obtain ⟨n1,hn1⟩:∃ n1,l.length - 1=n1+1:=⟨l.length - 2,by omega⟩
               rw [hn1] at ci
               simp -implicitDefEqProofs (disch:=omega) only [zf hki,hn1,go_sem,↓reduceIte,reduceAdd,reduceSub,reduceMul,reduceLeDiff,reduceLT,reduceEqDiff,reduceNeg,Nat.reduceBEq]
               refine ⟨by omega,?_⟩
               (repeat' (first | refine gT ?_ ?_ | refine gF ?_ ?_ | refine gC ?_ ?_ | ((first | (refine bI (ci) ?_ ?_; (focus (simp -implicitDefEqProofs (disch:=omega) only [eq_self,decide_true,zt hC1,hC1,hgC,hts,zdB,go_sem,↓reduceIte,reduceAdd,reduceSub,reduceMul,reduceLeDiff,reduceLT,reduceEqDiff,reduceNeg,Nat.reduceBEq]; done))) | (refine bI (d4) ?_ ?_; (focus (simp -implicitDefEqProofs (disch:=omega) only [eq_self,decide_true,zt hC1,hC1,hgC,hts,zdB,go_sem,↓reduceIte,reduceAdd,reduceSub,reduceMul,reduceLeDiff,reduceLT,reduceEqDiff,reduceNeg,Nat.reduceBEq]; done))) | (refine bI (d5) ?_ ?_; (focus (simp -implicitDefEqProofs (disch:=omega) only [eq_self,decide_true,zt hC1,hC1,hgC,hts,zdB,go_sem,↓reduceIte,reduceAdd,reduceSub,reduceMul,reduceLeDiff,reduceLT,reduceEqDiff,reduceNeg,Nat.reduceBEq]; done))) | (refine bI (ca) ?_ ?_; (focus (simp -implicitDefEqProofs (disch:=omega) only [eq_self,decide_true,zt hC1,hC1,hgC,hts,zdB,go_sem,↓reduceIte,reduceAdd,reduceSub,reduceMul,reduceLeDiff,reduceLT,reduceEqDiff,reduceNeg,Nat.reduceBEq]; done)))); simp -implicitDefEqProofs (disch:=omega) only [eq_self,decide_true,zt hC1,hC1,hgC,hts,go_sem,↓reduceIte,reduceAdd,reduceSub,reduceMul,reduceLeDiff,reduceLT,reduceEqDiff,reduceNeg,Nat.reduceBEq]) | refine bM (by omega) ?_ | (intro hr; have hc:=hr; (try simp only [zdz] at hc); simp -implicitDefEqProofs (disch:=omega) only [hr,eq_self,decide_true,zt hC1,hC1,hgC,hts,go_sem,↓reduceIte,reduceAdd,reduceSub,reduceMul,reduceLeDiff,reduceLT,reduceEqDiff,reduceNeg,Nat.reduceBEq]; (try clear hr))))
               all_goals exact aP rfl rfl
       · have hcr:(dZ s l.reverse && (gK s && nK s t))=false:=by rw [sZ]; exact hc0
         have cvl:tT s l t=([],2):=if_neg (by rw [hc0]; simp)
         have cvr:tT s l.reverse t=([],2):=if_neg (by rw [hcr]; simp)
         rw [cvr] at cr
         rw [cvl] at d1 ⊢
         dsimp only at cr d1
         generalize (jK s l.reverse)=X at *
         obtain ⟨x,xe⟩:=X
         dsimp only at cb cf
         generalize sX s x t=P at *
         simp only [elX,dU,avr,avt,avx,ava] at cb cf
         obtain ⟨k1,g1,hg1,k3⟩:=I3 (pre:=[.box false (cB s),.box false [.i .i64 (t).kind,.i .i64 (t).n,.s (t).text,.s (t).sort,.sl ((t).kids.flatMap aE) (t).kids.length,.sl ((t).rest.flatMap aE) (t).rest.length]]) hi0 hl0 iF
         obtain ⟨k4,g2,hg2,k6⟩:=I3 (pre:=[.box false (cB s),.box false [.i .i64 (t).kind,.i .i64 (t).n,.s (t).text,.s (t).sort,.sl ((t).kids.flatMap aE) (t).kids.length,.sl ((t).rest.flatMap aE) (t).rest.length]]) hg1 hl0 iF
         simp only [aU,bJ,aD,aY,cB,avs,avb,avo,cZ,Nat.reduceAdd] at k1 k3 k4 k6
         simp -implicitDefEqProofs (disch:=omega) only [zf hx,hi0,hlr,htl,hql,go_sem,↓reduceIte,reduceAdd,reduceSub,reduceMul,reduceLeDiff,reduceLT,reduceEqDiff,reduceNeg,Nat.reduceBEq]
         refine mY 1 rfl ?_
         rw [k1,k3]
         simp -implicitDefEqProofs (disch:=omega) only [List.set,go_sem,↓reduceIte,reduceAdd,reduceSub,reduceMul,reduceLeDiff,reduceLT,reduceEqDiff,reduceNeg,Nat.reduceBEq]
         (repeat' (first | refine gT ?_ ?_ | refine gF ?_ ?_ | refine gC ?_ ?_ | ((refine bI (cr) ?_ ?_; (focus (simp -implicitDefEqProofs (disch:=omega) only [hlr,zdB,go_sem,↓reduceIte,reduceAdd,reduceSub,reduceMul,reduceLeDiff,reduceLT,reduceEqDiff,reduceNeg,Nat.reduceBEq]; done))); simp -implicitDefEqProofs (disch:=omega) only [hlr,go_sem,↓reduceIte,reduceAdd,reduceSub,reduceMul,reduceLeDiff,reduceLT,reduceEqDiff,reduceNeg,Nat.reduceBEq]) | refine bM (by omega) ?_ | (intro hr; have hc:=hr; (try simp only [zdz] at hc); simp -implicitDefEqProofs (disch:=omega) only [hr,hlr,go_sem,↓reduceIte,reduceAdd,reduceSub,reduceMul,reduceLeDiff,reduceLT,reduceEqDiff,reduceNeg,Nat.reduceBEq]; (try clear hr))))
         refine mY 1 rfl ?_
         rw [k4,k6]
         simp -implicitDefEqProofs (disch:=omega) only [List.set,go_sem,↓reduceIte,reduceAdd,reduceSub,reduceMul,reduceLeDiff,reduceLT,reduceEqDiff,reduceNeg,Nat.reduceBEq]
         (repeat' (first | refine gT ?_ ?_ | refine gF ?_ ?_ | refine gC ?_ ?_ | ((first | (refine bI (cb) ?_ ?_; (focus (simp -implicitDefEqProofs (disch:=omega) only [eq_self,decide_true,zdB,go_sem,↓reduceIte,reduceAdd,reduceSub,reduceMul,reduceLeDiff,reduceLT,reduceEqDiff,reduceNeg,Nat.reduceBEq]; done))) | (refine bI (cf) ?_ ?_; (focus (simp -implicitDefEqProofs (disch:=omega) only [eq_self,decide_true,zdB,go_sem,↓reduceIte,reduceAdd,reduceSub,reduceMul,reduceLeDiff,reduceLT,reduceEqDiff,reduceNeg,Nat.reduceBEq]; done))) | (refine bI (ca) ?_ ?_; (focus (simp -implicitDefEqProofs (disch:=omega) only [eq_self,decide_true,zdB,go_sem,↓reduceIte,reduceAdd,reduceSub,reduceMul,reduceLeDiff,reduceLT,reduceEqDiff,reduceNeg,Nat.reduceBEq]; done)))); simp -implicitDefEqProofs (disch:=omega) only [eq_self,decide_true,go_sem,↓reduceIte,reduceAdd,reduceSub,reduceMul,reduceLeDiff,reduceLT,reduceEqDiff,reduceNeg,Nat.reduceBEq]) | refine bM (by omega) ?_ | (intro hr; have hc:=hr; (try simp only [zdz] at hc); simp -implicitDefEqProofs (disch:=omega) only [hr,eq_self,decide_true,go_sem,↓reduceIte,reduceAdd,reduceSub,reduceMul,reduceLeDiff,reduceLT,reduceEqDiff,reduceNeg,Nat.reduceBEq]; (try clear hr))))
         all_goals exact aP rfl rfl
   · rw [h1] at c1
     simp -implicitDefEqProofs (disch:=omega) only [b1,b2,b3,b4,b5,b6,b7,q1,tl1,tl2,hps,gI,aZ,bH,List.append_nil,go_sem,↓reduceIte,reduceAdd,reduceSub,reduceMul,reduceLeDiff,reduceLT,reduceEqDiff,reduceNeg,Nat.reduceBEq]
     (repeat' (first | refine gT ?_ ?_ | refine gF ?_ ?_ | refine gC ?_ ?_ | ((first | (refine bI (c1) ?_ ?_; (focus (simp -implicitDefEqProofs (disch:=omega) only [b1,b2,b3,b4,b5,b6,b7,q1,tl1,tl2,hps,gI,aZ,bH,List.append_nil,zdB,go_sem,↓reduceIte,reduceAdd,reduceSub,reduceMul,reduceLeDiff,reduceLT,reduceEqDiff,reduceNeg,Nat.reduceBEq]; done))) | (refine bI (ca) ?_ ?_; (focus (simp -implicitDefEqProofs (disch:=omega) only [b1,b2,b3,b4,b5,b6,b7,q1,tl1,tl2,hps,gI,aZ,bH,List.append_nil,zdB,go_sem,↓reduceIte,reduceAdd,reduceSub,reduceMul,reduceLeDiff,reduceLT,reduceEqDiff,reduceNeg,Nat.reduceBEq]; done)))); simp -implicitDefEqProofs (disch:=omega) only [b1,b2,b3,b4,b5,b6,b7,q1,tl1,tl2,hps,gI,aZ,bH,List.append_nil,go_sem,↓reduceIte,reduceAdd,reduceSub,reduceMul,reduceLeDiff,reduceLT,reduceEqDiff,reduceNeg,Nat.reduceBEq]) | refine bM (by omega) ?_ | (intro hr; have hc:=hr; (try simp only [zdz] at hc); simp -implicitDefEqProofs (disch:=omega) only [hr,b1,b2,b3,b4,b5,b6,b7,q1,tl1,tl2,hps,gI,aZ,bH,List.append_nil,go_sem,↓reduceIte,reduceAdd,reduceSub,reduceMul,reduceLeDiff,reduceLT,reduceEqDiff,reduceNeg,Nat.reduceBEq]; (try clear hr))))
     all_goals exact aP rfl rfl
end Go.Proofs.YtifefbhllfdmlaaGreatDoor
