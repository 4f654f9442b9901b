/-
  Functions of the chapter, as plain functions of what they are given; no condition.
-/
import Derived.Test.YtdjcggcjlphdoaaGreatDoorVcP51
import Derived.Test.YtdjcggcjlphdoaaGreatDoorVoP62
set_option maxRecDepth 100000
set_option linter.unusedSimpArgs false
set_option linter.unusedVariables false
set_option maxHeartbeats 4000000
namespace Go.Proofs.YtdjcggcjlphdoaaGreatDoor
open Go Go.Vo
open Nat (reduceAdd reduceSub reduceMul reduceLeDiff reduceLT reduceEqDiff)
open Int (reduceNeg)
theorem aHd{u:LSub}{x:Str}:∀k,aHe u x k≤k
 |0=>bT _
 |k+1=>by
  rw[aHe];split
  ·have:=aHd (u:=u) (x:=x) k;omega
  ·exact bT _
theorem L3{pre g:List AObj}{sz n:Nat}{out:AV}{cells:List AV}(ho:gD sz pre.length g out cells n)(hp:persL cells=true):Fin (pre++g) out (.sl cells n):=by
 rcases ho with⟨rfl,rfl,rfl⟩|⟨i,rfl,hi,hl⟩
 ·exact .inr ⟨rfl,by simp[cX],by simp[cX]⟩
 ·refine .inr ⟨?_,by simp[cX],by simp[cX]⟩;show AV.sl cells n=gJ dep (pre++g) (.hs (i+pre.length) 0 n false);have hg:(pre++g)[i+pre.length]? = some (.arr false sz cells):=by
   rw[aN (by omega)];simpa using hi
  have hd:(cells.drop 0).take (n*sz)=cells:=by rw[bA,aS (by omega)]
  simp only[fS,pers,rQ,hg,hd,hp,if_true,aE,if_false];rw[if_pos (by omega)]
theorem aUe{h:List AObj}{id n sz:Nat}{fz:Bool}{cells:List AV}(hi:h[id]? = some (.arr fz sz cells))(hl:cells.length=n*sz)(hp:persL cells=true):Fin h (.hs id 0 n false) (.sl cells n):=by
 refine .inr ⟨?_,by simp[cX],by simp[cX]⟩;show AV.sl cells n=gJ dep h (.hs id 0 n false);have hd:(cells.drop 0).take (n*sz)=cells:=by rw[bA,aS (by omega)]
 simp only[fS,pers,rQ,hi,hd,hp,if_true,aE,if_false];rw[if_pos (by omega)]
theorem aWc{u:LSub}{x:Str}{t:LTerm}{k n:Nat}(hk:k≤u.length)(h:aHe u x u.length=k)(hn:n=u.length+1):avu (Y1 u x t)=.sl ((u.take k).flatMap prT++(.s x::(tmC t)++(u.drop k).flatMap prT)) n:=by
 rw[avu,Y1,h,List.flatMap_append,List.flatMap_cons,prT,aI,List.length_append,bB,bS,eJ];subst hn;simp only[avt,aH,aJ];congr 1;omega
theorem bSc(u:LSub)(x:Str)(t:LTerm)(hu:u.length≤1000000000): CT 72 [avu u,.s x,elT t] (avu (Y1 u x t)):=by
 refine gX (rx:=true) (th:=fun i=>if i=4 then some ⟨none,[],true,false,false,[],[],0⟩else none) cI Tryz.func72 g0 ?_
 ·generalize hR:((avu (Y1 u x t)):AV)=R;simp -implicitDefEqProofs (disch:=omega) only[Tryz.f72,go_sem,List.replicate,↓reduceIte,reduceAdd,reduceSub,reduceMul,reduceLeDiff,reduceLT,reduceEqDiff,reduceNeg,Nat.reduceBEq,avu];refine cO (fun(k:Nat)=>(rp 7 .k (.v (.i .i64 (k:Nat))::.k::.k::(rp 14 .j (rp 14 .k []))))) (fun k=>[.box false (tmC t)]) (fun k=>k≤u.length∧aHe u x k=aHe u x u.length) (fun k=>k) (u.length) ⟨bT _,rfl⟩ rfl (by simp[fO]) ?_;rintro k j ⟨hk,he⟩;have b1:(k*112≤140737488355328)=True:=eq_true (by omega);have b2:(k≤140737488355328)=True:=eq_true (by omega);have b3:((k+1)*112≤140737488355328)=True:=eq_true (by omega);have b4:(k+1≤140737488355328)=True:=eq_true (by omega);by_cases h0:(0:Int)<((k:Nat):Int)
  ·have hw:IntKind.i64.wrap (((k:Nat):Int)-1)=((k-1:Nat):Int):=by rw[wrap64 (by omega) (by omega)];omega
   simp -implicitDefEqProofs (disch:=omega) only[zt h0,hw,go_sem,↓reduceIte,reduceAdd,reduceSub,reduceMul,reduceLeDiff,reduceLT,reduceEqDiff,reduceNeg,Nat.reduceBEq];(repeat'(first|refine gT ?_ ?_|refine gF ?_ ?_|refine gC ?_ ?_|refine aU (by omega) ?_|(intro hr;have hc:=hr;(try simp only[zdz]at hc);simp -implicitDefEqProofs (disch:=omega) only[hr,zt h0,hw,go_sem,↓reduceIte,reduceAdd,reduceSub,reduceMul,reduceLeDiff,reduceLT,reduceEqDiff,reduceNeg,Nat.reduceBEq];(try clear hr))))
   ·refine⟨k-1,⟨by omega,?_⟩,by omega,rfl⟩;obtain⟨k',rfl⟩:∃k',k=k'+1:=⟨k-1,by omega⟩;rw[← he,F6,aHe,if_pos];rw[gtS];rw[F6]at hc;rw[hc];rfl
   ·have hm:aHe u x u.length=k:=by
     obtain⟨k',rfl⟩:∃k',k=k'+1:=⟨k-1,by omega⟩;rw[← he,aHe,if_neg];rw[gtS];rw[F6]at hc;rw[hc];simp
    have b5:u.length*7-k*7=(u.length-k)*7:=by omega
    have b6:((k+1)*7≤k*7+7)=True:=eq_true (by omega);have b7:((k+1)*7=k*7+7)=True:=eq_true (by omega);have b8:k+1+(u.length-k)=u.length+1:=by omega
    have b9:((u.length+1)*112≤140737488355328)=True:=eq_true (by omega);have b10:(u.length+1≤140737488355328)=True:=eq_true (by omega);simp -implicitDefEqProofs (disch:=omega) only[b1,b2,b3,b4,mL,dV,eO,List.append_nil,aGn,b5,b6,b7,b8,b9,b10,go_sem,↓reduceIte,reduceAdd,reduceSub,reduceMul,reduceLeDiff,reduceLT,reduceEqDiff,reduceNeg,Nat.reduceBEq];(repeat'(first|refine gT ?_ ?_|refine gF ?_ ?_|refine gC ?_ ?_|refine aU (by omega) ?_|(intro hr;have hc:=hr;(try simp only[zdz]at hc);simp -implicitDefEqProofs (disch:=omega) only[hr,b1,b2,b3,b4,mL,dV,eO,List.append_nil,aGn,b5,b6,b7,b8,b9,b10,go_sem,↓reduceIte,reduceAdd,reduceSub,reduceMul,reduceLeDiff,reduceLT,reduceEqDiff,reduceNeg,Nat.reduceBEq];(try clear hr))));subst hR;rw[aWc (n:=u.length+1) hk hm rfl];exact aUe rfl (by simp only[bB,List.length_append,fQ,bS,eJ,cH];omega) (by simp[persL,pers,nI,jG,eW,avt])
  ·obtain rfl:k=0:=by omega
   simp -implicitDefEqProofs (disch:=omega) only[zf h0,b1,b2,b3,b4,mL,Int.lt_irrefl,decide_false,Bool.and_false,bK,List.flatMap_nil,go_sem,↓reduceIte,reduceAdd,reduceSub,reduceMul,reduceLeDiff,reduceLT,reduceEqDiff,reduceNeg,Nat.reduceBEq];(repeat'(first|refine gT ?_ ?_|refine gF ?_ ?_|refine gC ?_ ?_|refine aU (by omega) ?_|(intro hr;have hc:=hr;(try simp only[zdz]at hc);simp -implicitDefEqProofs (disch:=omega) only[hr,zf h0,b1,b2,b3,b4,mL,Int.lt_irrefl,decide_false,Bool.and_false,bK,List.flatMap_nil,go_sem,↓reduceIte,reduceAdd,reduceSub,reduceMul,reduceLeDiff,reduceLT,reduceEqDiff,reduceNeg,Nat.reduceBEq];(try clear hr))));subst hR;rw[aWc (k:=0) (n:=1+u.length) (aR _) (by rw[← he];rfl) (by omega)];exact aUe rfl (by simp only[bB,List.length_append,bK,List.flatMap_nil,bA,fQ,aJ];simp;omega) (by simp[persL,pers,nI,jG,eW,avt])
theorem bSb(l:List LTerm)(i:Nat)(hl:l.length≤1000000)(hi:i+2≤l.length): CT 209 [avt l,.i .i64 (i:Nat)] (avt (T6 l i)):=by
 refine gX (rx:=true) (th:=fun _=>none) cI Tryz.func209 g0 ?_
 ·generalize hR:((avt (T6 l i)):AV)=R;simp -implicitDefEqProofs (disch:=omega) only[Tryz.f209,go_sem,List.replicate,↓reduceIte,reduceAdd,reduceSub,reduceMul,reduceLeDiff,reduceLT,reduceEqDiff,reduceNeg,Nat.reduceBEq,avt];have hw:IntKind.i64.wrap (((i:Nat):Int)+2)=((i+2:Nat):Int):=by rw[wrap64 (by omega) (by omega)];omega
  have b1:(i*96≤140737488355328)=True:=eq_true (by omega);have b2:(i≤140737488355328)=True:=eq_true (by omega);have b3:(i≤l.length)=True:=eq_true (by omega);have b5:((i:Int)+2).toNat=i+2:=by omega
  have b6:(i+2≤l.length)=True:=eq_true (by omega);have b7:l.length*6-(i+2)*6=(l.length-(i+2))*6:=by omega
  have hd:List.drop ((i+2)*6) (l.flatMap aM)=(l.drop (i+2)).flatMap aM:=xC;have b8:i+(l.length-(i+2))=l.length-2:=by omega
  have b9:((l.length-2)*96≤140737488355328)=True:=eq_true (by omega);have b10:(l.length-2≤140737488355328)=True:=eq_true (by omega);simp only[b1,b2,b3,b5,b6,b7,hd,true_and];simp -implicitDefEqProofs (disch:=omega) only[eW,b8,b9,b10,go_sem,↓reduceIte,reduceAdd,reduceSub,reduceMul,reduceLeDiff,reduceLT,reduceEqDiff,reduceNeg,Nat.reduceBEq];subst hR;have e:avt (T6 l i)=.sl ((l.take i).flatMap aM++(l.drop (i+2)).flatMap aM) (l.length-2):=by
   rw[avt,T6,List.flatMap_append,List.length_append,bS,eJ];congr 1;omega
  rw[e];exact aUe rfl (by simp only[List.length_append,rN,bS,eJ];omega) (by simp[nI,eW])
theorem aMk:∀{l:List AV},persL l=true→l.all aKw=true
 | [],_=>rfl
 |a::l,h=>by
  rw[persL,aB]at h;rw[fJ,aMk h.2,Bool.and_true];cases a<;>first|rfl|exact h.1
theorem jX{pre g:List AObj}{sz n:Nat}{out:AV}{cells:List AV}(ho:gD sz pre.length g out cells n)(hp:persL cells=true) :
 gJ dep (pre++g) out=.sl cells n∧∃g',g'.length=g.length∧Vo.freeze (eB dep (pre++g) out) (pre++g)=pre++g':=by
 rcases ho with⟨rfl,rfl,rfl⟩|⟨i,rfl,hi,hl⟩
 ·exact⟨rfl,g,rfl,by rw[uR rfl];rfl⟩
 ·have hlt:=bH hi;have hg:(pre++g)[i+pre.length]? = some (.arr false sz cells):=by
   rw[aN (by omega)];simpa using hi
  have hd:(cells.drop 0).take (n*sz)=cells:=by rw[bA,aS (by omega)]
  refine⟨?_,g.modify i AObj.fz,by simp,?_⟩
  ·simp only[fS,pers,rQ,hg,hd,hp,if_true,aE,if_false];rw[if_pos (by omega)]
  ·rw[E6,hg];simp only[hsQ,aMk hp,if_true,Vo.freeze];apply oK;intro j;by_cases hj:j<pre.length
   ·rw[fW,aG hj,aG hj];have:¬i+pre.length=j:=by omega
    simp[this]
   ·rw[fW,aN (by omega),aN (by omega),fW];have:(i+pre.length=j)=(i=j-pre.length):=propext ⟨fun h=>by omega,fun h=>by omega⟩;simp only[this]
abbrev MK(s:dF)(r:MR):AV→List AObj→Prop:=fun v h'=>gJ dep h' v=avw r.1∧∃z,Vo.freeze (eB dep h' v) h'=[.box false [.sl (s.sorts.map .s) s.sorts.length,.sl (s.below.flatMap bZ) s.below.length,.sl (s.ops.flatMap bG) s.ops.length,.sl (s.funs.flatMap bG) s.funs.length,.sl (s.values.map .s) s.values.length,.b (r.2)]]++z
theorem pU{s:dF}{r:MR}{g:List AObj}{out:AV}(ho:gD 1 1 g out (r.1.map avu) r.1.length):MK s r out (.box false [.sl (s.sorts.map .s) s.sorts.length,.sl (s.below.flatMap bZ) s.below.length,.sl (s.ops.flatMap bG) s.ops.length,.sl (s.funs.flatMap bG) s.funs.length,.sl (s.values.map .s) s.values.length,.b (r.2)]::g):=by
 obtain⟨k1,g',_,k3⟩:=jX (pre:=[.box false [.sl (s.sorts.map .s) s.sorts.length,.sl (s.below.flatMap bZ) s.below.length,.sl (s.ops.flatMap bG) s.ops.length,.sl (s.funs.flatMap bG) s.funs.length,.sl (s.values.map .s) s.values.length,.b (r.2)]]) ho iW;exact⟨k1,g',k3⟩
theorem vX{s:dF}{r:MR}{g:List AObj}:MK s r (avw r.1) (.box false [.sl (s.sorts.map .s) s.sorts.length,.sl (s.below.flatMap bZ) s.below.length,.sl (s.ops.flatMap bG) s.ops.length,.sl (s.funs.flatMap bG) s.funs.length,.sl (s.values.map .s) s.values.length,.b (r.2)]::g):=
 ⟨by rw[fS,if_pos (gS r.1)],g,by rw[tO,if_pos (gS r.1)];rfl⟩
def yW(s:dF)(t:LTerm):Prop:=ofR s t=(jU s t,true)∧existsA s (jU s t)=true
theorem aQn{s:dF}{t:LTerm}(h:t.kind=7∨t.kind=8):yW s t:=by
 rcases h with h|h
 ·simp only[yW,jU,ofR,h,Int.reduceEq,if_true,if_false,true_and];exact mF (by decide)
 ·simp only[yW,jU,ofR,h,Int.reduceEq,if_true,if_false,true_and];exact mF (by decide)
theorem aQm{s:dF}{t:LTerm}(hv:fM s=true)(h:fN s t=true):yW s t:=R5 hv (aNl h) (by rw[fN,aB]at h;exact h.2)
theorem bLy(s:dF)(t:LTerm)(x:Str)(hm:Small s)(hs:OkS s)(hq:yW s t): CT 194 [.agg (bX s),elT t,.s x] (.b (mP s (jU s t) x)):=by
 refine aZ cI Tryz.func194 g0 ?_
 ·skip;obtain⟨q1,q2⟩:=hq;(repeat'(first|refine gT ?_ ?_|refine gF ?_ ?_|refine gC ?_ ?_|((first|(refine bM (aLi s t hs) ?_ ?_;(focus(simp -implicitDefEqProofs (disch:=omega) only[q1,zdB,go_sem,↓reduceIte,reduceAdd,reduceSub,reduceMul,reduceLeDiff,reduceLT,reduceEqDiff,reduceNeg,Nat.reduceBEq];done)))|(refine bM (bBk s (jU s t) x hm) ?_ ?_;(focus(simp -implicitDefEqProofs (disch:=omega) only[q1,zdB,go_sem,↓reduceIte,reduceAdd,reduceSub,reduceMul,reduceLeDiff,reduceLT,reduceEqDiff,reduceNeg,Nat.reduceBEq];done))));simp -implicitDefEqProofs (disch:=omega) only[q1,go_sem,↓reduceIte,reduceAdd,reduceSub,reduceMul,reduceLeDiff,reduceLT,reduceEqDiff,reduceNeg,Nat.reduceBEq])|refine aU (by omega) ?_|(intro hr;have hc:=hr;(try simp only[zdz]at hc);simp -implicitDefEqProofs (disch:=omega) only[hr,q1,go_sem,↓reduceIte,reduceAdd,reduceSub,reduceMul,reduceLeDiff,reduceLT,reduceEqDiff,reduceNeg,Nat.reduceBEq];(try clear hr))));all_goals exact aV (by rw[E5 q2]) rfl
def OkU(m:Nat)(u:LSub):Prop:=u.length≤m∧∀p∈u,OkT p.2
theorem aKc{m:Nat}{u:LSub}{x:Str}{t:LTerm}(h:OkU m u)(e:mOf u x=some t):OkT t:=by
 rw[mOf,dA]at e;obtain⟨p,hp,rfl⟩:=e;exact h.2 p (lH hp)
theorem bZu(s:dF)(b:Bool)(v t:LTerm)(u:LSub)(m:Nat)(hm:Small s)(hs:OkS s)(hu:OkU m u)(hmm:m≤1000000)(ht:OkT t)(hq:yW s t): ACalls Tryz.prog G0 175 [.ptr 0 0,elT v,elT t,avu u] [.box false [.sl (s.sorts.map .s) s.sorts.length,.sl (s.below.flatMap bZ) s.below.length,.sl (s.ops.flatMap bG) s.ops.length,.sl (s.funs.flatMap bG) s.funs.length,.sl (s.values.map .s) s.values.length,.b (b)]] (MK s (kG s v t u,b)):=by
 refine gL (rx:=false) (th:=fun _=>none) cI Tryz.func175 ?_
 ·simp -implicitDefEqProofs (disch:=omega) only[Tryz.f175,go_sem,List.replicate,↓reduceIte,reduceAdd,reduceSub,reduceMul,reduceLeDiff,reduceLT,reduceEqDiff,reduceNeg,Nat.reduceBEq,avu];have hul:=hu.1;have c1:=bLy s t v.sort hm hs hq;have c2:=bFq u v.text (by omega);have c4:=bSc u v.text t (by omega);simp only[avu]at c2 c4;by_cases ha:mP s (jU s t) v.sort=true
  ·rw[ha]at c1
   cases ho:mOf u v.text with
   |some o=>
    rw[ho,sX,elT,aI]at c2;have c3:=U6 o t (aKc hu ho) ht;(repeat'(first|refine gT ?_ ?_|refine gF ?_ ?_|refine gC ?_ ?_|((first|(refine bM (c1) ?_ ?_;(focus(simp -implicitDefEqProofs (disch:=omega) only[zdB,go_sem,↓reduceIte,reduceAdd,reduceSub,reduceMul,reduceLeDiff,reduceLT,reduceEqDiff,reduceNeg,Nat.reduceBEq];done)))|(refine bM (c2) ?_ ?_;(focus(simp -implicitDefEqProofs (disch:=omega) only[zdB,go_sem,↓reduceIte,reduceAdd,reduceSub,reduceMul,reduceLeDiff,reduceLT,reduceEqDiff,reduceNeg,Nat.reduceBEq];done)))|(refine bM (c3) ?_ ?_;(focus(simp -implicitDefEqProofs (disch:=omega) only[zdB,go_sem,↓reduceIte,reduceAdd,reduceSub,reduceMul,reduceLeDiff,reduceLT,reduceEqDiff,reduceNeg,Nat.reduceBEq];done))));simp -implicitDefEqProofs (disch:=omega) only[go_sem,↓reduceIte,reduceAdd,reduceSub,reduceMul,reduceLeDiff,reduceLT,reduceEqDiff,reduceNeg,Nat.reduceBEq])|refine aU (by omega) ?_|(intro hr;have hc:=hr;(try simp only[zdz]at hc);simp -implicitDefEqProofs (disch:=omega) only[hr,go_sem,↓reduceIte,reduceAdd,reduceSub,reduceMul,reduceLeDiff,reduceLT,reduceEqDiff,reduceNeg,Nat.reduceBEq];(try clear hr))))
    ·rw[show kG s v t u=[u] by rw[kG,if_pos ha,if_pos hc]];exact pU (.inr ⟨_,rfl,rfl,rfl⟩)
    ·rename_i h9;rw[show kG s v t u=[] by rw[kG,if_pos ha,if_neg h9,ho];exact if_neg hc];exact pU eX
    ·rename_i h9;rw[show kG s v t u=[u] by rw[kG,if_pos ha,if_neg h9,ho];exact if_pos hc];exact pU (.inr ⟨_,rfl,rfl,rfl⟩)
   |none=>
    rw[ho,sX,elT,aI]at c2;(repeat'(first|refine gT ?_ ?_|refine gF ?_ ?_|refine gC ?_ ?_|((first|(refine bM (c1) ?_ ?_;(focus(simp -implicitDefEqProofs (disch:=omega) only[zdB,go_sem,↓reduceIte,reduceAdd,reduceSub,reduceMul,reduceLeDiff,reduceLT,reduceEqDiff,reduceNeg,Nat.reduceBEq];done)))|(refine bM (c2) ?_ ?_;(focus(simp -implicitDefEqProofs (disch:=omega) only[zdB,go_sem,↓reduceIte,reduceAdd,reduceSub,reduceMul,reduceLeDiff,reduceLT,reduceEqDiff,reduceNeg,Nat.reduceBEq];done)))|(refine bM (c4) ?_ ?_;(focus(simp -implicitDefEqProofs (disch:=omega) only[zdB,go_sem,↓reduceIte,reduceAdd,reduceSub,reduceMul,reduceLeDiff,reduceLT,reduceEqDiff,reduceNeg,Nat.reduceBEq];done))));simp -implicitDefEqProofs (disch:=omega) only[go_sem,↓reduceIte,reduceAdd,reduceSub,reduceMul,reduceLeDiff,reduceLT,reduceEqDiff,reduceNeg,Nat.reduceBEq])|refine aU (by omega) ?_|(intro hr;have hc:=hr;(try simp only[zdz]at hc);simp -implicitDefEqProofs (disch:=omega) only[hr,go_sem,↓reduceIte,reduceAdd,reduceSub,reduceMul,reduceLeDiff,reduceLT,reduceEqDiff,reduceNeg,Nat.reduceBEq];(try clear hr))))
    ·rw[show kG s v t u=[u] by rw[kG,if_pos ha,if_pos hc]];exact pU (.inr ⟨_,rfl,rfl,rfl⟩)
    ·rw[show kG s v t u=[Y1 u v.text t] by rw[kG,if_pos ha,if_neg hc,ho]];exact pU (.inr ⟨_,rfl,rfl,rfl⟩)
  ·rw[cT.2 ha]at c1;(repeat'(first|refine gT ?_ ?_|refine gF ?_ ?_|refine gC ?_ ?_|((refine bM (c1) ?_ ?_;(focus(simp -implicitDefEqProofs (disch:=omega) only[zdB,go_sem,↓reduceIte,reduceAdd,reduceSub,reduceMul,reduceLeDiff,reduceLT,reduceEqDiff,reduceNeg,Nat.reduceBEq];done)));simp -implicitDefEqProofs (disch:=omega) only[go_sem,↓reduceIte,reduceAdd,reduceSub,reduceMul,reduceLeDiff,reduceLT,reduceEqDiff,reduceNeg,Nat.reduceBEq])|refine aU (by omega) ?_|(intro hr;have hc:=hr;(try simp only[zdz]at hc);simp -implicitDefEqProofs (disch:=omega) only[hr,go_sem,↓reduceIte,reduceAdd,reduceSub,reduceMul,reduceLeDiff,reduceLT,reduceEqDiff,reduceNeg,Nat.reduceBEq];(try clear hr))));rw[show kG s v t u=[] by rw[kG,if_neg ha]];exact pU eX
theorem wH{s:dF}{b:Bool}:AObj.persO (.box false [.sl (s.sorts.map .s) s.sorts.length,.sl (s.below.flatMap bZ) s.below.length,.sl (s.ops.flatMap bG) s.ops.length,.sl (s.funs.flatMap bG) s.funs.length,.sl (s.values.map .s) s.values.length,.b (b)])=true:=by
 simp only[AObj.persO,persL,pers,jW,jR,E8,dW]
theorem bKc(s:dF)(b:Bool)(v t:LTerm)(u:LSub)(m:Nat)(hm:Small s)(hs:OkS s)(hu:OkU m u)(hmm:m≤1000000)(ht:OkT t)(hq:yW s t) :
 ACalls Tryz.prog G0 175 [.ptr 0 0,elT v,elT t,avu u] [.box false [.sl (s.sorts.map .s) s.sorts.length,.sl (s.below.flatMap bZ) s.below.length,.sl (s.ops.flatMap bG) s.ops.length,.sl (s.funs.flatMap bG) s.funs.length,.sl (s.values.map .s) s.values.length,.b (b)]] (fun r h'=>r=avw (kG s v t u)∧h'=[.box false [.sl (s.sorts.map .s) s.sorts.length,.sl (s.below.flatMap bZ) s.below.length,.sl (s.ops.flatMap bG) s.ops.length,.sl (s.funs.flatMap bG) s.funs.length,.sl (s.values.map .s) s.values.length,.b (b)]]):=
 jI g0 (bZu s b v t u m hm hs hu hmm ht hq) (gS _) (by rw[fJ,wH];rfl) (bT _)
theorem bWn(s:dF)(b:Bool)(l:List LSub)(hl:l.length≤1000000): ACalls Tryz.prog G0 176 [.ptr 0 0,avw l] [.box false [.sl (s.sorts.map .s) s.sorts.length,.sl (s.below.flatMap bZ) s.below.length,.sl (s.ops.flatMap bG) s.ops.length,.sl (s.funs.flatMap bG) s.funs.length,.sl (s.values.map .s) s.values.length,.b (b)]] (MK s (pH b l)):=by
 refine gL (rx:=false) (th:=fun _=>none) cI Tryz.func176 ?_
 ·simp -implicitDefEqProofs (disch:=omega) only[Tryz.f176,go_sem,List.replicate,↓reduceIte,reduceAdd,reduceSub,reduceMul,reduceLeDiff,reduceLT,reduceEqDiff,reduceNeg,Nat.reduceBEq,avw];(repeat'(first|refine gT ?_ ?_|refine gF ?_ ?_|refine gC ?_ ?_|refine aU (by omega) ?_|(intro hr;have hc:=hr;(try simp only[zdz]at hc);simp -implicitDefEqProofs (disch:=omega) only[hr,go_sem,↓reduceIte,reduceAdd,reduceSub,reduceMul,reduceLeDiff,reduceLT,reduceEqDiff,reduceNeg,Nat.reduceBEq];(try clear hr))))
  ·rw[show pH b l=([],true) by rw[pH,if_pos (by omega)]];exact pU eX
  ·rw[show pH b l=(l,b) by rw[pH,if_neg (by omega)]];exact vX
theorem bKb(s:dF)(b:Bool)(l:List LSub)(hl:l.length≤1000000) :
 ACalls Tryz.prog G0 176 [.ptr 0 0,avw l] [.box false [.sl (s.sorts.map .s) s.sorts.length,.sl (s.below.flatMap bZ) s.below.length,.sl (s.ops.flatMap bG) s.ops.length,.sl (s.funs.flatMap bG) s.funs.length,.sl (s.values.map .s) s.values.length,.b (b)]] (fun r h'=>r=avw (pH b l).1∧h'=[.box false [.sl (s.sorts.map .s) s.sorts.length,.sl (s.below.flatMap bZ) s.below.length,.sl (s.ops.flatMap bG) s.ops.length,.sl (s.funs.flatMap bG) s.funs.length,.sl (s.values.map .s) s.values.length,.b ((pH b l).2)]]):=
 jI g0 (bWn s b l hl) (gS _) (by rw[fJ,wH];rfl) (bT _)
def tD(m:Nat)(l:List LSub):Prop:=∀u∈l,OkU m u
theorem yN{s:dF}{v t:LTerm}{u:LSub}:(kG s v t u).length≤1:=by
 rw[kG];split
 ·split
  ·simp
  ·split
   ·split<;>simp
   ·simp
 ·simp
theorem aUm{s:dF}{p t:LTerm}{u:LSub}:(gZ s p t u).length≤1:=by
 rw[gZ];split
 ·exact yN
 ·split<;>simp
theorem nM{s:dF}{p t:LTerm}:∀{l:List LSub},(l.flatMap (gZ s p t)).length≤l.length
 | []=>by simp
 |u::l=>by
  have h1:=aUm (s:=s) (p:=p) (t:=t) (u:=u);have h2:=nM (s:=s) (p:=p) (t:=t) (l:=l);rw[List.flatMap_cons,List.length_append,bB];omega
theorem lW{α β:Type}{f:α→List β}{l:List α}{k:Nat}{d:α}(h:k<l.length):(l.take (k+1)).flatMap f=(l.take k).flatMap f++f (l.getD k d):=by
 have:l.take (k+1)=l.take k++[l.getD k d]:=by
  rw[List.take_add_one,bQ h,eY,bQ h];rfl
 rw[this,List.flatMap_append];simp
theorem bNz{l:List LSub}{k:Nat}(h:k<l.length):(l.map avu)[k]? = some (avu (l.getD k default)):=by
 rw[eL,bQ h,eY,bQ h];rfl
attribute [go_sem] bNz iW cZ
theorem uU{s:dF}{b:Bool}:persL [.sl (s.sorts.map .s) s.sorts.length,.sl (s.below.flatMap bZ) s.below.length,.sl (s.ops.flatMap bG) s.ops.length,.sl (s.funs.flatMap bG) s.funs.length,.sl (s.values.map .s) s.values.length,.b b]=true:=by
 simp only[persL,pers,jW,jR,E8,dW]
theorem aLn{s:dF}{b b':Bool}{f:FuncId}{A A0:List AV}{r:AV}{d:Option Nat}{os:List fK}{K:List AV→List AObj→Prop}{env:List AV}{h:List AObj}(c:ACalls Tryz.prog G0 f A0 [.box false [.sl (s.sorts.map .s) s.sorts.length,.sl (s.below.flatMap bZ) s.below.length,.sl (s.ops.flatMap bG) s.ops.length,.sl (s.funs.flatMap bG) s.funs.length,.sl (s.values.map .s) s.values.length,.b (b)]] (fun r0 h1=>r0=r∧h1=[.box false [.sl (s.sorts.map .s) s.sorts.length,.sl (s.below.flatMap bZ) s.below.length,.sl (s.ops.flatMap bG) s.ops.length,.sl (s.funs.flatMap bG) s.funs.length,.sl (s.values.map .s) s.values.length,.b (b')]]))(hr:pers r=true)(hA:A=renL (emb [0] (.box false [.sl (s.sorts.map .s) s.sorts.length,.sl (s.below.flatMap bZ) s.below.length,.sl (s.ops.flatMap bG) s.ops.length,.sl (s.funs.flatMap bG) s.funs.length,.sl (s.values.map .s) s.values.length,.b (b)]::h).length) A0)
 (k:dE Tryz.prog (pl G0) none os K (hJ env d r) (.box false [.sl (s.sorts.map .s) s.sorts.length,.sl (s.below.flatMap bZ) s.below.length,.sl (s.ops.flatMap bG) s.ops.length,.sl (s.funs.flatMap bG) s.funs.length,.sl (s.values.map .s) s.values.length,.b (b')]::h)):wQ Tryz.prog (pl G0) none f A d os K env (.box false [.sl (s.sorts.map .s) s.sorts.length,.sl (s.below.flatMap bZ) s.below.length,.sl (s.ops.flatMap bG) s.ops.length,.sl (s.funs.flatMap bG) s.funs.length,.sl (s.values.map .s) s.values.length,.b (b)]::h):=by
 refine jC (rF 0 g0 c uU uU hr rfl hA) ?_;rintro r' h' ⟨rfl,rfl⟩;exact k
theorem bYv(s:dF)(b:Bool)(p t:LTerm)(l:List LSub)(m:Nat)(hm:Small s)(hs:OkS s)(hl:l.length≤1000)(hu:tD m l)(hmm:m≤1000000)(op:OkT p)(ht:OkT t)(hq:yW s t): ACalls Tryz.prog G0 106 [.ptr 0 0,elT p,elT t,avw l] [.box false [.sl (s.sorts.map .s) s.sorts.length,.sl (s.below.flatMap bZ) s.below.length,.sl (s.ops.flatMap bG) s.ops.length,.sl (s.funs.flatMap bG) s.funs.length,.sl (s.values.map .s) s.values.length,.b (b)]] (MK s (D6 s p t l b)):=by
 refine gL (rx:=false) (th:=fun _=>none) cI Tryz.func106 ?_
 ·simp -implicitDefEqProofs (disch:=omega) only[Tryz.f106,go_sem,List.replicate,↓reduceIte,reduceAdd,reduceSub,reduceMul,reduceLeDiff,reduceLT,reduceEqDiff,reduceNeg,Nat.reduceBEq,avw];refine cO (fun(q:Nat×AV×List AObj)=>(rp 9 .k (.v (q.2.1)::.k::.j::.k::.k::.v (.i .i64 (q.1:Nat))::(rp 21 .j [.k,.k,.k])))) (fun q=>(.box false [.sl (s.sorts.map .s) s.sorts.length,.sl (s.below.flatMap bZ) s.below.length,.sl (s.ops.flatMap bG) s.ops.length,.sl (s.funs.flatMap bG) s.funs.length,.sl (s.values.map .s) s.values.length,.b (b)]::.box false (tmC p)::.box false (tmC t)::q.2.2)) (fun q=>q.1≤l.length∧gD 1 3 q.2.2 q.2.1 (((l.take q.1).flatMap (gZ s p t)).map avu) ((l.take q.1).flatMap (gZ s p t)).length) (fun q=>l.length-q.1) ((0,.e0,[])) ⟨aR _,eX⟩ rfl (by simp[fO]) ?_;rintro⟨k,out,g⟩ j ⟨hk,ho⟩;dsimp only at hk ho;by_cases hlt:k<l.length
  ·have hki:(k:Int)<((l.length:Nat):Int):=by omega
   have hmm':=cC (d:=default) hlt;have hbl:=yN (s:=s) (v:=p) (t:=t) (u:=l.getD k default);have hfl:=nM (s:=s) (p:=p) (t:=t) (l:=l.take k);rw[bS]at hfl;have hsucc:=lW (f:=gZ s p t) (d:=default) hlt;have cb:=bKc s b p t (l.getD k default) m hm hs (hu _ hmm') hmm ht hq;have c3:=U6 p t op ht;by_cases h6:p.kind=6
   ·have e1:gZ s p t (l.getD k default)=kG s p t (l.getD k default):=by rw[gZ,if_pos h6]
    simp -implicitDefEqProofs (disch:=omega) only[zt hki,zt h6,go_sem,↓reduceIte,reduceAdd,reduceSub,reduceMul,reduceLeDiff,reduceLT,reduceEqDiff,reduceNeg,Nat.reduceBEq];(repeat'(first|refine gT ?_ ?_|refine gF ?_ ?_|refine gC ?_ ?_|refine aU (by omega) ?_|(intro hr;have hc:=hr;(try simp only[zdz]at hc);simp -implicitDefEqProofs (disch:=omega) only[hr,zt hki,zt h6,go_sem,↓reduceIte,reduceAdd,reduceSub,reduceMul,reduceLeDiff,reduceLT,reduceEqDiff,reduceNeg,Nat.reduceBEq];(try clear hr))));refine aLn cb (gS _) (by simp only[elT,avu,renL,ren,aI,avt,renL_pers _ _ jG,renL_pers _ _ eW,mY]) ?_;simp -implicitDefEqProofs (disch:=omega) only[avw,go_sem,↓reduceIte,reduceAdd,reduceSub,reduceMul,reduceLeDiff,reduceLT,reduceEqDiff,reduceNeg,Nat.reduceBEq];refine eI (more:=[]) (pre:=[.box false [.sl (s.sorts.map .s) s.sorts.length,.sl (s.below.flatMap bZ) s.below.length,.sl (s.ops.flatMap bG) s.ops.length,.sl (s.funs.flatMap bG) s.funs.length,.sl (s.values.map .s) s.values.length,.b (b)],.box false (tmC p),.box false (tmC t)]) (news:=(kG s p t (l.getD k default)).map avu) (m:=(kG s p t (l.getD k default)).length) ho rfl (by simp) bBg aXo aYa bCq rfl (by decide) (by simp -implicitDefEqProofs (disch:=omega) only[go_sem,↓reduceIte,reduceAdd,reduceSub,reduceMul,reduceLeDiff,reduceLT,reduceEqDiff,reduceNeg,Nat.reduceBEq]) (by simp -implicitDefEqProofs (disch:=omega) only[go_sem,↓reduceIte,reduceAdd,reduceSub,reduceMul,reduceLeDiff,reduceLT,reduceEqDiff,reduceNeg,Nat.reduceBEq]) ⟨by omega,by omega⟩ ?_;intro out' g' ho' _;simp -implicitDefEqProofs (disch:=omega) only[go_sem,↓reduceIte,reduceAdd,reduceSub,reduceMul,reduceLeDiff,reduceLT,reduceEqDiff,reduceNeg,Nat.reduceBEq];refine⟨(k+1,out',g'),⟨by dsimp only;omega,?_⟩,by dsimp only;omega,rfl,by simp⟩;dsimp only;rw[hsucc,e1,bO,List.length_append];exact ho'
   ·simp -implicitDefEqProofs (disch:=omega) only[zt hki,zf h6,avu,go_sem,↓reduceIte,reduceAdd,reduceSub,reduceMul,reduceLeDiff,reduceLT,reduceEqDiff,reduceNeg,Nat.reduceBEq];(repeat'(first|refine gT ?_ ?_|refine gF ?_ ?_|refine gC ?_ ?_|((refine bM (c3) ?_ ?_;(focus(simp -implicitDefEqProofs (disch:=omega) only[zt hki,zf h6,avu,zdB,go_sem,↓reduceIte,reduceAdd,reduceSub,reduceMul,reduceLeDiff,reduceLT,reduceEqDiff,reduceNeg,Nat.reduceBEq];done)));simp -implicitDefEqProofs (disch:=omega) only[zt hki,zf h6,avu,go_sem,↓reduceIte,reduceAdd,reduceSub,reduceMul,reduceLeDiff,reduceLT,reduceEqDiff,reduceNeg,Nat.reduceBEq])|refine aU (by omega) ?_|(intro hr;have hc:=hr;(try simp only[zdz]at hc);simp -implicitDefEqProofs (disch:=omega) only[hr,zt hki,zf h6,avu,go_sem,↓reduceIte,reduceAdd,reduceSub,reduceMul,reduceLeDiff,reduceLT,reduceEqDiff,reduceNeg,Nat.reduceBEq];(try clear hr))))
    ·have e1:gZ s p t (l.getD k default)=[l.getD k default]:=by rw[gZ,if_neg h6,if_pos hc]
     refine eI (pre:=[_,_,_]) (news:=[.sl ((l.getD k default).flatMap prT) (l.getD k default).length]) (m:=1) ho rfl rfl bBg aXo aYa bCq rfl (by decide) (by simp -implicitDefEqProofs (disch:=omega) only[go_sem,↓reduceIte,reduceAdd,reduceSub,reduceMul,reduceLeDiff,reduceLT,reduceEqDiff,reduceNeg,Nat.reduceBEq]) (by simp -implicitDefEqProofs (disch:=omega) only[go_sem,↓reduceIte,reduceAdd,reduceSub,reduceMul,reduceLeDiff,reduceLT,reduceEqDiff,reduceNeg,Nat.reduceBEq]) ⟨by omega,by omega⟩ ?_;intro out' g' ho' _;simp -implicitDefEqProofs (disch:=omega) only[go_sem,↓reduceIte,reduceAdd,reduceSub,reduceMul,reduceLeDiff,reduceLT,reduceEqDiff,reduceNeg,Nat.reduceBEq];refine⟨(k+1,out',g'),⟨by dsimp only;omega,?_⟩,by dsimp only;omega,rfl,by simp⟩;dsimp only;rw[hsucc,e1,bO,List.length_append];exact ho'
    ·have e1:gZ s p t (l.getD k default)=[]:=by rw[gZ,if_neg h6,if_neg hc]
     refine⟨(k+1,out,g),⟨by dsimp only;omega,?_⟩,by dsimp only;omega,rfl,by simp⟩;dsimp only;rw[hsucc,e1,List.append_nil];exact ho
  ·have hki:¬(k:Int)<((l.length:Nat):Int):=by omega
   rw[aS (by omega)]at ho;have hfl:=nM (s:=s) (p:=p) (t:=t) (l:=l);have ct:=bKb s b (l.flatMap (gZ s p t)) (by omega);simp -implicitDefEqProofs (disch:=omega) only[zf hki,go_sem,↓reduceIte,reduceAdd,reduceSub,reduceMul,reduceLeDiff,reduceLT,reduceEqDiff,reduceNeg,Nat.reduceBEq];obtain⟨k1,g',k2,k3⟩:=jX (pre:=[.box false [.sl (s.sorts.map .s) s.sorts.length,.sl (s.below.flatMap bZ) s.below.length,.sl (s.ops.flatMap bG) s.ops.length,.sl (s.funs.flatMap bG) s.funs.length,.sl (s.values.map .s) s.values.length,.b (b)],.box false (tmC p),.box false (tmC t)]) ho iW;refine U9 1 rfl ?_;simp only[aH,aJ]at k1 k3;rw[k1,k3];refine aLn ct (gS _) (by simp only[List.set,avw,renL,ren,renL_pers _ _ iW,mY]) ?_;simp -implicitDefEqProofs (disch:=omega) only[go_sem,↓reduceIte,reduceAdd,reduceSub,reduceMul,reduceLeDiff,reduceLT,reduceEqDiff,reduceNeg,Nat.reduceBEq];exact vX
theorem OkU.mono{m m':Nat}{u:LSub}(h:OkU m u)(hm:m≤m'):OkU m' u:=⟨hZ h.1 hm,h.2⟩
theorem tD.mono{m m':Nat}{l:List LSub}(h:tD m l)(hm:m≤m'):tD m' l:=fun u hu=>(h u hu).mono hm
theorem bVh{m:Nat}{u:LSub}{x:Str}{t:LTerm}(h:OkU m u)(ht:OkT t):OkU (m+1) (Y1 u x t):=by
 have hp:=aHd (u:=u) (x:=x) u.length;have h1:=h.1;refine⟨by rw[Y1,List.length_append,bB,bS,eJ];omega,fun p hp=>?_⟩;rw[Y1]at hp;rcases cJ.1 hp with hp|hp
 ·exact h.2 p (dS hp)
 ·rcases dD.1 hp with rfl|hp
  ·exact ht
  ·exact h.2 p (iM hp)
theorem aAm{s:dF}{m:Nat}{v t:LTerm}{u:LSub}(h:OkU m u)(ht:OkT t):tD (m+1) (kG s v t u):=by
 intro u' hu';rw[kG]at hu';split at hu'
 ·split at hu'
  ·rw[bJ.1 hu'];exact h.mono (by omega)
  ·split at hu'
   ·split at hu'
    ·rw[bJ.1 hu'];exact h.mono (by omega)
    ·cases hu'
   ·rw[bJ.1 hu'];exact bVh h ht
 ·cases hu'
theorem aPu{m:Nat}{l:List LSub}{b:Bool}(h:tD m l):tD m (pH b l).1∧(pH b l).1.length≤1000:=by
 rw[pH];split
 ·exact⟨fun u hu=>(by cases hu),by simp⟩
 ·exact⟨h,by dsimp only;omega⟩
theorem aUl{s:dF}{m:Nat}{p t:LTerm}{l:List LSub}{b:Bool}(h:tD m l)(ht:OkT t):tD (m+1) (D6 s p t l b).1∧(D6 s p t l b).1.length≤1000:=by
 refine aPu (fun u' hu'=>?_);obtain⟨u,hu,h2⟩:=iO.1 hu';rw[gZ]at h2;split at h2
 ·exact aAm (h u hu) ht u' h2
 ·split at h2
  ·rw[bJ.1 h2];exact(h u hu).mono (by omega)
  ·cases h2
theorem J5{k:Int}{ks:List LTerm}(h:∀t∈ks,OkT t)(hl:ks.length≤1466015503701):OkT (.mk k 0 [] [] ks []):=
 .mk (by simp[LTerm.text]) (by simp[LTerm.sort]) (by simp[LTerm.n]) (by simp[LTerm.n]) hl (by simp[LTerm.rest]) h (fun k hk=>by cases hk)
def OkN(t:LTerm):Prop:=OkT t∧wfT dQ t=true
theorem OkN.kid{t k:LTerm}(h:OkN t)(hk:k∈t.kids):OkN k:=⟨h.1.kid k hk,(nF.1 h.2).2 k hk⟩
theorem OkN.even{t:LTerm}(h:OkN t)(h8:t.kind=8):t.kids.length % 2=0:=by
 have e:=(nF.1 h.2).1;rw[dQ]at e;simp only[h8,(by decide:¬(8:Int)=1),(by decide:¬(8:Int)=2),(by decide:¬(8:Int)=3),(by decide:¬(8:Int)=4),(by decide:¬(8:Int)=5),(by decide:¬(8:Int)=6),(by decide:¬(8:Int)=7),if_false,if_true,aB,decide_eq_true_eq]at e;exact e.1.2
def AOk(A:LTerm→LTerm→List LSub→Bool→MR)(p:LTerm):Prop:=
 ∀(t:LTerm) (l:List LSub) (b:Bool) (m:Nat),OkN t→tD m l→l.length≤1000→tD (m+nodesT p) (A p t l b).1∧(A p t l b).1.length≤1000
theorem xI{A:LTerm→LTerm→List LSub→Bool→MR}:∀{ps ts:List LTerm} {l:List LSub} {b:Bool} {m:Nat},(∀p∈ps,AOk A p)→(∀t∈ts,OkN t)→tD m l→l.length≤1000→tD (m+nodesL ps) (jH A ps ts l b).1∧(jH A ps ts l b).1.length≤1000
 |p::ps,t::ts,l,b,m,hA,ht,hl,h1=>by
  obtain⟨a,c⟩:=hA p (by simp) t l b m (ht t (by simp)) hl h1;rw[jH,nodesL,← eE];exact xI (fun q hq=>hA q (by simp[hq])) (fun q hq=>ht q (by simp[hq])) a c
 | [],ts,l,b,m,_,_,hl,h1=>by
   have e:jH A [] ts l b=(l,b):=by cases ts<;>rfl
   rw[e];exact⟨hl.mono (by omega),h1⟩
 |p::ps,[],l,b,m,_,_,hl,h1=>⟨hl.mono (by omega),h1⟩
structure OkW(t:LTerm)(m:Nat)(w:jV):Prop where
 u:OkU m w.u
 even:w.left.length % 2=0
 sub:∀x∈w.left,x∈t.kids
 len:w.left.length≤t.kids.length
def aIk(t:LTerm)(m:Nat)(l:List jV):Prop:=∀w∈l,OkW t m w
theorem OkW.mono{t:LTerm}{m m':Nat}{w:jV}(h:OkW t m w)(hm:m≤m'):OkW t m' w:=⟨h.u.mono hm,h.even,h.sub,h.len⟩
theorem aIk.mono{t:LTerm}{m m':Nat}{l:List jV}(h:aIk t m l)(hm:m≤m'):aIk t m' l:=fun w hw=>(h w hw).mono hm
theorem bQz{l:List LTerm}{i:Nat}(h:i+2≤l.length):(T6 l i).length=l.length-2∧∀x∈T6 l i,x∈l:=by
 refine⟨by rw[T6,List.length_append,bS,eJ];omega,fun x hx=>?_⟩;rcases cJ.1 hx with h|h
 ·exact dS h
 ·exact iM h
theorem W1{s:dF}{t key:LTerm}{w:jV}{k m:Nat}(h:OkW t m w)(ht:OkN t)(hk:2*k<w.left.length):tD (m+1) (mO s key w k)∧(mO s key w k).length≤1:=by
 rw[mO];split
 ·exact⟨aAm h.u (ht.kid (h.sub _ (cC hk))).1,yN⟩
 ·split
  ·exact⟨fun u hu=>by rw[bJ.1 hu];exact h.u.mono (by omega),by simp⟩
  ·exact⟨fun u hu=>(by cases hu),by simp⟩
section
variable {A:LTerm→LTerm→List LSub→Bool→MR} {s:dF} {t key value:LTerm} {m:Nat}
theorem aUk{w:jV}{k:Nat}{b:Bool}(hA:AOk A value)(h:OkW t m w)(ht:OkN t)(hk:2*k+1<w.left.length):aIk t (m+1+nodesT value) (xQ A s key value w k b).1∧(xQ A s key value w k b).1.length≤1000:=by
 obtain⟨s1,s2⟩:=W1 (s:=s) (key:=key) h ht (k:=k) (by omega);obtain⟨a1,a2⟩:=hA (w.left.getD (2*k+1) default) (mO s key w k) b (m+1) (ht.kid (h.sub _ (cC hk))) s1 (by omega);obtain⟨c1,c2⟩:=bQz (l:=w.left) (i:=2*k) (by omega);have he:=h.even;have hl:=h.len;refine⟨fun w' hw'=>?_,by rw[xQ,cZ];exact a2⟩;obtain⟨u,hu,rfl⟩:=dP.1 hw';exact⟨a1 u hu,by dsimp only;omega,fun x hx=>h.sub x (c2 x hx),by dsimp only;omega⟩
theorem Z7{w:jV}(hA:AOk A value)(h:OkW t m w)(ht:OkN t):∀(k:Nat) (b:Bool),2*k≤w.left.length→aIk t (m+1+nodesT value) (mC A s key value w k b).1∧(mC A s key value w k b).1.length≤k*1000
 |0,b,_=>⟨fun w hw=>(by cases hw),by simp[mC]⟩
 |k+1,b,hk=>by
  obtain⟨a1,a2⟩:=Z7 hA h ht k b (by omega);obtain⟨c1,c2⟩:=aUk (s:=s) (key:=key) (b:=(mC A s key value w k b).2) hA h ht (k:=k) (by omega);rw[mC];refine⟨fun w' hw'=>?_,by dsimp only;rw[List.length_append];omega⟩;rcases cJ.1 hw' with h1|h1
  ·exact a1 w' h1
  ·exact c1 w' h1
theorem aHs(hA:AOk A value)(ht:OkN t):∀(ws:List jV) (b:Bool),aIk t m ws→aIk t (m+1+nodesT value) (lE A s key value ws b).1∧(lE A s key value ws b).1.length≤ws.length*(t.kids.length*1000)
 | [],b,_=>⟨fun w hw=>(by cases hw),by simp[lE]⟩
 |w :: ws,b,h=>by
  have hw:=h w (by simp);obtain⟨a1,a2⟩:=Z7 (s:=s) (key:=key) hA hw ht (w.left.length / 2) b (by omega);obtain⟨c1,c2⟩:=aHs hA ht ws (mC A s key value w (w.left.length / 2) b).2 (fun w' hw'=>h w' (by simp[hw']));have hl:=hw.len;rw[lE];refine⟨fun w' hw'=>?_,by
   dsimp only;rw[List.length_append,bB,aIl];have:w.left.length / 2*1000≤t.kids.length*1000:=cL _ (by omega);omega⟩
  rcases cJ.1 hw' with h1|h1
  ·exact a1 w' h1
  ·exact c1 w' h1
theorem Z6{ws:List jV}{b:Bool}(hA:AOk A value)(ht:OkN t)(h:aIk t m ws):aIk t (m+1+nodesT value) (nJ A s key value ws b).1∧(nJ A s key value ws b).1.length≤1000:=by
 rw[nJ];split
 ·exact⟨fun w hw=>(by cases hw),by simp⟩
 ·exact⟨(aHs hA ht ws b h).1,by omega⟩
end
theorem uX{l:List LTerm}{k:Nat}(h:2*k+1<l.length):nodesL (l.take (2*(k+1)))=nodesL (l.take (2*k))+nodesT (l.getD (2*k) default)+nodesT (l.getD (2*k+1) default):=by
 rw[show 2*(k+1)=2*k+1+1 by omega,mU h,mU (by omega)]
theorem aGb{A:LTerm→LTerm→List LSub→Bool→MR}{s:dF}{p t:LTerm}{m:Nat}(hA:∀q∈p.kids,AOk A q)(ht:OkN t){ws:List jV}{b:Bool}(h:aIk t m ws)(h1:ws.length≤1000):∀k,2*k≤p.kids.length→aIk t (m+nodesL (p.kids.take (2*k))) (lX A s p k (ws,b)).1∧(lX A s p k (ws,b)).1.length≤1000
 |0,_=>⟨by rw[lX];exact h.mono (by omega),h1⟩
 |k+1,hk=>by
  obtain⟨a1,a2⟩:=aGb hA ht h h1 k (by omega);have e:=uX (l:=p.kids) (k:=k) (by omega);have hn:1≤nodesT (p.kids.getD (2*k) default):=by rw[gA];omega
  obtain⟨c1,c2⟩:=Z6 (s:=s) (key:=p.kids.getD (2*k) default) (b:=(lX A s p k (ws,b)).2) (hA _ (cC (d:=default) (k:=2*k+1) (by omega))) ht a1;rw[lX];exact⟨c1.mono (by omega),c2⟩
theorem aXy{A:LTerm→LTerm→List LSub→Bool→MR}{s:dF}{p t:LTerm}{m:Nat}(hA:∀q∈p.kids,AOk A q)(ht:OkN t)(he:t.kids.length % 2=0){l:List LSub}{b:Bool}(h:tD m l)(h1:l.length≤1000):tD (m+nodesL p.kids+1) (lK A s p t l b).1∧(lK A s p t l b).1.length≤1000:=by
 have hw:aIk t m (l.map (jV.mk · t.kids)):=fun w hw=>by
  obtain⟨u,hu,rfl⟩:=dP.1 hw;exact⟨h u hu,he,fun x hx=>hx,bT _⟩
 obtain⟨a1,a2⟩:=aGb (A:=A) (s:=s) (p:=p) (b:=b) hA ht hw (by rw[cZ];exact h1) (p.kids.length / 2) (by omega);have hn:=iC (l:=p.kids) (k:=2*(p.kids.length / 2));rw[lK];refine aPu (fun u' hu'=>?_);obtain⟨w,hw,h2⟩:=iO.1 hu';have hw:=a1 w hw;rw[sY]at h2;split at h2
 ·exact(aAm hw.u (J5 (fun x hx=>(ht.kid (hw.sub x hx)).1) (hZ hw.len ht.1.kids))).mono (by omega) u' h2
 ·split at h2
  ·rw[bJ.1 h2];exact hw.u.mono (by omega)
  ·cases h2
theorem mQ{s:dF}:∀(n:Nat) (p:LTerm),AOk (dX s n) p
 |0,p=>fun t l b m _ _ _=>⟨fun u hu=>(by cases hu),by simp[dX]⟩
 |n + 1,p=>fun t l b m ht hl h1=>by
  have hA:∀q∈p.kids,AOk (dX s n) q:=fun q _=>mQ n q;have e:=gA p;have none:tD (m+nodesT p) (([],b):MR).1∧(([],b):MR).1.length≤1000:=⟨fun u hu=>(by cases hu),by simp⟩;rw[dX];split
  ·split
   ·obtain⟨a,c⟩:=xI (b:=b) hA (fun t' h=>ht.kid h) hl h1;exact⟨a.mono (by omega),c⟩
   ·exact none
  split
  ·split
   ·obtain⟨a,c⟩:=xI (b:=b) hA (fun t' h=>ht.kid (dS h)) hl h1 (ts:=t.kids.take p.kids.length);split
    ·obtain⟨a2,c2⟩:=aUl (s:=s) (p:=p.rest.getD 0 default) (t:=.mk 7 0 [] [] (t.kids.drop p.kids.length) []) (b:=(jH (dX s n) p.kids (t.kids.take p.kids.length) l b).2) a (J5 (fun x hx=>(ht.kid (iM hx)).1) (by rw[eJ];have:=ht.1.kids;omega));exact⟨a2.mono (by omega),c2⟩
    ·exact⟨a.mono (by omega),c⟩
   ·exact none
  split
  ·split
   ·rename_i h8;obtain⟨a,c⟩:=aXy (s:=s) (b:=b) hA ht (ht.even h8) hl h1;exact⟨a.mono (by omega),c⟩
   ·exact none
  obtain⟨a,c⟩:=aUl (s:=s) (p:=p) (b:=b) hl ht.1;exact⟨a.mono (by omega),c⟩
end Go.Proofs.YtdjcggcjlphdoaaGreatDoor
