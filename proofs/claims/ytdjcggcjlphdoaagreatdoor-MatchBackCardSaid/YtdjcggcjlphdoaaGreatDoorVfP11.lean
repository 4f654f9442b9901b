/-
  Functions of the chapter, as plain functions of what they are given; no condition.
-/
import Derived.Test.YtdjcggcjlphdoaaGreatDoorVoP16
import Derived.Test.YtdjcggcjlphdoaaGreatDoorTeP11
import Derived.Test.YtdjcggcjlphdoaaGreatDoorSoP12
import Derived.Test.YtdjcggcjlphdoaaGreatDoorVoP18
import Derived.Shelf.SlIter.Collect
import Derived.Shelf.RegionOpen
import Derived.TacticsInMore
import Derived.LoopIn
import Derived.WalkKit
import Derived.OwnWalk
import Derived.Test.YtdjcggcjlphdoaaGreatDoorTeP12
import Derived.Test.YtdjcggcjlphdoaaGreatDoorTeP13
import Derived.Test.YtdjcggcjlphdoaaGreatDoorVoP26
import Derived.Test.YtdjcggcjlphdoaaGreatDoorVdP17
import Derived.Test.YtdjcggcjlphdoaaGreatDoorVeP14
import Derived.Test.YtdjcggcjlphdoaaGreatDoorVdP14
set_option maxRecDepth 100000
set_option linter.unusedSimpArgs false
set_option linter.unusedVariables false
set_option maxHeartbeats 4000000
namespace Go.Vo
section
variable {α:Type} {R:α→α→Prop}
theorem A8{l:List α}(h:l.Pairwise R)(k:Nat):(l.take k).Pairwise R:=h.sublist (List.take_sublist _ _)
theorem A9{l:List α}(h:l.Pairwise R)(k:Nat):(l.drop k).Pairwise R:=h.sublist (List.drop_sublist _ _)
theorem bCd{X Y Z1 Z2:List α}{s e:Nat}(h1:Z1.Perm (X.take s++Y.take e))(h2:Z2.Perm (X.drop s++Y.drop e))(p1:Z1.Pairwise R)(p2:Z2.Pairwise R)(hc:∀a∈X.take s++Y.take e,∀b∈X.drop s++Y.drop e,R a b) :
 (Z1++Z2).Perm (X++Y)∧(Z1++Z2).Pairwise R:=by
 refine⟨?_,eC.2 ⟨p1,p2,fun a ha b hb=>hc a (h1.mem_iff.1 ha) b (h2.mem_iff.1 hb)⟩⟩;refine(h1.append h2).trans ?_;have e1:X++Y=X.take s++(X.drop s++(Y.take e++Y.drop e)):=by rw[cI,← bU,cI]
 rw[e1,bU];refine wQ _ ?_;rw[← bU,← bU];exact List.Perm.append_right _ List.perm_append_comm
variable [Inhabited α]
theorem zF{a b:List α}{i:Nat}(h:i<a.length):(a++b).getD i default=a.getD i default:=by
 simp[List.getD,aG h]
theorem lJ{a b:List α}{i:Nat}:(a++b).getD (a.length+i) default=b.getD i default:=by
 simp[List.getD,aR]
theorem Y2{l:List α}{i:Nat}(h:i<l.length):l.getD i default∈l:=by
 simp[List.getD,bL h]
theorem aWv{l:List α}{i:Nat}(h:i<l.length):l=l.take i++l.getD i default::l.drop (i+1):=by
 have e:l.getD i default=l[i]:=by simp[List.getD,bL h]
 rw[e,← eA h,cI]
theorem bDf{l:List α}(h:l.Pairwise R):∀z∈l,z=l.getD 0 default∨R (l.getD 0 default) z:=by
 cases l with
 |nil=>intro z hz;cases hz
 |cons a l=>
  intro z hz;rcases cH.1 hz with rfl|hz
  ·exact .inl rfl
  ·exact .inr ((gH.1 h).1 z hz)
theorem aUj{l:List α}(h:l.Pairwise R):∀z∈l,z=l.getD (l.length-1) default∨R z (l.getD (l.length-1) default):=by
 intro z hz;have hl:0<l.length:=iI hz;have e:=aWv (l:=l) (i:=l.length-1) (by omega);rw[show l.length-1+1=l.length by omega,List.drop_length]at e;generalize l.getD (l.length-1) default=y at *
 rw[e]at hz h;rcases bM.1 hz with hz|hz
 ·exact .inr ((eC.1 h).2.2 z hz y cQ)
 ·rw[aV]at hz;exact .inl hz
theorem H5(tr:∀a b c,R a b→R b c→R a c){A B:List α}(hA:A.Pairwise R)(hB:B.Pairwise R)(h:0<A.length→0<B.length→R (A.getD (A.length-1) default) (B.getD 0 default)):∀a∈A,∀b∈B,R a b:=by
 intro a ha b hb;have h0:=h (iI ha) (iI hb);have h1:R a (B.getD 0 default):=by
  rcases aUj hA a ha with rfl|h1
  ·exact h0
  ·exact tr _ _ _ h1 h0
 rcases bDf hB b hb with rfl|h2
 ·exact h1
 ·exact tr _ _ _ h1 h2
theorem aJk{l:List α}{i k:Nat}(h:i<k):(l.take k).getD i default=l.getD i default:=by
 simp[List.getD,dY,h]
theorem aJl{l:List α}{i k:Nat}:(l.drop k).getD i default=l.getD (k+i) default:=by
 simp[List.getD,eL]
theorem bIu(tr:∀a b c,R a b→R b c→R a c){Y:List α}{x:α}{i:Nat}(hY:Y.Pairwise R)(hi:i≤Y.length)(h1:0<i→R (Y.getD (i-1) default) x)(h2:i<Y.length→R x (Y.getD i default)):(Y.take i++x::Y.drop i).Pairwise R:=by
 have hl:(Y.take i).length=i:=by rw[List.length_take];omega
 have hd:(Y.drop i).length=Y.length-i:=dI;have c1:∀a∈Y.take i,R a x:=fun a ha=>H5 tr (A:=Y.take i) (B:=[x]) (A8 hY i) (aCh _ _) (fun p _=>by
  rw[hl]at p ⊢;rw[aJk (by omega)];exact h1 p) a ha x cQ
 have c2:∀b∈Y.drop i,R x b:=fun b hb=>H5 tr (A:=[x]) (B:=Y.drop i) (aCh _ _) (A9 hY i) (fun _ p=>by
  rw[hd]at p;rw[aJl];exact h2 (by omega)) x cQ b hb
 refine eC.2 ⟨A8 hY i,gH.2 ⟨c2,A9 hY i⟩,fun a ha b hb=>?_⟩;rcases cH.1 hb with rfl|hb
 ·exact c1 a ha
 ·exact tr _ _ _ (c1 a ha) (c2 b hb)
theorem bMg(tr:∀a b c,R a b→R b c→R a c){X Y:List α}(hX:X.Pairwise R)(hY:Y.Pairwise R){s e:Nat}(hs:s≤X.length)(he:e≤Y.length)(h1:0<s→e<Y.length→R (X.getD (s-1) default) (Y.getD e default))(h2:0<e→s<X.length→R (Y.getD (e-1) default) (X.getD s default)) :
 ∀a∈X.take s++Y.take e,∀b∈X.drop s++Y.drop e,R a b:=by
 have cX:∀a∈X.take s,∀b∈X.drop s,R a b:=by
  have:=hX;rw[← cI s X]at this;exact(eC.1 this).2.2
 have cY:∀a∈Y.take e,∀b∈Y.drop e,R a b:=by
  have:=hY;rw[← cI e Y]at this;exact(eC.1 this).2.2
 have hl:(X.take s).length=s:=by rw[List.length_take];omega
 have hl2:(Y.take e).length=e:=by rw[List.length_take];omega
 have hd:(X.drop s).length=X.length-s:=dI;have hd2:(Y.drop e).length=Y.length-e:=dI;have c1:=H5 tr (A8 hX s) (A9 hY e) (fun p q=>by rw[hl]at p ⊢;rw[hd2]at q;rw[aJk (by omega),aJl];exact h1 p (by omega));have c2:=H5 tr (A8 hY e) (A9 hX s) (fun p q=>by rw[hl2]at p ⊢;rw[hd]at q;rw[aJk (by omega),aJl];exact h2 p (by omega));intro a ha b hb;rcases bM.1 ha with ha|ha<;>rcases bM.1 hb with hb|hb
 ·exact cX a ha b hb
 ·exact c1 a ha b hb
 ·exact c2 a ha b hb
 ·exact cY a ha b hb
end
end Go.Vo
namespace Go.Proofs.YtdjcggcjlphdoaaGreatDoor
open Go Go.Vo
open Nat (reduceAdd reduceSub reduceMul reduceLeDiff reduceLT reduceEqDiff)
open Int (reduceNeg)
abbrev EN:=LTerm×List LTerm
abbrev TE:=EN×Nat
abbrev ce(e:TE):AV:=.sl (aP e.1.1++e.1.2.flatMap aP) (e.1.2.length+1)
theorem zR{d:List TE}{j:Nat}(h:j<d.length):(d.map ce)[j]? = some (ce (d.getD j default)):=by
 simp[List.getD,bL h]
theorem mV{x:Int}{n:Nat}(h:x=n)(hn:n≤9000000000000000000):IntKind.i64.wrap x=(n:Int):=by
 subst h;rw[wrap64 (by omega) (by omega)]
def sw(d:List TE)(i j:Nat):List TE:=(d.set i (d.getD j default)).set j (d.getD i default)
theorem bCe{d:List TE}{i j:Nat}(hi:i<d.length)(hj:j<d.length):List.take j (List.map ce (List.take i d)++ce (d.getD j default)::List.map ce (List.drop (i+1) d))++ce (d.getD i default)::List.drop (j+1) (List.map ce (List.take i d)++ce (d.getD j default)::List.map ce (List.drop (i+1) d))=(sw d i j).map ce:=by
 have e:List.map ce (List.take i d)++ce (d.getD j default)::List.map ce (List.drop (i+1) d)=(d.set i (d.getD j default)).map ce:=by
  rw[sQ,if_pos hi,cG,aK]
 have f:∀(L:List AV) (x:AV),j<L.length→L.take j++x::L.drop (j+1)=L.set j x:=fun L x h=>by rw[sQ,if_pos h]
 rw[e,f _ _ (by rw[dP,List.length_set];exact hj),sw,List.map_set,List.map_set,List.map_set]
theorem aLa{X Y Z:List TE}{a b:TE}{i j:Nat}(hi:i=X.length)(hj:j=X.length+1+Y.length):sw (X++a::(Y++b::Z)) i j=X++b::(Y++a::Z):=by
 subst hi hj;have e1:(X++a::(Y++b::Z)).getD X.length default=a:=by simp[List.getD]
 have e2:(X++a::(Y++b::Z)).getD (X.length+1+Y.length) default=b:=by
  rw[show X.length+1+Y.length=X.length+(Y.length+1) by omega,lJ,dE,show Y.length=Y.length+0 by omega,lJ];rfl
 rw[sw,e1,e2,jU _ _ (bK _),wO,iF,jU _ _ (by omega),show X.length+1+Y.length-X.length=Y.length+1 by omega,iG,jU _ _ (bK _),wO,iF]
theorem aTe{d:List TE}{i j:Nat}:sw d i j=sw d j i:=by
 by_cases h:i=j
 ·subst h;rfl
 ·rw[sw,sw,List.set_comm _ _ h]
theorem J9{l:List TE}{k:Nat}(h:k<l.length):l.take (k+1)=l.take k++[l.getD k default]:=by
 have e:l.getD k default=l[k]:=by simp[List.getD,bL h]
 rw[e,List.take_append_getElem h]
theorem P5{l:List TE}{k:Nat}(h:k<l.length):l.drop k=l.getD k default::l.drop (k+1):=by
 have e:l.getD k default=l[k]:=by simp[List.getD,bL h]
 rw[e,eA h]
theorem bWy(P A M B S:List TE)(N:Nat)(cv:AV)(hN:(P++A++M++B++S).length=N)(hB:N≤1000000)(hAB:A.length=B.length): ACalls Tryz.prog G0 281 [.hs 0 0 N false,.i .i64 (P.length:Nat),.i .i64 (P.length+A.length+M.length:Nat),.i .i64 (A.length:Nat),cv] [.arr false 1 ((P++A++M++B++S).map ce)] (fun r h'=>r=.tup []∧h'=[.arr false 1 ((P++B++M++A++S).map ce)]):=by
 refine eJ (rx:=true) (th:=fun i=>if i=3 then some ⟨none,[0],false,false,false,[],[],0⟩else none) cZ Tryz.func281 ?_
 ·simp -implicitDefEqProofs (disch:=omega) only[Tryz.f281,go_sem,List.replicate,simprocAttr];refine dF (fun(q:Nat×List TE)=>(rp 10 .k (.v (.i .i64 (q.1:Nat))::(rp 27 .j [])))) (fun q=>[.arr false 1 (q.2.map ce)]) (fun q=>q.1≤A.length∧q.2=P++(B.take q.1++A.drop q.1)++M++(A.take q.1++B.drop q.1)++S) (fun q=>A.length-q.1) ((0,P++A++M++B++S)) ⟨bJ _,by simp⟩ (by simp[avs,avb,avi,avo,eU]) (by simp[hZ]) ?_;rintro⟨k,D⟩ j ⟨hk,hD⟩;dsimp only at hk hD;have hl:D.length=N:=by rw[hD,← hN];simp only[List.length_append,List.length_take,dI];omega
  have hN2:=hN;simp only[List.length_append]at hN2;by_cases hlt:k<A.length
  ·have hki:decide ((k:Int)<((A.length:Nat):Int))=true:=zt (by omega);have w1:IntKind.i64.wrap (((P.length+A.length+M.length:Nat):Int)+(k:Int))=((P.length+A.length+M.length+k:Nat):Int):=mV (by omega) (by omega);have w2:IntKind.i64.wrap (((P.length:Nat):Int)+(k:Int))=((P.length+k:Nat):Int):=mV (by omega) (by omega);have c1:=zR (d:=D) (j:=P.length+A.length+M.length+k) (by omega);have c2:=zR (d:=D) (j:=P.length+k) (by omega);have b1:((0:Int)≤((P.length+A.length+M.length+k:Nat):Int)∧((P.length+A.length+M.length+k:Nat):Int)<(N:Int))=True:=eq_true (by omega);have b2:((0:Int)≤((P.length+k:Nat):Int)∧((P.length+k:Nat):Int)<(N:Int))=True:=eq_true (by omega);refine zh (zA2 hki (zA2 w1 (zA2 w2 (zA2 @c1 (zA2 @c2 (zA2 b1 b2)))))) ?_;refine⟨by omega,by omega,(k+1,sw D (P.length+k) (P.length+A.length+M.length+k)),⟨by dsimp only;omega,?_⟩,by dsimp only;omega,?_,rfl⟩
   ·dsimp only;rw[hD,J9 (l:=B) (k:=k) (by omega),J9 hlt,P5 hlt,P5 (l:=B) (k:=k) (by omega)];have:=aLa (X:=P++B.take k) (Y:=A.drop (k+1)++M++A.take k) (Z:=B.drop (k+1)++S) (a:=A.getD k default) (b:=B.getD k default) (i:=P.length+k) (j:=P.length+A.length+M.length+k) (by simp only[List.length_append,List.length_take];omega) (by simp only[List.length_append,List.length_take,dI];omega);simpa using this
   ·dsimp only;rw[bCe (by omega) (by omega)]
  ·have hki:decide ((k:Int)<((A.length:Nat):Int))=false:=zf (by omega);obtain rfl:k=A.length:=by omega
   refine zh hki ?_;rw[hD,bE (by omega),bE (bK _),cV (bK _),cV (by omega)];simp
theorem cEw{l:List TE}{k:Nat}(h:k≤l.length):∃a b,l=a++b∧a.length=k∧b.length=l.length-k:=⟨l.take k,l.drop k,(cI _ _).symm,by rw[List.length_take];omega,dI⟩
theorem aJp(P A M B S D:List TE){a b n N:Nat}{cv:AV}(hD:D=P++(A++(M++(B++S))))(ha:a=P.length)(hb:b=P.length+A.length+M.length)(hn:n=A.length)(hAB:A.length=B.length)(hN:D.length=N)(hB:N≤1000000):ACalls Tryz.prog G0 281 [.hs 0 0 N false,.i .i64 (a:Nat),.i .i64 (b:Nat),.i .i64 (n:Nat),cv] [.arr false 1 (D.map ce)] (fun r h'=>r=.tup []∧h'=[.arr false 1 ((P++(B++(M++(A++S)))).map ce)]):=by
 subst ha hb hn hD;have:=bWy P A M B S N cv (by simpa using hN) hB hAB;simpa only[bU]using this
theorem bWz(P U V S:List TE)(N:Nat)(cv:AV)(hN:(P++U++V++S).length=N)(hB:N≤1000000)(hU:0<U.length)(hV:0<V.length): ACalls Tryz.prog G0 272 [.hs 0 0 N false,.i .i64 (P.length:Nat),.i .i64 (P.length+U.length:Nat),.i .i64 (P.length+U.length+V.length:Nat),cv] [.arr false 1 ((P++U++V++S).map ce)] (fun r h'=>r=.tup []∧h'=[.arr false 1 ((P++V++U++S).map ce)]):=by
 refine eJ (rx:=true) (th:=fun _=>none) cZ Tryz.func272 ?_
 ·simp -implicitDefEqProofs (disch:=omega) only[Tryz.f272,go_sem,List.replicate,simprocAttr];have w1:IntKind.i64.wrap (((P.length+U.length:Nat):Int)-((P.length:Nat):Int))=((U.length:Nat):Int):=mV (by omega) (by simp only[List.length_append]at hN;omega);have w2:IntKind.i64.wrap (((P.length+U.length+V.length:Nat):Int)-((P.length+U.length:Nat):Int))=((V.length:Nat):Int):=mV (by omega) (by simp only[List.length_append]at hN;omega);refine zh (zA2 w1 w2) ?_;generalize hm:P.length+U.length=m at *
  generalize hT:P++V++U++S=T at *
  refine dF (fun(q:(List TE×List TE)×List TE×List TE)=>(rp 10 .k (.v (.i .i64 (q.1.2.length:Nat))::.v (.i .i64 (q.2.1.length:Nat))::(rp 6 .k (rp 32 .j (rp 8 .k [])))))) (fun q=>[.arr false 1 ((q.1.1++q.1.2++q.2.1++q.2.2).map ce)]) (fun q=>(0<q.1.2.length∧0<q.2.1.length)∧q.1.1.length+q.1.2.length=m∧(q.1.1++q.1.2++q.2.1++q.2.2).length=N∧q.1.1++q.2.1++q.1.2++q.2.2=T) (fun q=>q.1.2.length+q.2.1.length) (((P,U),V,S)) ⟨⟨hU,hV⟩,hm,hN,hT⟩ (by simp[avs,avb,avi,avo,eU]) (by simp[hZ]) ?_;rintro⟨⟨P1,U1⟩,V1,S1⟩ j ⟨⟨h1,h2⟩,h3,h4,h5⟩;dsimp only at h1 h2 h3 h4 h5;have h6:=h4;simp only[List.length_append]at h6;have w3:IntKind.i64.wrap (((m:Nat):Int)-((U1.length:Nat):Int))=((P1.length:Nat):Int):=mV (by omega) (by omega);by_cases he:U1.length=V1.length
  ·have hki:decide (((U1.length:Nat):Int)=((V1.length:Nat):Int))=true:=zt (by omega);refine zh (zA2 hki w3) ?_;refine fM (aJp P1 U1 [] V1 S1 (P1++(U1++(V1++S1))) rfl rfl (by simpa using h3.symm) rfl he (by simpa using h4) hB) ?_;rintro r h' ⟨rfl,rfl⟩;refine zg ?_;rw[show P1++(V1++(U1++S1))=P++(V++(U++S)) by simpa using h5.trans hT.symm]
  ·have hki:decide (((U1.length:Nat):Int)=((V1.length:Nat):Int))=false:=zf (by omega);by_cases hlt:V1.length<U1.length
   ·have hkj:decide (((V1.length:Nat):Int)<((U1.length:Nat):Int))=true:=zt (by omega);obtain⟨Ua,Ub,rfl,l1,l2⟩:=cEw (l:=U1) (k:=V1.length) (by omega);have w4:IntKind.i64.wrap ((((Ua++Ub).length:Nat):Int)-((V1.length:Nat):Int))=((Ub.length:Nat):Int):=mV (by simp only[List.length_append];omega) (by omega);simp only[List.length_append]at w3 w4 hki hkj;refine zh (zA2 hki (zA2 hkj w3)) ?_;refine fM (aJp P1 Ua Ub V1 S1 (P1++(Ua++(Ub++(V1++S1)))) (b:=m) rfl rfl (by rw[← h3,List.length_append];omega) l1.symm l1 (by rw[← h4];simp) hB) ?_;rintro r h' ⟨rfl,rfl⟩;refine zh w4 ?_;exact⟨((P1++V1,Ub),Ua,S1),⟨⟨by dsimp only;omega,by dsimp only;omega⟩,by dsimp only;rw[List.length_append];omega,by simp only[List.length_append]at h6;dsimp only;simp only[List.length_append];omega,by dsimp only;rw[← h5];simp⟩,by simp only[List.length_append]at l2;dsimp only;omega,by simp,rfl,by dsimp only;rw[l1]⟩
   ·have hkj:decide (((V1.length:Nat):Int)<((U1.length:Nat):Int))=false:=zf (by omega);have w4:IntKind.i64.wrap (((m:Nat):Int)+((V1.length:Nat):Int))=((m+V1.length:Nat):Int):=mV (by omega) (by omega);have w5:IntKind.i64.wrap (((m+V1.length:Nat):Int)-((U1.length:Nat):Int))=((m+V1.length-U1.length:Nat):Int):=mV (by omega) (by omega);have w6:IntKind.i64.wrap (((V1.length:Nat):Int)-((U1.length:Nat):Int))=((V1.length-U1.length:Nat):Int):=mV (by omega) (by omega);refine zh (zA2 hki (zA2 hkj (zA2 w3 (zA2 w4 (zA2 w5 w6))))) ?_;obtain⟨Va,Vb,rfl,l1,l2⟩:=cEw (l:=V1) (k:=V1.length-U1.length) (by omega);rw[List.length_append]at *
    refine fM (aJp P1 U1 Va Vb S1 (P1++(U1++(Va++Vb++S1))) (by simp) rfl (by omega) rfl (by omega) (by simp only[List.length_append];omega) hB) ?_;rintro r h' ⟨rfl,rfl⟩;refine zh w6 ?_;exact⟨((P1,Vb),Va,U1++S1),⟨⟨by dsimp only;omega,by dsimp only;omega⟩,by dsimp only;omega,by dsimp only;simp only[List.length_append];omega,by dsimp only;rw[← h5];simp⟩,by dsimp only;omega,by simp,by dsimp only;rw[show Vb.length=U1.length by omega],by dsimp only;rw[← l1]⟩
def Bf(R:TE→TE→Prop)(c:TE→TE→Int)(x y:TE):Prop:=(c y x<0→R y x)∧(¬c y x<0→R x y)
def bSe(Q:TE→Prop)(c:TE→TE→Int):Prop:=∀x y,Q x→Q y→CT 192 [ce x,ce y] (.i .i64 (c x y))
theorem bDn{l:List TE}(h:0<l.length):l=l.take (l.length-1)++[l.getD (l.length-1) default]:=by
 have:=aWv (l:=l) (i:=l.length-1) (by omega);rwa[show l.length-1+1=l.length by omega,List.drop_length]at this
theorem aWs{R:TE→TE→Prop}(tr:∀a b c,R a b→R b c→R a c){A B:List TE}{x:TE}(h:(A++B).Pairwise R)(h1:0<A.length→R (A.getD (A.length-1) default) x)(h2:∀z∈B,R x z):(A++x::B).Pairwise R:=by
 obtain⟨hA,hB,hAB⟩:=eC.1 h;refine eC.2 ⟨hA,gH.2 ⟨h2,hB⟩,fun a ha b hb=>?_⟩;rcases cH.1 hb with rfl|hb
 ·rcases aUj hA a ha with rfl|h3
  ·exact h1 (iI ha)
  ·exact tr _ _ _ h3 (h1 (iI ha))
 ·exact hAB a ha b hb
theorem bRf(e:TE):pers (ce e)=true:=by rw[pers,qF,wJ,iL];rfl
theorem aBo{h:List AObj}(e:TE):gZ dep h (ce e)=ce e:=by rw[gE,if_pos (bRf e)]
theorem bXa(R:TE→TE→Prop)(c:TE→TE→Int)(Q:TE→Prop)(tr:∀a b c,R a b→R b c→R a c)(hc:bSe Q c)(P U S:List TE)(N:Nat)(hN:(P++U++S).length=N)(hB:N≤1000000)(hQ:∀x∈U,Q x)(hU:U.Pairwise (Bf R c)): ACalls Tryz.prog G0 263 [.hs 0 0 N false,.i .i64 (P.length:Nat),.i .i64 (P.length+U.length:Nat),.fn 192 [] []] [.arr false 1 ((P++U++S).map ce)] (fun r h'=>r=.tup []∧∃Z:List TE,Z.Perm U∧Z.Pairwise R∧h'=[.arr false 1 ((P++Z++S).map ce)]):=by
 refine eJ (rx:=true) (th:=fun i=>if i=6 then some ⟨none,[0],false,false,false,[],[],0⟩else none) cZ Tryz.func263 ?_
 ·simp -implicitDefEqProofs (disch:=omega) only[Tryz.f263,go_sem,List.replicate,simprocAttr];have hN2:=hN;simp only[List.length_append]at hN2;have w1:IntKind.i64.wrap (((P.length:Nat):Int)+((1:Nat):Int))=((P.length+1:Nat):Int):=mV (by omega) (by omega);refine zh w1 ?_;refine dF (fun(q:Nat×List TE×List TE)=>(rp 8 .k (.v (.i .i64 (P.length+q.1:Nat))::.j::.k::.k::(rp 41 .j [])))) (fun q=>[.arr false 1 (q.2.2.map ce)]) (fun q=>(1≤q.1∧(q.1≤U.length∨q.1=1))∧(q.2.1.Perm (U.take q.1)∧q.2.1.Pairwise R)∧q.2.2=P++(q.2.1++(U.drop q.1++S))) (fun q=>U.length-q.1) ((1,U.take 1,P++U++S)) ⟨⟨bK _,.inr rfl⟩,⟨mX _,by cases U<;>simp⟩,by cases U<;>simp⟩ (by simp[avs,avb,avi,avo,eU]) (by simp[hZ]) ?_;rintro⟨n,Z,D⟩ j ⟨⟨h1,h2⟩,⟨h3,h4⟩,hD⟩;dsimp only at h1 h2 h3 h4 hD;by_cases hlt:n<U.length
  ·have hki:decide (((P.length+n:Nat):Int)<((P.length+U.length:Nat):Int))=true:=zt (by omega);refine zh hki ?_;have hZl:Z.length=n:=by rw[h3.length_eq,List.length_take];omega
   subst hZl;have hx:=Y2 hlt;have hbf:∀y∈Z,Bf R c y (U.getD Z.length default):=fun y hy=>by
    have hh:=hU;rw[aWv hlt]at hh;exact(eC.1 hh).2.2 y (h3.mem_iff.1 hy) _ cQ
   have hZQ:∀y∈Z,Q y:=fun y hy=>hQ y (dH (h3.mem_iff.1 hy));have hcut:=P5 hlt;have htk:=J9 hlt;generalize hxe:U.getD Z.length default=x at *
   have hxQ:=hQ x hx;have hdl:(U.drop (Z.length+1)).length=U.length-(Z.length+1):=dI;generalize hV:U.drop (Z.length+1)=V at *
   refine dF (fun(q:(List TE×List TE)×List TE)=>(rp 9 .k (.v (.i .i64 (P.length+q.1.1.length:Nat))::(rp 8 .k (rp 35 .j []))))) (fun q=>[.arr false 1 (q.2.map ce)]) (fun q=>(q.2=P++(q.1.1++(x::(q.1.2++(V++S)))))∧q.1.1++q.1.2=Z∧∀z∈q.1.2,R x z) (fun q=>q.1.1.length) (((Z,[]),D)) ⟨by dsimp only;rw[hD,hcut];simp,by simp,by simp⟩ (by simp[avs,avb,avi,avo,eU]) (by simp[hZ]) ?_;rintro⟨⟨Z1,Z2⟩,D1⟩ j2 ⟨h5,h6,h7⟩;dsimp only at h5 h6 h7;have hll:Z.length=Z1.length+Z2.length:=by rw[← h6,List.length_append]
   have hD1:D1.length=N:=by rw[h5];simp only[List.length_append,aQ];omega
   have hpos:decide (((P.length:Nat):Int)<((P.length+Z1.length:Nat):Int))=decide (0<Z1.length):=by
    rw[fA,decide_eq_true_eq,decide_eq_true_eq];omega
   by_cases h0:0<Z1.length
   ·have hki2:decide (((P.length:Nat):Int)<((P.length+Z1.length:Nat):Int))=true:=zt (by omega);have w2:IntKind.i64.wrap (((P.length+Z1.length:Nat):Int)-((1:Nat):Int))=((P.length+Z1.length-1:Nat):Int):=mV (by omega) (by omega);have c1:=zR (d:=D1) (j:=P.length+Z1.length) (by omega);have c2:=zR (d:=D1) (j:=P.length+Z1.length-1) (by omega);have b1:((0:Int)≤((P.length+Z1.length:Nat):Int)∧((P.length+Z1.length:Nat):Int)<(N:Int))=True:=eq_true (by omega);have b2:((0:Int)≤((P.length+Z1.length-1:Nat):Int)∧((P.length+Z1.length-1:Nat):Int)<(N:Int))=True:=eq_true (by omega);have e1:D1.getD (P.length+Z1.length) default=x:=by rw[h5,lJ,show Z1.length=Z1.length+0 by omega,lJ];rfl
    have hpl:=bDn h0;have hym:=Y2 (l:=Z1) (i:=Z1.length-1) (by omega);have e2:D1.getD (P.length+Z1.length-1) default=Z1.getD (Z1.length-1) default:=by rw[h5,show P.length+Z1.length-1=P.length+(Z1.length-1) by omega,lJ,zF (by omega)]
    rw[e1]at c1;rw[e2]at c2;have hyZ:Z1.getD (Z1.length-1) default∈Z:=by rw[← h6];exact dK _ hym
    generalize hye:Z1.getD (Z1.length-1) default=y at *
    have cc:=hc x y hxQ (hZQ y hyZ);refine zh (zA2 hki2 (zA2 w2 (zA2 @c1 (zA2 @c2 (zA2 b1 b2))))) ?_;(refine zx0 (zA2 hki2 (zA2 w2 (zA2 @c1 (zA2 @c2 (zA2 b1 b2))))) ?_;repeat' first|exact trivial|refine zJ ?_ ?_|refine zH fun hc=>?_);refine dA (cc) ?_ ?_
    ·simp only[aK,aZ,aBo]
    refine zh (zA2 hki2 (zA2 w2 (zA2 @c1 (zA2 @c2 (zA2 b1 b2))))) ?_;(refine zx0 (zA2 hki2 (zA2 w2 (zA2 @c1 (zA2 @c2 (zA2 b1 b2))))) ?_;repeat' first|exact trivial|refine zJ ?_ ?_|refine zH fun hc=>?_)
    ·refine⟨((Z1.take (Z1.length-1),y::Z2),sw D1 (P.length+Z1.length) (P.length+Z1.length-1)),⟨?_,?_,?_⟩,?_,?_,?_⟩
     ·dsimp only;have e:=aLa (X:=P++Z1.take (Z1.length-1)) (Y:=[]) (Z:=Z2++(V++S)) (a:=y) (b:=x) (i:=P.length+Z1.length-1) (j:=P.length+Z1.length) (by rw[List.length_append,List.length_take];omega) (by rw[List.length_append,List.length_take,cB];omega);rw[aTe,h5];refine Eq.trans (congrArg (fun l=>sw l _ _) ?_) (e.trans ?_)
      ·conv=>lhs;rw[hpl]
       simp
      ·simp
     ·dsimp only;rw[← h6];conv=>rhs;rw[hpl]
      simp
     ·intro z hz;rcases cH.1 hz with rfl|hz
      ·exact(hbf _ hyZ).1 hc
      ·exact h7 z hz
     ·dsimp only;rw[List.length_take];omega
     ·dsimp only;have:=bCe (d:=D1) (i:=P.length+Z1.length) (j:=P.length+Z1.length-1) (by omega) (by omega);rw[e1,e2]at this;rw[this]
     ·dsimp only;rw[List.length_take];congr 1;omega
    ·refine⟨(Z.length+1,Z1++x::Z2,D1),⟨⟨by dsimp only;omega,.inl (by dsimp only;omega)⟩,⟨?_,?_⟩,?_⟩,by dsimp only;omega,rfl,rfl⟩
     ·dsimp only;rw[htk];refine xQ.trans ?_;rw[h6];exact(G9 x Z).symm.trans (h3.append_right _)
     ·exact aWs tr (h6▸h4) (fun _=>by rw[hye];exact(hbf _ hyZ).2 hc) h7
     ·dsimp only;rw[h5,hV];simp
   ·have hki2:decide (((P.length:Nat):Int)<((P.length+Z1.length:Nat):Int))=false:=zf (by omega);refine zh hki2 ?_;refine⟨(Z.length+1,Z1++x::Z2,D1),⟨⟨by dsimp only;omega,.inl (by dsimp only;omega)⟩,⟨?_,?_⟩,?_⟩,by dsimp only;omega,rfl,rfl⟩
    ·dsimp only;rw[htk];refine xQ.trans ?_;rw[h6];exact(G9 x Z).symm.trans (h3.append_right _)
    ·exact aWs tr (h6▸h4) (fun h=>absurd h h0) h7
    ·dsimp only;rw[h5,hV];simp
  ·have hki:decide (((P.length+n:Nat):Int)<((P.length+U.length:Nat):Int))=false:=zf (by omega);refine zh hki ?_;have e1:U.take n=U:=bE (by omega);have e2:U.drop n=[]:=cV (by omega);rw[e1]at h3;exact⟨Z,h3,h4,by rw[hD,e2];simp⟩
theorem bBp{x:Int}{n:Nat}(h:x=n)(hn:n≤9000000000000000000):IntKind.u64.wrap x=(n:Int):=by
 subst h;simp only[IntKind.wrap,IntKind.signed,IntKind.bits];simp;omega
def cIg(R:TE→TE→Prop)(c:TE→TE→Int)(Q:TE→Prop)(n:Nat):Prop:=∀(P X Y S D:List TE) (N a m b:Nat),X.length+Y.length≤n→D=P++(X++(Y++S))→a=P.length→m=P.length+X.length→b=P.length+X.length+Y.length→D.length=N→N≤1000000→0<X.length→0<Y.length→X.Pairwise R→Y.Pairwise R→(∀x∈X,∀y∈Y,Bf R c x y)→(∀x∈X,Q x)→(∀y∈Y,Q y) →
 ACalls Tryz.prog G0 264 [.hs 0 0 N false,.i .i64 (a:Nat),.i .i64 (m:Nat),.i .i64 (b:Nat),.fn 192 [] []] [.arr false 1 (D.map ce)] (fun r h'=>r=.tup []∧∃Z:List TE,Z.Perm (X++Y)∧Z.Pairwise R∧h'=[.arr false 1 ((P++(Z++S)).map ce)])
theorem wK{a b:Nat}(h:a<b):decide (((a:Nat):Int)<((b:Nat):Int))=true:=zt (by omega)
theorem uK{a b:Nat}(h:b≤a):decide (((a:Nat):Int)<((b:Nat):Int))=false:=zf (by omega)
theorem inb{a n:Nat}(h:a<n):((0:Int)≤((a:Nat):Int)∧((a:Nat):Int)<(n:Int))=True:=eq_true (by omega)
theorem bQm(R:TE→TE→Prop)(c:TE→TE→Int)(Q:TE→Prop)(tr:∀a b c,R a b→R b c→R a c)(hc:bSe Q c)(P Y S:List TE)(x:TE)(N:Nat)(hN:(P++(x::(Y++S))).length=N)(hB:N≤1000000)(hY:Y.Pairwise R)(hbf:∀y∈Y,Bf R c x y)(hxQ:Q x)(hQ:∀y∈Y,Q y): ACalls Tryz.prog G0 264 [.hs 0 0 N false,.i .i64 (P.length:Nat),.i .i64 (P.length+1:Nat),.i .i64 (P.length+1+Y.length:Nat),.fn 192 [] []] [.arr false 1 ((P++(x::(Y++S))).map ce)] (fun r h'=>r=.tup []∧∃Z:List TE,Z.Perm (x::Y)∧Z.Pairwise R∧h'=[.arr false 1 ((P++(Z++S)).map ce)]):=by
 refine eJ (rx:=true) (th:=fun i=>if i=11 then some ⟨none,[0],false,false,false,[],[],0⟩else none) cZ Tryz.func264 ?_
 ·simp -implicitDefEqProofs (disch:=omega) only[Tryz.f264,go_sem,List.replicate,simprocAttr];have hN2:=hN;simp only[List.length_append,aQ]at hN2;have w0:decide (((P.length+1:Nat):Int)-((P.length:Nat):Int)=1)=true:=zt (by omega);refine zh w0 ?_;generalize hD:P++x::(Y++S)=D at *
  have gx:D.getD P.length default=x:=by rw[← hD,show P.length=P.length+0 by omega,lJ];rfl
  have gy:∀i,i<Y.length→D.getD (P.length+1+i) default=Y.getD i default:=fun i hi=>by rw[← hD,eK,lJ,nW 1 i,dE,zF hi]
  refine dF (fun(q:Nat×Nat)=>(rp 10 .k (.v (.i .i64 (P.length+1+q.1:Nat))::.v (.i .i64 (P.length+1+q.2:Nat))::.j::(rp 18 .k (rp 23 .j (rp 166 .k [])))))) (fun q=>[.arr false 1 (D.map ce)]) (fun q=>(q.1≤q.2∧q.2≤Y.length)∧(0<q.1→R (Y.getD (q.1-1) default) x)∧(q.2<Y.length→R x (Y.getD q.2 default))) (fun q=>q.2-q.1) ((0,Y.length)) ⟨⟨bJ _,bK _⟩,fun h=>absurd h (by simp),fun h=>absurd h (by simp)⟩ (by simp[avs,avb,avi,avo,eU]) (by simp[hZ]) ?_;rintro⟨lo,hi⟩ j ⟨⟨h1,h2⟩,h3,h4⟩;dsimp only at h1 h2 h3 h4;by_cases hlt:lo<hi
  ·have hki:=wK (a:=P.length+1+lo) (b:=P.length+1+hi) (by omega);have w2:IntKind.i64.wrap (((P.length+1+lo:Nat):Int)+((P.length+1+hi:Nat):Int))=((P.length+1+lo+(P.length+1+hi):Nat):Int):=mV (by omega) (by omega);have w3:IntKind.u64.wrap ((P.length+1+lo+(P.length+1+hi):Nat):Int)=((P.length+1+lo+(P.length+1+hi):Nat):Int):=bBp rfl (by omega);have w4:((P.length+1+lo+(P.length+1+hi):Nat):Int) / 2=((P.length+1+(lo+hi) / 2:Nat):Int):=by omega
   have w5:IntKind.i64.wrap ((P.length+1+(lo+hi) / 2:Nat):Int)=((P.length+1+(lo+hi) / 2:Nat):Int):=mV rfl (by omega);have hm1:lo≤(lo+hi) / 2:=by omega
   have hm2:(lo+hi) / 2<hi:=by omega
   generalize (lo+hi) / 2=m at *
   have c1:=zR (d:=D) (j:=P.length+1+m) (by omega);have c2:=zR (d:=D) (j:=P.length) (by omega);rw[gy m (by omega)]at c1;rw[gx]at c2;have b1:=inb (a:=P.length+1+m) (n:=N) (by omega);have b2:=inb (a:=P.length) (n:=N) (by omega);have hym:=Y2 (l:=Y) (i:=m) (by omega);have hB1:=hbf _ hym;have cc:=hc (Y.getD m default) x (hQ _ hym) hxQ;refine zh (zA2 hki (zA2 w2 (zA2 w3 (zA2 w4 (zA2 w5 (zA2 @c1 (zA2 @c2 (zA2 b1 b2)))))))) ?_;refine dA (cc) ?_ ?_
   ·simp only[aK,aZ,aBo]
   refine zg ?_;(refine zs0 ?_;repeat' first|exact trivial|refine zJ ?_ ?_|refine zH fun hc=>?_)
   ·exact⟨(m+1,hi),⟨⟨by dsimp only;omega,h2⟩,fun _=>hB1.1 hc,h4⟩,by dsimp only;omega,rfl,rfl⟩
   ·exact⟨(lo,m),⟨⟨hm1,by dsimp only;omega⟩,h3,fun _=>hB1.2 hc⟩,by dsimp only;omega,rfl,rfl⟩
  ·have hki:=uK (a:=P.length+1+lo) (b:=P.length+1+hi) (by omega);obtain rfl:lo=hi:=by omega
   refine zh hki ?_;refine dF (fun(q:Nat×List TE)=>(rp 13 .k (.v (.i .i64 (P.length+q.1:Nat))::(rp 41 .k (rp 22 .j (rp 143 .k [])))))) (fun q=>[.arr false 1 (q.2.map ce)]) (fun q=>q.1≤lo∧q.2=P++(Y.take q.1++(x::(Y.drop q.1++S)))) (fun q=>lo-q.1) ((0,D)) ⟨bJ _,by rw[← hD];rfl⟩ (by simp[avs,avb,avi,avo,eU]) (by simp[hZ]) ?_;rintro⟨k,E⟩ j2 ⟨h5,h6⟩;dsimp only at h5 h6;have hE:E.length=N:=by rw[h6];simp only[List.length_append,aQ,List.length_take,dI];omega
   by_cases hkl:k<lo
   ·have hkj:decide (((P.length+k:Nat):Int)<((P.length+1+lo:Nat):Int)-1)=true:=zt (by omega);have w7:IntKind.i64.wrap (((P.length+k:Nat):Int)+((1:Nat):Int))=((P.length+k+1:Nat):Int):=mV (by omega) (by omega);have c1:=zR (d:=E) (j:=P.length+k) (by omega);have c2:=zR (d:=E) (j:=P.length+k+1) (by omega);have b1:=inb (a:=P.length+k) (n:=N) (by omega);have b2:=inb (a:=P.length+k+1) (n:=N) (by omega);refine zh (zA2 hkj (zA2 w7 (zA2 @c1 (zA2 @c2 (zA2 b1 b2))))) ?_;(refine zx0 (zA2 w7 (zA2 @c1 (zA2 @c2 (zA2 b1 b2)))) ?_;repeat' first|exact trivial|refine zJ ?_ ?_|refine zH fun hc=>?_);refine⟨(k+1,sw E (P.length+k) (P.length+k+1)),⟨by dsimp only;omega,?_⟩,by dsimp only;omega,?_,rfl⟩
    ·dsimp only;rw[h6,J9 (l:=Y) (k:=k) (by omega),P5 (l:=Y) (k:=k) (by omega)];have:=aLa (X:=P++Y.take k) (Y:=[]) (Z:=Y.drop (k+1)++S) (a:=x) (b:=Y.getD k default) (i:=P.length+k) (j:=P.length+k+1) (by simp only[List.length_append,List.length_take];omega) (by simp only[List.length_append,List.length_take,cB];omega);simpa using this
    ·rw[bCe (by omega) (by omega)]
   ·have hkj:decide (((P.length+k:Nat):Int)<((P.length+1+lo:Nat):Int)-1)=false:=zf (by omega);obtain rfl:k=lo:=by omega
    refine zh hkj ?_;refine⟨Y.take k++x::Y.drop k,?_,bIu tr hY h2 h3 h4,by rw[h6];simp⟩;refine xQ.trans ?_;rw[cI]
theorem bQl(R:TE→TE→Prop)(c:TE→TE→Int)(Q:TE→Prop)(tr:∀a b c,R a b→R b c→R a c)(hc:bSe Q c)(P X S:List TE)(y:TE)(N:Nat)(hN:(P++(X++(y::S))).length=N)(hB:N≤1000000)(hX1:2≤X.length)(hX:X.Pairwise R)(hbf:∀x∈X,Bf R c x y)(hyQ:Q y)(hQ:∀x∈X,Q x): ACalls Tryz.prog G0 264 [.hs 0 0 N false,.i .i64 (P.length:Nat),.i .i64 (P.length+X.length:Nat),.i .i64 (P.length+X.length+1:Nat),.fn 192 [] []] [.arr false 1 ((P++(X++(y::S))).map ce)] (fun r h'=>r=.tup []∧∃Z:List TE,Z.Perm (X++[y])∧Z.Pairwise R∧h'=[.arr false 1 ((P++(Z++S)).map ce)]):=by
 refine eJ (rx:=true) (th:=fun i=>if i=23 then some ⟨none,[0],false,false,false,[],[],0⟩else none) cZ Tryz.func264 ?_
 ·simp -implicitDefEqProofs (disch:=omega) only[Tryz.f264,go_sem,List.replicate,simprocAttr];have hN2:=hN;simp only[List.length_append,aQ]at hN2;have w1:IntKind.i64.wrap (((P.length+X.length:Nat):Int)-((P.length:Nat):Int))=((X.length:Nat):Int):=mV (by omega) (by omega);have w2:decide (((X.length:Nat):Int)=1)=false:=zf (by omega);have w0:decide (((P.length+X.length+1:Nat):Int)-((P.length+X.length:Nat):Int)=1)=true:=zt (by omega);refine zh (zA2 w1 (zA2 w2 w0)) ?_;generalize hD:P++(X++(y::S))=D at *
  have gy:D.getD (P.length+X.length) default=y:=by rw[← hD,lJ,show X.length=X.length+0 by omega,lJ];rfl
  have gx:∀i,i<X.length→D.getD (P.length+i) default=X.getD i default:=fun i hi=>by rw[← hD,lJ,zF hi]
  refine dF (fun(q:Nat×Nat)=>(rp 14 .k (.v (.i .i64 (P.length+q.1:Nat))::.v (.i .i64 (P.length+q.2:Nat))::.j::(rp 66 .k (rp 24 .j (rp 113 .k [])))))) (fun q=>[.arr false 1 (D.map ce)]) (fun q=>(q.1≤q.2∧q.2≤X.length)∧(0<q.1→R (X.getD (q.1-1) default) y)∧(q.2<X.length→R y (X.getD q.2 default))) (fun q=>q.2-q.1) ((0,X.length)) ⟨⟨bJ _,bK _⟩,fun h=>absurd h (by simp),fun h=>absurd h (by simp)⟩ (by simp[avs,avb,avi,avo,eU]) (by simp[hZ]) ?_;rintro⟨lo,hi⟩ j ⟨⟨h1,h2⟩,h3,h4⟩;dsimp only at h1 h2 h3 h4;by_cases hlt:lo<hi
  ·have hki:=wK (a:=P.length+lo) (b:=P.length+hi) (by omega);have w2:IntKind.i64.wrap (((P.length+lo:Nat):Int)+((P.length+hi:Nat):Int))=((P.length+lo+(P.length+hi):Nat):Int):=mV (by omega) (by omega);have w3:IntKind.u64.wrap ((P.length+lo+(P.length+hi):Nat):Int)=((P.length+lo+(P.length+hi):Nat):Int):=bBp rfl (by omega);have w4:((P.length+lo+(P.length+hi):Nat):Int) / 2=((P.length+(lo+hi) / 2:Nat):Int):=by omega
   have w5:IntKind.i64.wrap ((P.length+(lo+hi) / 2:Nat):Int)=((P.length+(lo+hi) / 2:Nat):Int):=mV rfl (by omega);have hm1:lo≤(lo+hi) / 2:=by omega
   have hm2:(lo+hi) / 2<hi:=by omega
   generalize (lo+hi) / 2=m at *
   have c1:=zR (d:=D) (j:=P.length+m) (by omega);have c2:=zR (d:=D) (j:=P.length+X.length) (by omega);rw[gx m (by omega)]at c1;rw[gy]at c2;have b1:=inb (a:=P.length+m) (n:=N) (by omega);have b2:=inb (a:=P.length+X.length) (n:=N) (by omega);have hym:=Y2 (l:=X) (i:=m) (by omega);have hB1:=hbf _ hym;have cc:=hc y (X.getD m default) hyQ (hQ _ hym);refine zh (zA2 hki (zA2 w2 (zA2 w3 (zA2 w4 (zA2 w5 (zA2 @c1 (zA2 @c2 (zA2 b1 b2)))))))) ?_;refine dA (cc) ?_ ?_
   ·simp only[aK,aZ,aBo]
   refine zg ?_;by_cases hcc:c y (X.getD m default)<0
   ·refine zh (zt hcc) ?_;exact⟨(lo,m),⟨⟨hm1,by dsimp only;omega⟩,h3,fun _=>hB1.1 hcc⟩,by dsimp only;omega,rfl,rfl⟩
   ·refine zh (zf hcc) ?_;exact⟨(m+1,hi),⟨⟨by dsimp only;omega,h2⟩,fun _=>hB1.2 hcc,h4⟩,by dsimp only;omega,rfl,rfl⟩
  ·have hki:=uK (a:=P.length+lo) (b:=P.length+hi) (by omega);obtain rfl:lo=hi:=by omega
   refine zh hki ?_;refine dF (fun(q:Nat×List TE)=>(rp 17 .k (.v (.i .i64 (P.length+q.1:Nat))::(rp 90 .k (rp 21 .j (rp 91 .k [])))))) (fun q=>[.arr false 1 (q.2.map ce)]) (fun q=>(lo≤q.1∧q.1≤X.length)∧q.2=P++(X.take q.1++(y::(X.drop q.1++S)))) (fun q=>q.1) ((X.length,D)) ⟨⟨h2,bK _⟩,by rw[← hD];simp⟩ (by simp[avs,avb,avi,avo,eU]) (by simp[hZ]) ?_;rintro⟨k,E⟩ j2 ⟨⟨h5,h6⟩,h7⟩;dsimp only at h5 h6 h7;have hE:E.length=N:=by rw[h7];simp only[List.length_append,aQ,List.length_take,dI];omega
   by_cases hkl:lo<k
   ·have hkj:=wK (a:=P.length+lo) (b:=P.length+k) (by omega);have w7:IntKind.i64.wrap (((P.length+k:Nat):Int)-((1:Nat):Int))=((P.length+k-1:Nat):Int):=mV (by omega) (by omega);have c1:=zR (d:=E) (j:=P.length+k) (by omega);have c2:=zR (d:=E) (j:=P.length+k-1) (by omega);have b1:=inb (a:=P.length+k) (n:=N) (by omega);have b2:=inb (a:=P.length+k-1) (n:=N) (by omega);refine zh (zA2 hkj (zA2 w7 (zA2 @c1 (zA2 @c2 (zA2 b1 b2))))) ?_;(refine zx0 (zA2 w7 (zA2 @c1 (zA2 @c2 (zA2 b1 b2)))) ?_;repeat' first|exact trivial|refine zJ ?_ ?_|refine zH fun hc=>?_);refine⟨(k-1,sw E (P.length+k) (P.length+k-1)),⟨⟨by dsimp only;omega,by dsimp only;omega⟩,?_⟩,by dsimp only;omega,?_,?_⟩
    ·dsimp only;rw[aTe,h7];have e1:X.take k=X.take (k-1)++[X.getD (k-1) default]:=by have:=J9 (l:=X) (k:=k-1) (by omega);rwa[show k-1+1=k by omega]at this
     have e2:X.drop (k-1)=X.getD (k-1) default::X.drop k:=by have:=P5 (l:=X) (k:=k-1) (by omega);rwa[show k-1+1=k by omega]at this
     rw[e1,e2];have:=aLa (X:=P++X.take (k-1)) (Y:=[]) (Z:=X.drop k++S) (a:=X.getD (k-1) default) (b:=y) (i:=P.length+k-1) (j:=P.length+k) (by simp only[List.length_append,List.length_take];omega) (by simp only[List.length_append,List.length_take,cB];omega);simpa using this
    ·dsimp only;rw[← bCe (by omega) (by omega)]
    ·dsimp only;congr 1;omega
   ·have hkj:=uK (a:=P.length+lo) (b:=P.length+k) (by omega);obtain rfl:k=lo:=by omega
    refine zh hkj ?_;refine⟨X.take k++y::X.drop k,?_,bIu tr hX h2 h3 h4,by rw[h7];simp⟩;refine xQ.trans ?_;rw[cI];exact(G9 y X).symm
end Go.Proofs.YtdjcggcjlphdoaaGreatDoor
namespace Go.Vo
theorem aKs{P:Program}{G:Md}{σ:Type}{a b:kN}{Q:Exit→List AV→List AObj→Prop}{env:List AV}{h:List AObj}(ps:σ→List aSc)(hp:σ→List AObj)(I:σ→Prop)
 (first:awx P G a (tW (fun e' h'=>∃q,I q∧h'=hp q∧hZ (ps q) env e') Q) env h)
 (rest:∀q,I q→∀j:Nat→AV,awx P G b Q (rX j 0 (ps q) env) (hp q)):awx P G (.seq a b) Q env h:=by
 rw[awx];refine lW (fun x e h' k=>?_) first
 cases x;case normal=>
  obtain⟨q,hI,rfl,hf⟩:=k;have he:rX (fun n=>e.getD n .u) 0 (ps q) env=e:=aAw _ env e 0 _ (fun m v hv=>by simp[List.getD,hv]) hf;have r:=rest q hI (fun n=>e.getD n .u);rw[he]at r;exact r
 all_goals exact k
end Go.Vo
namespace Go.Proofs.YtdjcggcjlphdoaaGreatDoor
open Go Go.Vo
open Nat (reduceAdd reduceSub reduceMul reduceLeDiff reduceLT reduceEqDiff)
open Int (reduceNeg)
theorem bQj(P U V S D:List TE){a m b N:Nat}{cv:AV}(hD:D=P++(U++(V++S)))(ha:a=P.length)(hm:m=P.length+U.length)(hb:b=P.length+U.length+V.length)(hU:0<U.length)(hV:0<V.length)(hN:D.length=N)(hB:N≤1000000):ACalls Tryz.prog G0 272 [.hs 0 0 N false,.i .i64 (a:Nat),.i .i64 (m:Nat),.i .i64 (b:Nat),cv] [.arr false 1 (D.map ce)] (fun r h'=>r=.tup []∧h'=[.arr false 1 ((P++(V++(U++S))).map ce)]):=by
 subst ha hm hb hD;have:=bWz P U V S N cv (by simpa using hN) hB hU hV;simpa only[bU]using this
theorem bQk(R:TE→TE→Prop)(c:TE→TE→Int)(Q:TE→Prop)(tr:∀a b c,R a b→R b c→R a c)(hc:bSe Q c)(P X Y S:List TE)(N:Nat)(hN:(P++(X++(Y++S))).length=N)(hB:N≤1000000)(hX2:2≤X.length)(hY2:2≤Y.length)(hX:X.Pairwise R)(hY:Y.Pairwise R)(hbf:∀x∈X,∀y∈Y,Bf R c x y)(hQX:∀x∈X,Q x)(hQY:∀y∈Y,Q y)(ih:∀n,n<X.length+Y.length→cIg R c Q n): ACalls Tryz.prog G0 264 [.hs 0 0 N false,.i .i64 (P.length:Nat),.i .i64 (P.length+X.length:Nat),.i .i64 (P.length+X.length+Y.length:Nat),.fn 192 [] []] [.arr false 1 ((P++(X++(Y++S))).map ce)] (fun r h'=>r=.tup []∧∃Z:List TE,Z.Perm (X++Y)∧Z.Pairwise R∧h'=[.arr false 1 ((P++(Z++S)).map ce)]):=by
 refine eJ (rx:=true) (th:=fun _=>none) cZ Tryz.func264 ?_
 ·simp -implicitDefEqProofs (disch:=omega) only[Tryz.f264,aQ,cB,dM,aH,aJ,aKk,List.replicate,simprocAttr];have hN2:=hN;simp only[List.length_append]at hN2;have w1:IntKind.i64.wrap (((P.length+X.length:Nat):Int)-((P.length:Nat):Int))=((X.length:Nat):Int):=mV (by omega) (by omega);have w2:decide (((X.length:Nat):Int)=1)=false:=zf (by omega);have w3:IntKind.i64.wrap (((P.length+X.length+Y.length:Nat):Int)-((P.length+X.length:Nat):Int))=((Y.length:Nat):Int):=mV (by omega) (by omega);have w4:decide (((Y.length:Nat):Int)=1)=false:=zf (by omega);have w5:IntKind.i64.wrap (((P.length:Nat):Int)+((P.length+X.length+Y.length:Nat):Int))=((P.length+(P.length+X.length+Y.length):Nat):Int):=mV (by omega) (by omega);have w6:IntKind.u64.wrap ((P.length+(P.length+X.length+Y.length):Nat):Int)=((P.length+(P.length+X.length+Y.length):Nat):Int):=bBp rfl (by omega);have w7:((P.length+(P.length+X.length+Y.length):Nat):Int) / 2=((P.length+(X.length+Y.length) / 2:Nat):Int):=by omega
  have w8:IntKind.i64.wrap ((P.length+(X.length+Y.length) / 2:Nat):Int)=((P.length+(X.length+Y.length) / 2:Nat):Int):=mV rfl (by omega);have w9:IntKind.i64.wrap (((P.length+(X.length+Y.length) / 2:Nat):Int)+((P.length+X.length:Nat):Int))=((P.length+(X.length+Y.length) / 2+(P.length+X.length):Nat):Int):=mV (by omega) (by omega);have hm1:2*((X.length+Y.length) / 2)≤X.length+Y.length:=by omega
  have hm2:X.length+Y.length≤2*((X.length+Y.length) / 2)+1:=by omega
  generalize hmm:(X.length+Y.length) / 2=M at *
  iterate 5 (refine bCp fun K hK=>?_;simp -implicitDefEqProofs (disch:=omega) only[w1,w2,w3,w4,w5,w6,w7,w8,w9,go_sem,simprocAttr];(repeat'(first|refine gT ?_ ?_|refine gF ?_ ?_|refine gC ?_ ?_|refine bX (by omega) ?_|(intro hr;have hc:=hr;(try simp only[zdz]at hc);simp -implicitDefEqProofs (disch:=omega) only[hr,w1,w2,w3,w4,w5,w6,w7,w8,w9,go_sem,simprocAttr];(try clear hr))));rw[← hK];clear hK)
  obtain⟨s0,hs0⟩:∃s0,s0=if M<X.length then M-Y.length else 0:=⟨_,rfl⟩;obtain⟨r0,hr0⟩:∃r0,r0=if M<X.length then M else X.length:=⟨_,rfl⟩;refine bSx (rp 5 .k (rp 13 .j (.k::.k::.v (.i .i64 (P.length+s0:Nat))::.v (.i .i64 (P.length+r0:Nat))::(rp 198 .j [])))) ?_ ?_
  ·by_cases hlt:M<X.length
   ·have hki:=wK (a:=P.length+M) (b:=P.length+X.length) (by omega);have w10:IntKind.i64.wrap (((P.length+M+(P.length+X.length):Nat):Int)-((P.length+X.length+Y.length:Nat):Int))=((P.length+(M-Y.length):Nat):Int):=mV (by omega) (by omega);rw[if_pos hlt]at hs0 hr0;rw[hs0,hr0];simp -implicitDefEqProofs (disch:=omega) only[hki,w10,go_sem,simprocAttr]
   ·have hki:=uK (a:=P.length+M) (b:=P.length+X.length) (by omega);rw[if_neg hlt]at hs0 hr0;rw[hs0,hr0];simp -implicitDefEqProofs (disch:=omega) only[hki,go_sem,simprocAttr]
  intro j;have hsr:s0≤r0∧r0≤X.length∧r0≤M∧M≤s0+Y.length:=by
   rw[hs0,hr0];split<;>omega
  have he1:∀s,s0<s→s≤r0→0<s∧M-s<Y.length:=fun s h1 h2=>by omega
  have he2:s0=0∨(s0+Y.length=M∧r0=M):=by rw[hs0,hr0];split<;>omega
  have he3:r0=M∨r0=X.length:=by rw[hr0];split<;>simp
  clear hs0 hr0 w1 w2 w3 w4 w5 w6 w7 w8 w9 hmm;have v1:IntKind.i64.wrap (((P.length+M+(P.length+X.length):Nat):Int)-((1:Nat):Int))=((P.length+M+(P.length+X.length)-1:Nat):Int):=mV (by omega) (by omega);iterate 1 (refine bCp fun K hK=>?_;simp -implicitDefEqProofs (disch:=omega) only[v1,go_sem,simprocAttr];(repeat'(first|refine gT ?_ ?_|refine gF ?_ ?_|refine gC ?_ ?_|refine bX (by omega) ?_|(intro hr;have hc:=hr;(try simp only[zdz]at hc);simp -implicitDefEqProofs (disch:=omega) only[hr,v1,go_sem,simprocAttr];(try clear hr))));rw[← hK];clear hK)
  refine aKs (fun(s:Nat)=>(rp 5 .k (rp 13 .j (.k::.k::.v (.i .i64 (P.length+s:Nat))::(rp 199 .j []))))) (fun s=>[.arr false 1 ((P++(X++(Y++S))).map ce)]) (fun s=>(s0≤s∧s≤r0)∧(s0<s→R (X.getD (s-1) default) (Y.getD (M-s) default))∧(s<r0→R (Y.getD (M-1-s) default) (X.getD s default))) ?_ ?_
  ·generalize hD:P++(X++(Y++S))=D at *
   have gx:∀i,i<X.length→D.getD (P.length+i) default=X.getD i default:=fun i hi=>by rw[← hD,lJ,zF hi]
   have gy:∀i,i<Y.length→D.getD (P.length+(X.length+i)) default=Y.getD i default:=fun i hi=>by rw[← hD,lJ,lJ,zF hi]
   simp -implicitDefEqProofs (disch:=omega) only[go_sem,simprocAttr];refine dF (fun(q:Nat×Nat)=>(rp 20 .k (.v (.i .i64 (P.length+q.1:Nat))::.v (.i .i64 (P.length+q.2:Nat))::.k::.j::(rp 125 .k (rp 26 .j (rp 45 .k [])))))) (fun q=>[.arr false 1 (D.map ce)]) (fun q=>(s0≤q.1∧q.1≤q.2∧q.2≤r0)∧(s0<q.1→R (X.getD (q.1-1) default) (Y.getD (M-q.1) default))∧(q.2<r0→R (Y.getD (M-1-q.2) default) (X.getD q.2 default))) (fun q=>q.2-q.1) ((s0,r0)) ⟨⟨bK _,hsr.1,bK _⟩,fun h=>absurd h (by simp),fun h=>absurd h (by simp)⟩ (by simp[avs,avb,avi,avo,eU]) (by simp[hZ]) ?_;rintro⟨lo,hi⟩ j1 ⟨⟨h0,h1,h2⟩,h3,h4⟩;dsimp only at h0 h1 h2 h3 h4;by_cases hlt:lo<hi
   ·have hki:=wK (a:=P.length+lo) (b:=P.length+hi) (by omega);have w2:IntKind.i64.wrap (((P.length+lo:Nat):Int)+((P.length+hi:Nat):Int))=((P.length+lo+(P.length+hi):Nat):Int):=mV (by omega) (by omega);have w3:IntKind.u64.wrap ((P.length+lo+(P.length+hi):Nat):Int)=((P.length+lo+(P.length+hi):Nat):Int):=bBp rfl (by omega);have w4:((P.length+lo+(P.length+hi):Nat):Int) / 2=((P.length+(lo+hi) / 2:Nat):Int):=by omega
    have w5:IntKind.i64.wrap ((P.length+(lo+hi) / 2:Nat):Int)=((P.length+(lo+hi) / 2:Nat):Int):=mV rfl (by omega);have hm3:lo≤(lo+hi) / 2:=by omega
    have hm4:(lo+hi) / 2<hi:=by omega
    generalize (lo+hi) / 2=m at *
    have w6:((P.length+M+(P.length+X.length):Nat):Int)-1-((P.length+m:Nat):Int)=((P.length+(X.length+(M-1-m)):Nat):Int):=by omega
    have c1:=zR (d:=D) (j:=P.length+m) (by omega);have c2:=zR (d:=D) (j:=P.length+(X.length+(M-1-m))) (by omega);rw[gx m (by omega)]at c1;rw[gy _ (by omega)]at c2;have b1:=inb (a:=P.length+m) (n:=N) (by omega);have b2:=inb (a:=P.length+(X.length+(M-1-m))) (n:=N) (by omega);have hxm:=Y2 (l:=X) (i:=m) (by omega);have hym:=Y2 (l:=Y) (i:=M-1-m) (by omega);have hB1:=hbf _ hxm _ hym;have cc:=hc (Y.getD (M-1-m) default) (X.getD m default) (hQY _ hym) (hQX _ hxm);simp -implicitDefEqProofs (disch:=omega) only[hki,w2,w3,w4,w5,w6,c1,c2,b1,b2,go_sem,simprocAttr];refine dA (cc) ?_ ?_
    ·simp only[aK,aZ,aBo]
    simp -implicitDefEqProofs (disch:=omega) only[go_sem,simprocAttr];by_cases hcc:c (Y.getD (M-1-m) default) (X.getD m default)<0
    ·simp -implicitDefEqProofs (disch:=omega) only[zt hcc,go_sem,simprocAttr];exact⟨(lo,m),⟨⟨h0,hm3,by dsimp only;omega⟩,h3,fun _=>hB1.1 hcc⟩,by dsimp only;omega,rfl,rfl⟩
    ·simp -implicitDefEqProofs (disch:=omega) only[zf hcc,go_sem,simprocAttr];exact⟨(m+1,hi),⟨⟨by dsimp only;omega,by dsimp only;omega,h2⟩,fun _=>by dsimp only;rw[show M-(m+1)=M-1-m by omega];exact hB1.2 hcc,h4⟩,by dsimp only;omega,rfl,rfl⟩
   ·have hki:=uK (a:=P.length+lo) (b:=P.length+hi) (by omega);obtain rfl:lo=hi:=by omega
    simp -implicitDefEqProofs (disch:=omega) only[hki,go_sem,simprocAttr];exact⟨lo,⟨⟨h0,h2⟩,h3,h4⟩,rfl⟩
  rintro s ⟨⟨k1,k2⟩,k3,k4⟩ j1;have hsX:s≤X.length:=by omega
  have heY:M-s≤Y.length:=by omega
  have hcr:=bMg tr hX hY hsX heY (fun h1 h2=>k3 (by omega)) (fun h1 h2=>by rw[show M-s-1=M-1-s by omega];exact k4 (by omega));have pA:=A8 hX s;have pB:=A9 hX s;have pC:=A8 hY (M-s);have pD:=A9 hY (M-s);have qA:∀x∈X.take s,x∈X:=fun x h=>dH h;have qB:∀x∈X.drop s,x∈X:=fun x h=>fL h;have qC:∀x∈Y.take (M-s),x∈Y:=fun x h=>dH h;have qD:∀x∈Y.drop (M-s),x∈Y:=fun x h=>fL h;have lA:(X.take s).length=s:=by rw[List.length_take];omega
  have lB:(X.drop s).length=X.length-s:=dI;have lC:(Y.take (M-s)).length=M-s:=by rw[List.length_take];omega
  have lD:(Y.drop (M-s)).length=Y.length-(M-s):=dI;have eX:X=X.take s++X.drop s:=(cI _ _).symm;have eY:Y=Y.take (M-s)++Y.drop (M-s):=(cI _ _).symm;have v2:((P.length+M+(P.length+X.length):Nat):Int)-((P.length+s:Nat):Int)=((P.length+(X.length+(M-s)):Nat):Int):=by omega
  have hjoin:∀Z1 Z2:List TE,Z1.Perm (X.take s++Y.take (M-s))→Z2.Perm (X.drop s++Y.drop (M-s))→Z1.Pairwise R→Z2.Pairwise R→(Z1++Z2).Perm (X++Y)∧(Z1++Z2).Pairwise R:=fun Z1 Z2 h1 h2 h3 h4=>bCd h1 h2 h3 h4 hcr;generalize X.take s=A at *
  generalize X.drop s=B at *
  generalize Y.take (M-s)=C at *
  generalize Y.drop (M-s)=E at *
  iterate 1 (refine bCp fun K hK=>?_;simp -implicitDefEqProofs (disch:=omega) only[v2,go_sem,simprocAttr];(repeat'(first|refine gT ?_ ?_|refine gF ?_ ?_|refine gC ?_ ?_|refine bX (by omega) ?_|(intro hr;have hc:=hr;(try simp only[zdz]at hc);simp -implicitDefEqProofs (disch:=omega) only[hr,v2,go_sem,simprocAttr];(try clear hr))));rw[← hK];clear hK)
  refine bSz (rp 5 .k (rp 13 .j (.k::.j::.k::.j::.j::.j::.k::(rp 195 .j [])))) ([.arr false 1 ((P++((A++C)++((B++E)++S))).map ce)]) ?_ ?_
  ·by_cases hr:s<X.length
   ·have d1:=wK (a:=P.length+s) (b:=P.length+X.length) (by omega);by_cases hr2:0<M-s
    ·have d2:=wK (a:=P.length+X.length) (b:=P.length+(X.length+(M-s))) (by omega);simp -implicitDefEqProofs (disch:=omega) only[d1,d2,go_sem,simprocAttr];refine fM (bQj (P++A) B C (E++S) _ (by rw[eX,eY];simp) (by rw[List.length_append];omega) (by rw[List.length_append];omega) (by rw[List.length_append];omega) (by omega) (by omega) hN hB) ?_;rintro r h' ⟨rfl,rfl⟩;simp -implicitDefEqProofs (disch:=omega) only[go_sem,simprocAttr]
    ·have d2:=uK (a:=P.length+X.length) (b:=P.length+(X.length+(M-s))) (by omega);simp -implicitDefEqProofs (disch:=omega) only[d1,d2,go_sem,simprocAttr];rw[eX,eY,List.eq_nil_of_length_eq_zero (l:=C) (by omega)];simp
   ·have d1:=uK (a:=P.length+s) (b:=P.length+X.length) (by omega);simp -implicitDefEqProofs (disch:=omega) only[d1,go_sem,simprocAttr];rw[eX,eY,List.eq_nil_of_length_eq_zero (l:=B) (by omega)];simp
  intro j2;refine aKs (fun(Z:List TE)=>(rp 5 .k (rp 13 .j (.k::.j::.k::.j::.j::.j::.k::(rp 195 .j []))))) (fun Z=>[.arr false 1 ((P++(Z++((B++E)++S))).map ce)]) (fun Z=>Z.Perm (A++C)∧Z.Pairwise R) ?_ ?_
  ·by_cases hr:0<s
   ·have d1:=wK (a:=P.length) (b:=P.length+s) (by omega);by_cases hr2:s<M
    ·have d2:=wK (a:=P.length+s) (b:=P.length+M) (by omega);simp -implicitDefEqProofs (disch:=omega) only[d1,d2,go_sem,simprocAttr];refine fM (ih (A.length+C.length) (by omega) P A C ((B++E)++S) _ N _ _ _ (bK _) (by simp) rfl (by omega) (by omega) (by rw[← hN,eX,eY];simp only[List.length_append];omega) hB (by omega) (by omega) pA pC (fun x hx y hy=>hbf x (qA x hx) y (qC y hy)) (fun x hx=>hQX x (qA x hx)) (fun y hy=>hQY y (qC y hy))) ?_;rintro r h' ⟨rfl,Z,z1,z2,rfl⟩;simp -implicitDefEqProofs (disch:=omega) only[go_sem,simprocAttr];exact⟨Z,⟨z1,z2⟩,rfl⟩
    ·have d2:=uK (a:=P.length+s) (b:=P.length+M) (by omega);simp -implicitDefEqProofs (disch:=omega) only[d1,d2,go_sem,simprocAttr];exact⟨A++C,⟨mX _,by rw[List.eq_nil_of_length_eq_zero (l:=C) (by omega),List.append_nil];exact pA⟩,by simp⟩
   ·have d1:=uK (a:=P.length) (b:=P.length+s) (by omega);simp -implicitDefEqProofs (disch:=omega) only[d1,go_sem,simprocAttr];exact⟨A++C,⟨mX _,by rw[List.eq_nil_of_length_eq_zero (l:=A) (by omega),aJ];exact pC⟩,by simp⟩
  rintro Z ⟨z1,z2⟩ j3;have hZl:=z1.length_eq;rw[List.length_append]at hZl;by_cases hr:M<X.length+(M-s)
  ·have d1:=wK (a:=P.length+M) (b:=P.length+(X.length+(M-s))) (by omega);by_cases hr2:M-s<Y.length
   ·have d2:=wK (a:=P.length+(X.length+(M-s))) (b:=P.length+X.length+Y.length) (by omega);simp -implicitDefEqProofs (disch:=omega) only[d1,d2,go_sem,simprocAttr];refine fM (ih (B.length+E.length) (by omega) (P++Z) B E S _ N _ _ _ (bK _) (by simp) (by rw[List.length_append];omega) (by rw[List.length_append];omega) (by rw[List.length_append];omega) (by rw[← hN,eX,eY];simp only[List.length_append];omega) hB (by omega) (by omega) pB pD (fun x hx y hy=>hbf x (qB x hx) y (qD y hy)) (fun x hx=>hQX x (qB x hx)) (fun y hy=>hQY y (qD y hy))) ?_;rintro r h' ⟨rfl,Z2,z3,z4,rfl⟩;simp -implicitDefEqProofs (disch:=omega) only[go_sem,simprocAttr];obtain⟨y1,y2⟩:=hjoin Z Z2 z1 z3 z2 z4;exact⟨Z++Z2,y1,y2,by simp⟩
   ·have d2:=uK (a:=P.length+(X.length+(M-s))) (b:=P.length+X.length+Y.length) (by omega);simp -implicitDefEqProofs (disch:=omega) only[d1,d2,go_sem,simprocAttr];obtain⟨y1,y2⟩:=hjoin Z (B++E) z1 (mX _) z2 (by rw[List.eq_nil_of_length_eq_zero (l:=E) (by omega),List.append_nil];exact pB);exact⟨Z++(B++E),y1,y2,by simp⟩
  ·have d1:=uK (a:=P.length+M) (b:=P.length+(X.length+(M-s))) (by omega);simp -implicitDefEqProofs (disch:=omega) only[d1,go_sem,simprocAttr];obtain⟨y1,y2⟩:=hjoin Z (B++E) z1 (mX _) z2 (by rw[List.eq_nil_of_length_eq_zero (l:=B) (by omega),aJ];exact pD);exact⟨Z++(B++E),y1,y2,by simp⟩
theorem cGi(R:TE→TE→Prop)(c:TE→TE→Int)(Q:TE→Prop)(tr:∀a b c,R a b→R b c→R a c)(hc:bSe Q c):∀n,cIg R c Q n:=by
 intro n;induction n using Nat.strongRecOn with
 |_ n ih=>
  intro P X Y S D N a m b hn hD ha hm hb hN hB hX0 hY0 hX hY hbf hQX hQY;subst hD ha hm hb;by_cases h1:X.length=1
  ·obtain⟨x,rfl⟩:=nI.1 h1;exact bQm R c Q tr hc P Y S x N hN hB hY (fun y hy=>hbf x cQ y hy) (hQX x cQ) hQY
  ·by_cases h2:Y.length=1
   ·obtain⟨y,rfl⟩:=nI.1 h2;exact bQl R c Q tr hc P X S y N hN hB (by omega) hX (fun x hx=>hbf x hx y cQ) (hQY y cQ) hQX
   ·exact bQk R c Q tr hc P X Y S N hN hB (by omega) (by omega) hX hY hbf hQX hQY (fun k hk=>ih k (by omega))
theorem aYm(R:TE→TE→Prop)(c:TE→TE→Int)(Q:TE→Prop)(tr:∀a b c,R a b→R b c→R a c)(hc:bSe Q c)(P U S D:List TE){a b N:Nat}(hD:D=P++(U++S))(ha:a=P.length)(hb:b=P.length+U.length)(hN:D.length=N)(hB:N≤1000000)(hQ:∀x∈U,Q x)(hU:U.Pairwise (Bf R c)):ACalls Tryz.prog G0 263 [.hs 0 0 N false,.i .i64 (a:Nat),.i .i64 (b:Nat),.fn 192 [] []] [.arr false 1 (D.map ce)] (fun r h'=>r=.tup []∧∃Z:List TE,Z.Perm U∧Z.Pairwise R∧h'=[.arr false 1 ((P++(Z++S)).map ce)]):=by
 subst ha hb hD;have:=bXa R c Q tr hc P U S N (by simpa using hN) hB hQ hU;simpa only[bU]using this
def Chk(bs:Nat):List (List TE)→Prop
 | []=>True
 | [A]=>0<A.length∧A.length≤bs
 |A::B::L=>A.length=bs∧Chk bs (B::L)
theorem I3{bs:Nat}{Z:List TE}(h0:0<Z.length)(h1:Z.length≤bs):∀{L:List (List TE)},(∀A∈L,A.length=bs)→Chk bs (L++[Z])
 | [],_=>⟨h0,h1⟩
 | [A],h=>⟨h A cQ,h0,h1⟩
 |A::B::L,h=>⟨h A cQ,I3 h0 h1 (L:=B::L) fun x hx=>h x (cJ _ hx)⟩
theorem aJu{bs:Nat}(h0:0<bs):∀{L:List (List TE)},(∀A∈L,A.length=bs)→Chk bs L
 | [],_=>trivial
 | [A],h=>by have:=h A cQ;exact⟨by omega,by omega⟩
 |A::B::L,h=>⟨h A cQ,aJu h0 (L:=B::L) fun x hx=>h x (cJ _ hx)⟩
theorem cAd{bs:Nat}{A:List TE}{L:List (List TE)}(h:Chk bs (A::L)):Chk bs L:=by
 cases L with
 |nil=>trivial
 |cons B L=>exact h.2
theorem aNw{bs:Nat}{A:List TE}{L:List (List TE)}(h0:0<bs)(h:Chk bs (A::L)):0<A.length∧A.length≤bs:=by
 cases L with
 |nil=>exact h
 |cons B L=>have:=h.1;exact⟨by omega,by omega⟩
theorem bRc{bs:Nat}(h0:0<bs){L:List (List TE)}(h:Chk bs L)(hl:2*bs≤L.flatten.length):∃A B M,L=A::B::M∧A.length=bs∧B.length=bs∧Chk bs M:=by
 cases L with
 |nil=>simp at hl;omega
 |cons A L=>
  have a1:=aNw h0 h;cases L with
  |nil=>simp at hl;omega
  |cons B L=>
   have b1:=aNw h0 h.2;refine⟨A,B,L,rfl,h.1,?_,cAd h.2⟩;cases L with
   |nil=>simp at hl;have:=h.1;omega
   |cons C L=>exact h.2.1
theorem bRe{bs:Nat}(h0:0<bs){L:List (List TE)}(h:Chk bs L)(hl:L.flatten.length<2*bs):L=[]∨(∃A,L=[A]∧0<A.length∧A.length≤bs)∨(∃A B,L=[A,B]∧A.length=bs∧0<B.length∧B.length≤bs):=by
 cases L with
 |nil=>exact .inl rfl
 |cons A L=>
  cases L with
  |nil=>exact .inr (.inl ⟨A,rfl,h⟩)
  |cons B L=>
   cases L with
   |nil=>exact .inr (.inr ⟨A,B,rfl,h.1,h.2⟩)
   |cons C L=>
    have:=h.1;have:=h.2.1;have:=aNw h0 h.2.2;simp at hl;omega
theorem bRd{bs:Nat}(h0:0<bs){L:List (List TE)}(h:Chk bs L)(hl:L.flatten.length≤bs):L=[]∨∃A,L=[A]:=by
 cases L with
 |nil=>exact .inl rfl
 |cons A L=>
  cases L with
  |nil=>exact .inr ⟨A,rfl⟩
  |cons B L=>
   have:=h.1;have:=aNw h0 h.2;simp at hl;omega
def Cr(R:TE→TE→Prop)(c:TE→TE→Int)(A B:List TE):Prop:=∀x∈A,∀y∈B,Bf R c x y
structure Blk(R:TE→TE→Prop)(c:TE→TE→Int)(U:List TE)(L:List (List TE)):Prop where
 pw:∀A∈L,A.Pairwise R
 cr:L.Pairwise (Cr R c)
 pm:L.flatten.Perm U
theorem aGp{R:TE→TE→Prop}{c:TE→TE→Int}{U:List TE}{d m:List (List TE)}{A B Z:List TE}(h:Blk R c U (d++A::B::m))(hz:Z.Perm (A++B))(hp:Z.Pairwise R):Blk R c U ((d++[Z])++m):=by
 obtain⟨h1,h2,h3⟩:=h;refine⟨fun X hX=>?_,?_,?_⟩
 ·rw[bU]at hX;rcases bM.1 hX with h|h
  ·exact h1 X (dK _ h)
  ·rcases cH.1 h with rfl|h
   ·exact hp
   ·exact h1 X (eO _ (cJ _ (cJ _ h)))
 ·rw[bU]
  obtain⟨p1,p2,p3⟩:=eC.1 h2;obtain⟨p4,p5⟩:=gH.1 p2;obtain⟨p6,p7⟩:=gH.1 p5;refine eC.2 ⟨p1,gH.2 ⟨fun X hX x hx y hy=>?_,p7⟩,fun X hX W hW=>?_⟩
  ·rcases bM.1 (hz.mem_iff.1 hx)with h|h
   ·exact p4 X (cJ _ hX) x h y hy
   ·exact p6 X hX x h y hy
  ·rcases cH.1 hW with rfl|hW
   ·intro x hx y hy;rcases bM.1 (hz.mem_iff.1 hy)with h|h
    ·exact p3 X hX A cQ x hx y h
    ·exact p3 X hX B (cJ _ cQ) x hx y h
   ·exact p3 X hX W (cJ _ (cJ _ hW))
 ·refine List.Perm.trans ?_ h3;simp only[jM,fB,fP,List.append_nil,bU];refine wQ _ ?_;rw[← bU];exact hz.append_right _
theorem bLe{R:TE→TE→Prop}{c:TE→TE→Int}{U:List TE}{d m:List (List TE)}{A B:List TE}(h:Blk R c U (d++A::B::m)):A.Pairwise R∧B.Pairwise R∧∀x∈A,∀y∈B,Bf R c x y:=by
 obtain⟨h1,h2,h3⟩:=h;obtain⟨p1,p2,p3⟩:=eC.1 h2;exact⟨h1 A (by simp),h1 B (by simp),(gH.1 p2).1 B cQ⟩
structure Blo(R:TE→TE→Prop)(c:TE→TE→Int)(U:List TE)(L:List (List TE))(V:List TE):Prop where
 pw:∀A∈L,A.Pairwise R
 cr:L.Pairwise (Cr R c)
 cv:Cr R c L.flatten V
 vv:V.Pairwise (Bf R c)
 pm:(L.flatten++V).Perm U
theorem aNy{R:TE→TE→Prop}{c:TE→TE→Int}{U:List TE}{L:List (List TE)}{V W Z:List TE}(h:Blo R c U L (V++W))(hz:Z.Perm V)(hp:Z.Pairwise R):Blo R c U (L++[Z]) W:=by
 obtain⟨h1,h2,h3,h4,h5⟩:=h;obtain⟨v1,v2,v3⟩:=eC.1 h4;refine⟨fun A hA=>?_,eC.2 ⟨h2,aCh _ _,fun A hA B hB x hx y hy=>?_⟩,fun x hx y hy=>?_,v2,?_⟩
 ·rcases bM.1 hA with h|h
  ·exact h1 A h
  ·rw[aV.1 h];exact hp
 ·rw[aV.1 hB]at hy;exact h3 x (List.mem_flatten.2 ⟨A,hA,hx⟩) y (dK _ (hz.mem_iff.1 hy))
 ·rw[jM,fB,fP,List.append_nil]at hx;rcases bM.1 hx with h|h
  ·exact h3 x h y (eO _ hy)
  ·exact v3 x (hz.mem_iff.1 h) y hy
 ·refine List.Perm.trans ?_ h5;rw[jM,fB,fP,List.append_nil,bU];exact wQ _ (hz.append_right _)
theorem bVk{a b:Nat}(h:a≤b):decide (((a:Nat):Int)≤((b:Nat):Int))=true:=zt (by omega)
theorem bVl{a b:Nat}(h:b<a):decide (((a:Nat):Int)≤((b:Nat):Int))=false:=zf (by omega)
theorem bXc(R:TE→TE→Prop)(c:TE→TE→Int)(Q:TE→Prop)(tr:∀a b c,R a b→R b c→R a c)(hc:bSe Q c)(U:List TE)(N:Nat)(hN:U.length=N)(hB:N≤1000000)(hQ:∀x∈U,Q x)(hU:U.Pairwise (Bf R c)): ACalls Tryz.prog G0 238 [.hs 0 0 N false,.i .i64 (N:Nat),.fn 192 [] []] [.arr false 1 (U.map ce)] (fun r h'=>r=.tup []∧∃Z:List TE,Z.Perm U∧Z.Pairwise R∧h'=[.arr false 1 (Z.map ce)]):=by
 refine eJ (rx:=true) (th:=fun _=>none) cZ Tryz.func238 ?_
 ·simp -implicitDefEqProofs (disch:=omega) only[Tryz.f238,aQ,cB,dM,aH,aJ,aKk,List.replicate,simprocAttr];iterate 2 (refine bCp fun K hK=>?_;simp -implicitDefEqProofs (disch:=omega) only[go_sem,simprocAttr];(repeat'(first|refine gT ?_ ?_|refine gF ?_ ?_|refine gC ?_ ?_|refine bX (by omega) ?_|(intro hr;have hc:=hr;(try simp only[zdz]at hc);simp -implicitDefEqProofs (disch:=omega) only[hr,go_sem,simprocAttr];(try clear hr))));rw[← hK];clear hK)
  refine aKs (fun(q:List (List TE)×List TE)=>(.k::.k::.k::.j::.j::.j::.k::.v (.i .i64 (q.1.flatten.length:Nat))::(rp 55 .j []))) (fun q=>[.arr false 1 ((q.1.flatten++q.2).map ce)]) (fun q=>((∀A∈q.1,A.length=20)∧q.2.length<20)∧Blo R c U q.1 q.2) ?_ ?_
  ·refine zg ?_;refine dF (fun(q:List (List TE)×List TE)=>(rp 7 .k (.v (.i .i64 (q.1.flatten.length:Nat))::.v (.i .i64 (q.1.flatten.length+20:Nat))::.k::.k::(rp 12 .j (rp 40 .k []))))) (fun q=>[.arr false 1 ((q.1.flatten++q.2).map ce)]) (fun q=>(∀A∈q.1,A.length=20)∧Blo R c U q.1 q.2) (fun q=>q.2.length) (([],U)) ⟨fun A h=>(by cases h),⟨fun A h=>(by cases h),List.Pairwise.nil,fun x hx=>(by cases hx),hU,by simp⟩⟩ (by simp[avs,avb,avi,avo,eU]) (by simp[hZ]) ?_;rintro⟨L,V⟩ j ⟨h1,h2⟩;dsimp only at h1 h2;have hlen:=h2.pm.length_eq;rw[List.length_append]at hlen;by_cases hlt:L.flatten.length+20≤N
   ·have hki:=bVk hlt;have w1:((L.flatten.length+20:Nat):Int)+20=((L.flatten.length+20+20:Nat):Int):=by omega
    obtain⟨V1,V2,rfl,l1,l2⟩:=cEw (l:=V) (k:=20) (by omega);refine zh hki ?_;refine fM (aYm R c Q tr hc L.flatten V1 V2 _ rfl rfl (by omega) (by simp only[List.length_append]at hlen ⊢;omega) hB (fun x hx=>hQ x (h2.pm.mem_iff.1 (by simp[hx]))) (eC.1 h2.vv).1) ?_;rintro r h' ⟨rfl,Z,z1,z2,rfl⟩;refine zh w1 ?_;have hz:=z1.length_eq;refine⟨(L++[Z],V2),⟨fun A hA=>?_,aNy h2 z1 z2⟩,?_,?_,?_,?_⟩
    ·rcases bM.1 hA with h|h
     ·exact h1 A h
     ·rw[aV.1 h];omega
    ·dsimp only;omega
    ·simp
    ·simp;omega
    ·simp;omega
   ·have hki:=bVl (a:=L.flatten.length+20) (b:=N) (by omega);refine zh hki ?_;exact⟨(L,V),⟨⟨h1,by dsimp only;omega⟩,h2⟩,rfl,rfl⟩
  rintro⟨L,V⟩ ⟨⟨h1,h2⟩,h3⟩ j;dsimp only at h1 h2 h3;refine aKs (fun(L:List (List TE))=>(.k::.k::.k::.j::.j::.j::.k::(rp 56 .j []))) (fun L=>[.arr false 1 (L.flatten.map ce)]) (fun L=>Chk 20 L∧Blk R c U L) ?_ ?_
  ·have hlen:=h3.pm.length_eq;rw[List.length_append]at hlen;refine zg ?_;refine fM (aYm R c Q tr hc L.flatten V [] _ (by simp) rfl (by omega) (by rw[List.length_append];omega) hB (fun x hx=>hQ x (h3.pm.mem_iff.1 (by simp[hx]))) h3.vv) ?_;rintro r h' ⟨rfl,Z,z1,z2,rfl⟩;refine zg ?_;have hz:=z1.length_eq;by_cases h0:0<V.length
   ·have:=aNy (W:=[]) (by rw[List.append_nil];exact h3) z1 z2;exact⟨L++[Z],⟨I3 (by omega) (by omega) h1,this.pw,this.cr,by simpa using this.pm⟩,by simp⟩
   ·have e:Z=[]:=List.eq_nil_of_length_eq_zero (by omega);have e2:V=[]:=List.eq_nil_of_length_eq_zero (by omega);subst e e2;exact⟨L,⟨aJu (by omega) h1,h3.pw,h3.cr,by simpa using h3.pm⟩,by simp⟩
  clear h1 h2 h3;rintro L1 ⟨h1,h2⟩ j2;refine zg ?_;refine dF (fun(q:Nat×List (List TE))=>(rp 6 .k (.v (.i .i64 (q.1:Nat))::.j::.j::.j::(rp 18 .k (rp 35 .j []))))) (fun q=>[.arr false 1 (q.2.flatten.map ce)]) (fun q=>(0<q.1∧Chk q.1 q.2)∧Blk R c U q.2) (fun q=>N-q.1) ((20,L1)) ⟨⟨by simp,h1⟩,h2⟩ (by simp[avs,avb,avi,avo,eU]) (by simp[hZ]) ?_;clear h1 h2;rintro⟨bs,L2⟩ j3 ⟨⟨h0,h1⟩,h2⟩;dsimp only at h0 h1 h2;have hlen:=h2.pm.length_eq;by_cases hlt:bs<N
  ·have hki:=wK hlt;have w1:IntKind.i64.wrap (2*((bs:Nat):Int))=((2*bs:Nat):Int):=mV (by omega) (by omega);have w0:2*((bs:Nat):Int)=((2*bs:Nat):Int):=by omega
   have w4:((bs:Nat):Int)*2=((2*bs:Nat):Int):=by omega
   refine zh (zA2 hki (zA2 w1 w0)) ?_;refine dF (fun(q:List (List TE)×List (List TE))=>(rp 7 .k (.v (.i .i64 (q.1.flatten.length:Nat))::.v (.i .i64 (q.1.flatten.length+2*bs:Nat))::(rp 24 .k (rp 16 .j (rp 14 .k [])))))) (fun q=>[.arr false 1 ((q.1.flatten++q.2.flatten).map ce)]) (fun q=>((∀A∈q.1,A.length=2*bs)∧Chk bs q.2)∧Blk R c U (q.1++q.2)) (fun q=>q.2.length) (([],L2)) ⟨⟨fun A h=>(by cases h),h1⟩,h2⟩ (by simp[avs,avb,avi,avo,eU]) (by simp[hZ]) ?_;clear h1 h2 hlen;rintro⟨d,M⟩ j4 ⟨⟨h1,h2⟩,h3⟩;dsimp only at h1 h2 h3;have hlen:=h3.pm.length_eq;rw[jM,List.length_append]at hlen;have w2:((d.flatten.length:Nat):Int)+((bs:Nat):Int)=((d.flatten.length+bs:Nat):Int):=by omega
   have w3:((d.flatten.length+2*bs:Nat):Int)+((2*bs:Nat):Int)=((d.flatten.length+2*bs+2*bs:Nat):Int):=by omega
   have hQ2:∀x∈(d++M).flatten,Q x:=fun x hx=>hQ x (h3.pm.mem_iff.1 hx);have hDl:(d.flatten++M.flatten).length=N:=by rw[List.length_append];omega
   by_cases hlt2:d.flatten.length+2*bs≤N
   ·have hki2:=bVk hlt2;obtain⟨A,B,M,rfl,a1,b1,m1⟩:=bRc h0 h2 (by omega);obtain⟨g1,g2,g3⟩:=bLe h3;refine zh (zA2 hki2 w2) ?_;refine fM (cGi R c Q tr hc (A.length+B.length) d.flatten A B M.flatten _ N _ _ _ (bK _) (by simp) rfl (by omega) (by omega) hDl hB (by omega) (by omega) g1 g2 g3 (fun x hx=>hQ2 x (by simp[hx])) (fun x hx=>hQ2 x (by simp[hx]))) ?_;rintro r h' ⟨rfl,Z,z1,z2,rfl⟩;have hz:=z1.length_eq;rw[List.length_append]at hz;refine zh (zA2 w0 (zA2 w1 w3)) ?_;refine⟨(d++[Z],M),⟨⟨fun X hX=>?_,m1⟩,aGp h3 z1 z2⟩,?_,?_,?_,?_⟩
    ·rcases bM.1 hX with h|h
     ·exact h1 X h
     ·rw[aV.1 h];omega
    ·dsimp only;omega
    ·simp
    ·simp;omega
    ·simp;omega
   ·have hki2:=bVl (a:=d.flatten.length+2*bs) (b:=N) (by omega);rcases bRe h0 h2 (by omega)with rfl|⟨A,rfl,a1,a2⟩|⟨A,B,rfl,a1,b1,b2⟩
    ·have hkj:=uK (a:=d.flatten.length+bs) (b:=N) (by rw[fP,cB]at hlen;omega);refine zh (zA2 hki2 (zA2 w2 (zA2 hkj w4))) ?_;exact⟨(2*bs,d),⟨⟨by dsimp only;omega,aJu (by omega) h1⟩,by simpa using h3⟩,by dsimp only;omega,by simp,rfl⟩
    ·have hl2:N=d.flatten.length+A.length:=by rw[← hN,← hlen];simp
     have hkj:=uK (a:=d.flatten.length+bs) (b:=N) (by omega);refine zh (zA2 hki2 (zA2 w2 (zA2 hkj w4))) ?_;exact⟨(2*bs,d++[A]),⟨⟨by dsimp only;omega,I3 a1 (by omega) h1⟩,h3⟩,by dsimp only;omega,by simp,rfl⟩
    ·have hl2:N=d.flatten.length+(A.length+B.length):=by rw[← hN,← hlen];simp
     have hkj:=wK (a:=d.flatten.length+bs) (b:=N) (by omega);obtain⟨g1,g2,g3⟩:=bLe h3;refine zh (zA2 hki2 (zA2 w2 hkj)) ?_;refine fM (cGi R c Q tr hc (A.length+B.length) d.flatten A B [] _ N _ _ _ (bK _) (by simp) rfl (by omega) (by omega) hDl hB (by omega) (by omega) g1 g2 g3 (fun x hx=>hQ2 x (by simp[hx])) (fun x hx=>hQ2 x (by simp[hx]))) ?_;rintro r h' ⟨rfl,Z,z1,z2,rfl⟩;have hz:=z1.length_eq;rw[List.length_append]at hz;refine zh w4 ?_;exact⟨(2*bs,d++[Z]),⟨⟨by dsimp only;omega,I3 (by omega) (by omega) h1⟩,by have:=aGp h3 z1 z2;simpa using this⟩,by dsimp only;omega,by simp,rfl⟩
  ·have hki:=uK (a:=bs) (b:=N) (by omega);refine zh hki ?_;rcases bRd h0 h1 (by omega)with rfl|⟨A,rfl⟩
   ·exact⟨[],by simpa using h2.pm,List.Pairwise.nil,by simp⟩
   ·exact⟨A,by simpa using h2.pm,h2.pw A cQ,by simp⟩
end Go.Proofs.YtdjcggcjlphdoaaGreatDoor
namespace Go.Proofs.YtdjcggcjlphdoaaGreatDoor
open Go Go.Vo Go.RowKit Go.Shelf Go.Proofs
open Nat (reduceAdd reduceSub reduceMul reduceLeDiff reduceLT reduceEqDiff)
open Int (reduceNeg)
attribute [local go_sem] Oper.semAt_some
def aEd(b o n i:Nat):Value:=.slice (some ⟨b,o+i*12,none⟩) (min 2 (n-2*i)) (min 2 (n-2*i))
def F8(b o n k:Nat):List Value:=(List.range k).map (aEd b o n)
theorem aQa(b o n k:Nat):F8 b o n (k+1)=F8 b o n k++[aEd b o n k]:=by simp[F8,sR]
theorem N5(b o n k:Nat):(F8 b o n k).length=k:=by simp[F8]
theorem bTb{F:Fence}{n:Nat}{P:Program}{c:Code}{Q:Exit→Act→World→Prop}{a:Act}{w w1:World}{A:Act}(h:c.wpIn F n P (fun e a' w'=>e=.normal∧a'=A∧w'=w1) a w)(hq:Q .normal A w1):c.wpIn F n P Q a w:=
 wpIn_mono h (by rintro _ _ _ ⟨rfl,rfl,rfl⟩;exact hq)
theorem bGy(F:Fence)(n:Nat)(hf:F.fn 236)(hro:F.round=none)(hn:1≤n)(l Bs Os Bn On n₀ b o m cap:Nat)(w:World)(N:Nat)(hm:N≤2000000)(hcap:N≤cap)(hN:m=(N+1) / 2)(hBs:Bs<n₀)(hBn:Bn<n₀)(J:List Value→World→Prop)
 (hB:∀xs W,J xs W→Below n₀ w W) (hD:∀xs W,J xs W→J xs W.drew)
 (hY:∀pre x W,J pre W→pre.length<m→x=aEd b o N pre.length→YieldAt F (n-1) Tryz.prog l #[x] W fun e W'=>e=.returned (.bool true)∧J (pre++[x]) W')
 (W:World) (hs:w.cell? ⟨Bs,Os,none⟩=some (.slice (some ⟨b,o,none⟩) N cap)) (hk:w.cell? ⟨Bn,On,none⟩=some (.int .i64 2)) (h0:J [] W) :
 CallsIn F n Tryz.prog 236 #[.func (.yield l) #[] #[],.pointer (some ⟨Bs,Os,none⟩),.pointer (some ⟨Bn,On,none⟩)] W fun e W'=>(∃v,e=.returned v)∧J (F8 b o N m) W':=by
 refine callsIn_of_wp Tryz.func236 rfl hf ?_ hro;simp only[Tryz.ntmps236,gN,aQ,cB,Nat.reduceAdd,Nat.reduceSub,xT,xS,U6,D3,aJ,aH];gi_wp2;gi_loopw [4] (fun i wr=>∃k:Nat,k≤m∧i=.int .i64 (2*k:Nat)∧J (F8 b o N k) wr) (fun i _=>2*m-(intOf i).toNat);case atStart=>exact⟨0,bJ _,rfl,h0⟩
 case round=>
  obtain⟨k,hkm,rfl,hJs⟩:=hrel;have hb:=hB _ _ hJs;have hs1:=(hb.cell (p:=⟨Bs,Os,none⟩) hBs).trans hs;have hk1:=(hb.cell (p:=⟨Bn,On,none⟩) hBn).trans hk;have hmx:Tryz.prog.follows .mixedOrders=true:=cZ;clear hs hb;by_cases hlt:k<m
  ·have hki:decide (((2*k:Nat):Int)<(N:Int))=true:=zt (by omega);have hkj:2*(k:Int)<(N:Int):=by omega
   gi_wp2;have hck:¬cap=2*k:=by omega
   have hk0:(0:Int)≤2*(k:Int):=by omega
   have hk1m:2*(k:Int)≤(N:Int):=by omega
   apply bTb (w1:=wr.drew)
   ·gi_region_with_o (fail);all_goals exact⟨rfl,rfl,rfl⟩
   ·obtain⟨e,he⟩:∃e,e=min 2 (N-2*k):=⟨_,rfl⟩;have ht:(2*(k:Int)).toNat=2*k:=by omega
    have hmin1:(if((N-2*k:Nat):Int)<2 then((N-2*k:Nat):Int)else 2)=(e:Int):=by rw[he];split<;>omega
    have hmin2:min 2 ((N-2*k:Nat):Int)=(e:Int):=by omega
    simp only[ht,if_neg hck,hmin1,hmin2];obtain⟨fn,tmps,assign,body,hy,hR⟩:=hY _ (aEd b o N k) _ (hD _ _ hJs) (by rw[N5];exact hlt) (by rw[N5]);rw[aEd,show k*12=2*k*6 by omega,← he]at hy;have he1:2*k+e≤N:=by omega
    have he2:e≤2:=by omega
    have he0:¬e=0:=by omega
    have ha:IntKind.i64.wrap (2*(k:Int)+(e:Int))=2*(k:Int)+(e:Int):=wrap64 (by omega) (by omega);have ht2:(2*(k:Int)+(e:Int)).toNat=2*k+e:=by omega
    have ht3:2*k+e-2*k=e:=by omega
    clear hmin1 hmin2 he;gi_wp2;refine hR.mono ?_;rintro e W3 ⟨rfl,hJ3⟩;have hk3:=((hB _ _ hJ3).cell (p:=⟨Bn,On,none⟩) hBn).trans hk;gi_wp2;go_roundw;case rel=>exact⟨k+1,by omega,by simp;omega,by rw[aQa];exact hJ3⟩
    case measure=>simp[intOf];omega
  ·have hki:decide (((2*k:Nat):Int)<(N:Int))=false:=zf (by omega);have hkj:¬2*(k:Int)<(N:Int):=by omega
   have hkm2:k=m:=by omega
   rw[hkm2,hN]at hJs;gi_wp2;go_end0;exact⟨⟨_,rfl⟩,hJs⟩
theorem aZf(F:Fence)(n:Nat)(hf:F.fn 236)(hro:F.round=none)(l Bs Os Bn On n₀ cap:Nat)(a:Option Addr)(w:World)(hBs:Bs<n₀)(J:List Value→World→Prop)
 (hB:∀xs W,J xs W→Below n₀ w W)
 (W:World) (hs:w.cell? ⟨Bs,Os,none⟩=some (.slice a 0 cap)) (h0:J [] W) :
 CallsIn F n Tryz.prog 236 #[.func (.yield l) #[] #[],.pointer (some ⟨Bs,Os,none⟩),.pointer (some ⟨Bn,On,none⟩)] W fun e W'=>(∃v,e=.returned v)∧J [] W':=by
 refine callsIn_of_wp Tryz.func236 rfl hf ?_ hro;simp only[Tryz.ntmps236,gN,aQ,cB,Nat.reduceAdd,Nat.reduceSub,xT,xS,U6,D3,aJ,aH];gi_wp2;gi_loopw [4] (fun i wr=>i=.int .i64 0∧J [] wr) (fun _ _=>0);case atStart=>exact⟨rfl,h0⟩
 case round=>
  obtain⟨rfl,hJs⟩:=hrel;have hs1:=((hB _ _ hJs).cell (p:=⟨Bs,Os,none⟩) hBs).trans hs;gi_wp2;go_end0;exact⟨⟨_,rfl⟩,hJs⟩
end Go.Proofs.YtdjcggcjlphdoaaGreatDoor
namespace Go.Proofs.YtdjcggcjlphdoaaGreatDoor
open Go Go.Vo Go.RowKit Go.Shelf Go.Proofs Go.Maps
open Nat (reduceAdd reduceSub reduceMul reduceLeDiff reduceLT reduceEqDiff)
open Int (reduceNeg)
attribute [local go_sem] Oper.semAt_some
def bMv:Code→Option (Code×Code)
 | .seq a b=>match bMv a with|some x=>some x|none=>bMv b
 | .block _ c=>bMv c
 | .rangeFunc _ _ a b=>some (a,b)
 |_=>none
noncomputable def apA:Code:=match (Tryz.f235.body.bind bMv)with|some x=>x.1|none=>.skip
noncomputable def apB:Code:=match (Tryz.f235.body.bind bMv)with|some x=>x.2|none=>.skip
noncomputable def apRec(fn:FuncId)(sv:Value)(Bs D:Nat)(st:LoopState)(pend:Option Code):Loop:=
 {state:=st,pending:=pend,fn,tmps := #[.slice none 0 0,sv,.pointer (some ⟨Bs,0,none⟩),undef,.slice none 0 0,undef,sv,undef,undef,undef,undef,undef,undef],params := #[7],assign:=apA,body:=apB,defers:=D}
def RowC(W:World)(v:Value):Prop:=∀g cs T fr,v.ownBlock=some g→W.heap[g]? = some (.cells cs T fr)→kF cs
theorem RowC.kept{W W':World}{row:Option Nat}{sO:Nat}{e:TypeId}{size:Nat}{v:Value}{k:Nat}{xs:List Value}(c:RowC W v)(h:W.ownsRow sO e size v k xs)(hg:W.grownBy W' row)(hne:v.ownBlock=none∨v.ownBlock≠row):RowC W' v:=by
 intro g cs T fr h1 h2;rcases h.2 with⟨rfl,_⟩|⟨g',cap,cur,rfl,_,hgb,_⟩
 ·cases h1
 ·cases h1;rw[hg.block g' (aY.1 hgb).1 (by simpa[Value.ownBlock]using hne)]at h2;exact c g' cs T fr rfl h2
theorem Z3{l:List Value}{k:Nat}(h:∀u∈l,u.oneCell'=true):kF (l.toArray++Builtin.zeroCells (Value.slice none 0 0).cells k):=by
 intro j v hv;have hm:=gX hv;rcases qL.1 hm with hm|hm
 ·exact h v (by simpa using hm)
 ·have:v=.slice none 0 0:=by
   simp[Builtin.zeroCells,Value.cells]at hm;obtain⟨i,_,hi⟩:=hm;rw[Nat.mod_one]at hi;simpa using hi.symm
  subst this;rfl
theorem bCu{P:Program}(w:World)(sO:Nat)(t ty e:TypeId)(i:TypeInfo)(ht:P.underlying t=some (.slice e))(hi:P.info? e=some i)(hz:i.zero=some (.slice none 0 0))(hsize:i.size=1)(hby:i.bytes=24)
 (v:Value) (n:Nat) (xs:List Value) (hown:w.ownsRow sO e 1 v n xs) (hc:RowC w v) (hxs:∀u∈xs,u.oneCell'=true) (ad:Addr) (c:Nat) (x:Value) (hx:w.cell? ad=some x) (h1:x.oneCell'=true) (hn:n+1≤1000000) (hbase:sO≤w.heap.size) :
 ∃v' w',(Builtin.append_ #[t,t] ty #[v,.slice (some ad) 1 c]).run P w=.ok v' w'∧w'.ownsRow sO e 1 v' (n+1) (xs++[x])∧w.grownBy w' v.ownBlock∧RowC w' v':=by
 have hnews:∀j u,[x][j]? = some u→w.cell? (ad.add j)=some u:=fun j u hu=>by
  cases j with
  |zero=>cases hu;exact hx
  |succ j=>simp at hu
 have hmax:n+1≤maxLen:=by rw[show maxLen=9223372036854775807 from rfl];omega
 obtain⟨v',w',hrun,r1,r2,r3⟩:=run_append_own (P:=P) w sO t ty e i (.slice none 0 0) 1 24 ht hi hz hsize hby rfl (by decide) v n xs hown ad 1 c [x] rfl hnews (by simpa using h1) hmax (by omega) hbase;refine⟨v',w',hrun,r1,r2,?_⟩;have hone:∀u∈xs++[x],u.oneCell'=true:=fun u hu=>by
  rcases bM.1 hu with hu|hu
  ·exact hxs u hu
  ·rw[aV.1 hu];exact h1
 have hxl:xs.length=n:=by simpa using hown.1
 rcases hown.2 with⟨rfl,rfl⟩|⟨g,cap,cur,rfl,hbg,hg,hnc,hcm,hcs,htake⟩
 ·have hr:=run_append_nil (P:=P) w t ty e i (.slice none 0 0) ht hi hz ad 1 c [x] (by rw[hsize];rfl) hnews (by omega) (by omega) (by omega);rw[hr]at hrun;cases hrun;intro g cs T fr e1 e2;cases e1;have:=World.alloc_heap_new w.drew (.cells ([x].toArray++Builtin.zeroCells (Value.slice none 0 0).cells (grownCap w 1 0 e-1)) e);rw[show w.drew.heap.size=w.heap.size from rfl]at this;rw[this]at e2;cases e2;exact Z3 (by simpa using h1)
 ·by_cases hroom:n+1≤cap
  ·have hfit:n*i.size+[x].length≤cur.size:=by rw[hsize,hcs,aKo];omega
   have hr:=run_append_room (P:=P) w t ty e i ht hi g n cap cur hg ad 1 c [x] (by rw[hsize];rfl) hnews (by simpa using h1) hroom hfit;rw[hr]at hrun;cases hrun;intro g' cs T fr e1 e2;cases e1;rw[setRow_heap w g cur _ e _ hg]at e2;cases e2;have hcur:=hc g cur _ _ rfl hg;intro j v hv;have hm:=gX hv;have hcm:∀u∈cur.toList,u.oneCell'=true:=fun u hu=>by
    obtain⟨k,hk⟩:=cW.1 hu;exact hcur k u (by simpa using hk)
   have hm2:v∈cur.toList.take (n*i.size)++[x]++cur.toList.drop (n*i.size+[x].length):=by simpa using hm
   rcases bM.1 hm2 with hm3|hm3
   ·rcases bM.1 hm3 with hm4|hm4
    ·exact hcm v (dH hm4)
    ·rw[aV.1 hm4];exact h1
   ·exact hcm v (fL hm3)
  ·have holds:∀j u,xs[j]? = some u→w.cell? ((⟨g,0,none⟩:Addr).add j)=some u:=hown.cells (g:=g) rfl;have hr:=run_append_grow (P:=P) w t ty e i (.slice none 0 0) ht hi hz ⟨g,0,none⟩ n cap xs (by rw[hsize];simpa using hxl) holds ad 1 c [x] (by rw[hsize];rfl) hnews (by omega) (by omega) (growslice_fits (by omega) (by rw[hby];omega));rw[hr]at hrun;cases hrun;intro g' cs T fr e1 e2;cases e1;have:=World.alloc_heap_new w.drew (.cells (xs.toArray++[x].toArray++Builtin.zeroCells (Value.slice none 0 0).cells (grownCap w (n+1) cap e-(n+1))) e);rw[show w.drew.heap.size=w.heap.size from rfl]at this;rw[this]at e2;cases e2;have:=Z3 (k:=grownCap w (n+1) cap e-(n+1)) hone;simpa using this
theorem bLr{F:Fence}{nF:Nat}{P:Program}(w:World){ops:Array Oper}{rest:List Oper}{o:Oper}{a:Act}{Q:Exit→Act→World→Prop}
 (hg:o.guard=none) (s x:Operand) (t:TypeId) (hop:o.op=Op.call {callee:=Callee.builtin Builtin.append,args := #[s,x],argTypes := #[t,t]})
 (sO:Nat) (e:TypeId) (i:TypeInfo) (ht:P.underlying t=some (.slice e)) (hi:P.info? e=some i) (hz:i.zero=some (.slice none 0 0)) (hsize:i.size=1) (hby:i.bytes=24)
 (v:Value) (n:Nat) (xs:List Value) (hs:a.eval s=v) (hown:w.ownsRow sO e 1 v n xs) (hc:RowC w v) (hxs:∀u∈xs,u.oneCell'=true) (ad:Addr) (c:Nat) (y:Value) (hx:a.eval x=.slice (some ad) 1 c) (hy:w.cell? ad=some y) (h1:y.oneCell'=true) (hn:n+1≤1000000) (hbase:sO≤w.heap.size)
 (hK:∀v' w',w'.ownsRow sO e 1 v' (n+1) (xs++[y])→w.grownBy w' v.ownBlock→RowC w' v'→wpListIn F nF P ops Q rest (a.put o.dst v') w') :
 wpListIn F nF P ops Q (o::rest) a w:=by
 refine wpListIn_plain hg fun K hK'=>?_;obtain⟨v',w',hrun,r1,r2,r3⟩:=bCu (P:=P) w sO t o.type e i ht hi hz hsize hby v n xs hown hc hxs ad c y hy h1 hn hbase;unfold Oper.wpIn;refine⟨?_,?_⟩
 ·simp[Oper.about,hop,resolve,Target.leads,eE]
 ·rw[Oper.semAt_plain F _ _ (by rw[hop];intro c hc';cases hc')];simp[execOp,hop,resolve,invoke,builtin,hs,hx,hrun,Result.andThen];exact hK' _ _ (hK v' w' r1 r2 r3)
structure bIk(w0:World)(fn:FuncId)(sv:Value)(Bs l D:Nat)(ss:List Value)(W:World):Prop where
 box:∃v,W.heap[Bs]? = some (.cells #[v] 197 (0,0))∧W.ownsRow w0.heap.size 28 1 v ss.length ss∧RowC W v
 one:∀u∈ss,u.oneCell'=true
 L:W.heap[l]? = some (.loop (apRec fn sv Bs D .ready none))
 K:W.heap[D]? = some (.deferred (some []))
 below:Below w0.heap.size w0 W
theorem bIk.drew{w0:World}{fn:FuncId}{sv:Value}{Bs l D:Nat}{ss:List Value}{W:World}(h:bIk w0 fn sv Bs l D ss W):bIk w0 fn sv Bs l D ss W.drew:=⟨h.box,h.one,h.L,h.K,h.below.drew⟩
theorem bHr(F:Fence)(m:Nat)(w0:World)(fn:FuncId)(hfn:F.fn fn)(sv:Value)(Bs l D:Nat)(hBl:Bs≠l)(hDl:D≠l)(hDB:D≠Bs)(h0B:w0.heap.size≤Bs)(h0l:w0.heap.size≤l)
 (N:Nat) (hN:N≤1000000) (ss:List Value) (ad:Addr) (n c:Nat) (W:World) (h:bIk w0 fn sv Bs l D ss W) (hlen:ss.length<N) :
 YieldAt F m Tryz.prog l #[.slice (some ad) n c] W fun e W'=>e=.returned (.bool true)∧bIk w0 fn sv Bs l D (ss++[.slice (some ad) n c]) W':=by
 have hmx:Tryz.prog.follows .mixedOrders=true:=cZ;obtain⟨i0,hi,hz0,hz1,hz2⟩:=info_parts (P:=Tryz.prog) (e:=28) (z:=.slice none 0 0) (size:=1) (bytes:=24) (by kernel_rfl);have t24:Tryz.prog.underlying 197=some (.slice 28):=bTn;obtain⟨v,hv,hrow,hrc⟩:=h.box;refine⟨fn,#[.slice none 0 0,sv,.pointer (some ⟨Bs,0,none⟩),undef,.slice none 0 0,undef,sv,.slice (some ad) n c,undef,undef,undef,undef,undef],apA,apB,by simpa[apRec]using run_yield (P:=Tryz.prog) (args := #[.slice (some ad) n c]) h.L rfl,roundIn_of_wpIn hfn ?_⟩;have hl:l<W.heap.size:=(aY.1 h.L).1;have hbr:=run_beginRound (P:=Tryz.prog) h.L rfl;obtain⟨W2,hW2⟩:∃W2,W.putObj l (.loop {apRec fn sv Bs D .ready none with state:=.busy})=W2:=⟨_,rfl⟩;rw[hW2]at hbr;have hg2:W.grownBy W2 (some l):=by rw[← hW2];exact grownBy_putObj_a _ _ _
 have hv2:W2.heap[Bs]? = some (.cells #[v] 197 (0,0)):=by rw[← hW2];exact(World.putObj_heap_other hBl).trans hv
 have hK2:W2.heap[D]? = some (.deferred (some [])):=by rw[← hW2];exact(World.putObj_heap_other hDl).trans h.K
 have hL2:W2.heap[l]? = some (.loop {apRec fn sv Bs D .ready none with state:=.busy}):=by rw[← hW2];exact World.putObj_heap_same hl
 have hrow2:W2.ownsRow w0.heap.size 28 1 v ss.length ss:=hrow.kept hg2 (ownsRow_ne_a hrow h.L (fun cur e=>by cases e));have hrc2:RowC W2 v:=hrc.kept hrow hg2 (ownsRow_ne_a hrow h.L (fun cur e=>by cases e));have hb2:Below w0.heap.size w0 W2:=h.below.grown hg2 h.below.size (fun k e=>by cases e;exact h0l);obtain⟨hc2,hf2⟩:=cell_of_box_a hv2;have hBlt:Bs<W2.heap.size:=(aY.1 hv2).1;have hl2:l<W2.heap.size:=(aY.1 hL2).1;have hDlt:D<W2.heap.size:=(aY.1 hK2).1;have ne_of:∀{j:Nat} {o:Obj},W2.heap[j]? = some o→(∀cur,o ≠ .cells cur 28 (0,0))→some j≠v.ownBlock:=fun hj hno=>by
  rcases ownsRow_ne_a hrow2 hj hno with e|e
  ·rw[e];simp
  ·exact fun e'=>e e'.symm
 have hmax:ss.length+1≤maxLen:=by rw[show maxLen=9223372036854775807 from rfl];omega
 have hne:(197:Nat)≠28:=by decide
 clear hW2;unfold apA;simp only[Tryz.f235,xP,bMv];gi_wp2;unfold apB;simp only[Tryz.f235,xP,bMv];gi_wp2_with (
  (gi_at_builtin;refine bLr _ rfl _ _ 197 rfl w0.heap.size 28 i0 t24 hi hz0 hz1 hz2 _ _ _ rfl (hrow2.alloc _) (hrc2.kept hrow2 (World.grownBy_alloc _ _ none) (by cases hvv:v.ownBlock<;>simp)) h.one ⟨W2.heap.size,0,none⟩ 1 (.slice (some ad) n c) rfl (cell_one_new _ _ _ 0 _ rfl) (by simp[Value.oneCell']) (by omega) (by have:=hb2.size;simp;omega) ?_;intro v' w3 hown' hg3 hrc3
   have hv3:w3.heap[Bs]? = some (.cells #[v] 197 (0,0)):=(hg3.block Bs (by simp;omega) (ne_of hv2 (fun cur e=>hne (Obj.cells.inj e).2.1))).trans ((Below.heap_alloc _ _ Bs hBlt).trans hv2);obtain⟨hc3,hf3⟩:=cell_of_box_a hv3;obtain⟨g',cap',cur',rfl,hbase',hgb',hr1,hr2,hr3,hr4⟩:∃g' cap' cur',v'=.slice (some ⟨g',0,none⟩) (ss.length+1) cap'∧w0.heap.size≤g'∧w3.heap[g']? = some (.cells cur' 28 (0,0))∧ss.length+1≤cap'∧cap'≤maxLen∧cur'.size=cap'*1∧cur'.toList.take ((ss.length+1)*1)=ss++[.slice (some ad) n c]:=by
    rcases hown'.2 with⟨_,h0⟩|h'
    ·exact absurd h0 (by omega)
    ·exact h'
   go_frame))
 have hg3':(W2.alloc (.cells #[.slice (some ad) n c] 28)).grownBy w3 v.ownBlock:=hg3;have hL3:w3.heap[l]? = some (.loop {apRec fn sv Bs D .ready none with state:=.busy}):=(hg3'.block l (by simp;omega) (ne_of hL2 (fun cur e=>by cases e))).trans ((Below.heap_alloc _ _ l hl2).trans hL2);have hK3:w3.heap[D]? = some (.deferred (some [])):=(hg3'.block D (by simp;omega) (ne_of hK2 (fun cur e=>by cases e))).trans ((Below.heap_alloc _ _ D hDlt).trans hK2);obtain⟨w4,hw4⟩:∃w4,w3.setCell ⟨Bs,0,none⟩ (.slice (some ⟨g',0,none⟩) (ss.length+1) cap')=w4:=⟨_,rfl⟩;rw[hw4];have hg4:w3.grownBy w4 (some Bs):=by rw[← hw4];exact grownBy_setCell0_a _ _ _
 have hv4:w4.heap[Bs]? = some (.cells #[.slice (some ⟨g',0,none⟩) (ss.length+1) cap'] 197 (0,0)):=by rw[← hw4];exact heap_setCell_box_a _ hv3
 have hL4:w4.heap[l]? = some (.loop {apRec fn sv Bs D .ready none with state:=.busy}):=(hg4.block l (aY.1 hL3).1 (fun e=>hBl (by cases e;rfl))).trans hL3;have hK4:w4.heap[D]? = some (.deferred (some [])):=(hg4.block D (aY.1 hK3).1 (fun e=>hDB (by cases e;rfl))).trans hK3;have hrow4:=hown'.kept hg4 (ownsRow_ne_a hown' hv3 (fun cur e=>hne (Obj.cells.inj e).2.1));have hrc4:=hrc3.kept hown' hg4 (ownsRow_ne_a hown' hv3 (fun cur e=>hne (Obj.cells.inj e).2.1));have hl4:l<w4.heap.size:=(aY.1 hL4).1;have hb3:Below w0.heap.size w0 w3:=(hb2.alloc hb2.size _).grown hg3' (by have:=hb2.size;simp;omega) (fun k e=>(hrow2.lt k e).1);have hb4:Below w0.heap.size w0 w4:=hb3.grown hg4 hb3.size (fun k e=>by cases e;exact h0B);clear hw4;refine⟨_,_,run_endRound none hL4,rfl,⟨⟨_,(World.putObj_heap_other hBl).trans hv4,?_,?_⟩,fun u hu=>?_,World.putObj_heap_same hl4,(World.putObj_heap_other hDl).trans hK4,hb4.grown (grownBy_putObj_a _ _ _) hb4.size (fun k e=>by cases e;exact h0l)⟩⟩
 ·have:=hrow4.kept (grownBy_putObj_a w4 l (.loop {{apRec fn sv Bs D .ready none with state:=.busy}with state:=if(none:Option Code).isNone then .ready else .done,pending:=none})) (ownsRow_ne_a hrow4 hL4 (fun cur e=>by cases e));simpa using this
 ·exact hrc4.kept hrow4 (grownBy_putObj_a w4 l _) (ownsRow_ne_a hrow4 hL4 (fun cur e=>by cases e))
 ·rcases bM.1 hu with hu|hu
  ·exact h.one u hu
  ·rw[aV.1 hu];rfl
theorem aGt(F:Fence)(n:Nat)(h11:F.fn 235)(h10:F.fn 236)(hro:F.round=none)(hn:2≤n)(Ps Os Pn On m:Nat)(s:Value)(xs:List Value)(w:World)(N:Nat)(hm:N≤2000000)(hN:m=(N+1) / 2)(hm1:m≤1000000)(hPs:Ps<w.heap.size)(hPn:Pn<w.heap.size)
 (hs:w.cell? ⟨Ps,Os,none⟩=some s) (hv:(∃a cap,s=.slice a 0 cap∧N=0∧xs=[])∨∃b o cap,s=.slice (some ⟨b,o,none⟩) N cap∧N≤cap∧xs=F8 b o N m) (hk:w.cell? ⟨Pn,On,none⟩=some (.int .i64 2)) :
 CallsIn F n Tryz.prog 235 #[.slice none 0 0,.func (.func 236) #[] #[.pointer (some ⟨Ps,Os,none⟩),.pointer (some ⟨Pn,On,none⟩)]] w fun e w'=>∃v,e=.returned v∧w'.ownsRow w.heap.size 28 1 v m xs∧RowC w' v∧Below w.heap.size w w':=by
 have h1:1≤n:=by omega
 have hmx:Tryz.prog.follows .mixedOrders=true:=cZ;have t24:Tryz.prog.underlying 197=some (.slice 28):=bTn;have eg:∀args w,(callFunc 236 args).run Tryz.prog w=.ok (.enter 236 args) w:=qE (by kernel_rfl);generalize hsv:Value.func (.func 236) #[] #[.pointer (some ⟨Ps,Os,none⟩),.pointer (some ⟨Pn,On,none⟩)]=sv;refine callsIn_of_wp_marks Tryz.func235 rfl h11 ?_ hro;simp only[Tryz.ntmps235,gN,aQ,cB,Nat.reduceAdd,Nat.reduceSub,xT,xS,U6,D3,aJ,aH];gi_wp2;refine wpIn_rangeFunc ?_;intro fn hfn;rw[hro];obtain⟨W0,hW0⟩:∃W0,w.alloc (.cells #[.slice none 0 0] 197)=W0:=⟨_,rfl⟩;have hs0:W0.heap.size=w.heap.size+1:=by rw[← hW0];simp
 have hv0:W0.heap[w.heap.size]? = some (.cells #[.slice none 0 0] 197 (0,0)):=by rw[← hW0];exact World.alloc_heap_new w _
 have hb0:Below w.heap.size w W0:=by rw[← hW0];exact(Below.refl _ w).alloc (bK _) _
 rw[hW0];obtain⟨W1,hW1⟩:∃W1,(W0.alloc (.deferred (some []))).alloc (.loop (apRec fn sv w.heap.size W0.heap.size .ready none))=W1:=⟨_,rfl⟩;have hold:∀k,k<W0.heap.size→W1.heap[k]? = W0.heap[k]? := fun k hk=>by
  rw[← hW1];exact(Below.heap_alloc _ _ k (by simp;omega)).trans (Below.heap_alloc _ _ k hk)
 have hb1:Below w.heap.size w W1:=by rw[← hW1];exact(hb0.alloc hb0.size _).alloc (by have:=hb0.size;simp;omega) _
 have hs1:W1.heap.size=W0.heap.size+2:=by rw[← hW1];simp
 have hM:bIk w fn sv w.heap.size (W0.heap.size+1) W0.heap.size [] W1:=
  ⟨⟨_,(hold w.heap.size (by omega)).trans hv0,⟨rfl,.inl ⟨rfl,rfl⟩⟩,fun g cs T fr e=>by cases e⟩,fun u hu=>(by cases hu),
   by rw[← hW1];have:=World.alloc_heap_new (W0.alloc (.deferred (some []))) (.loop (apRec fn sv w.heap.size W0.heap.size .ready none));rwa[World.size_alloc]at this,
   by rw[← hW1];exact(Below.heap_alloc _ _ _ (by simp)).trans (World.alloc_heap_new W0 _),hb1⟩
 refine⟨W0.heap.size+1,[{target:=.collected W0.heap.size,args := #[]}],W1,{target:=.fn (.func 236) #[.pointer (some ⟨Ps,Os,none⟩),.pointer (some ⟨Pn,On,none⟩)],args := #[.func (.yield (W0.heap.size+1)) #[] #[]]},W1,236,
  #[.func (.yield (W0.heap.size+1)) #[] #[]] ++ #[.pointer (some ⟨Ps,Os,none⟩),.pointer (some ⟨Pn,On,none⟩)],W1,?_,?_,?_,?_,fun _=>h1,?_⟩
 ·rw[← hW1];exact run_enterLoop_outer _ _ _ _ _
 ·rw[← hsv];simp[resolve,go_sem]
 ·intro f' hf';simp[Target.leads]at hf';subst hf';exact h10
 ·simp[invoke,go_sem,eg]
 ·have main:CallsIn F (n-1) Tryz.prog 236 (#[.func (.yield (W0.heap.size+1)) #[] #[]] ++ #[.pointer (some ⟨Ps,Os,none⟩),.pointer (some ⟨Pn,On,none⟩)]) W1 fun e W'=>(∃v,e=.returned v)∧bIk w fn sv w.heap.size (W0.heap.size+1) W0.heap.size xs W':=by
   rcases hv with⟨a,cap,rfl,rfl,rfl⟩|⟨b,o,cap,rfl,hcap,rfl⟩
   ·exact aZf F (n-1) h10 hro (W0.heap.size+1) Ps Os Pn On w.heap.size cap a w hPs (bIk w fn sv w.heap.size (W0.heap.size+1) W0.heap.size) (fun xs W h=>h.below) W1 hs hM
   ·exact bGy F (n-1) h10 hro (by omega) (W0.heap.size+1) Ps Os Pn On w.heap.size b o m cap w N hm hcap hN hPs hPn (bIk w fn sv w.heap.size (W0.heap.size+1) W0.heap.size) (fun xs W h=>h.below) (fun xs W h=>h.drew)
     (fun pre x W hJ hl hx=>by subst hx;exact bHr F (n-1-1) w fn hfn _ w.heap.size (W0.heap.size+1) W0.heap.size (by omega) (by omega) (by omega) (bK _) (by omega) m hm1 pre _ _ _ W hJ hl) W1 hs hk hM
  have hxl:xs.length=m:=by
   rcases hv with⟨a,cap,_,rfl,rfl⟩|⟨b,o,cap,_,_,rfl⟩
   ·exact hN.symm
   ·rw[N5]
  refine main.mono ?_;rintro e W2 ⟨⟨v0,rfl⟩,h2⟩;obtain⟨v,hv,hrow,hrc⟩:=h2.box;have hend:=run_endLoop (P:=Tryz.prog) h2.L (by simp[apRec]);obtain⟨W3,hW3⟩:∃W3,W2.putObj (W0.heap.size+1) (.loop {apRec fn sv w.heap.size W0.heap.size .ready none with state:=.exhausted})=W3:=⟨_,rfl⟩;rw[hW3]at hend;have hg3:W2.grownBy W3 (some (W0.heap.size+1)):=by rw[← hW3];exact grownBy_putObj_a _ _ _
  have hv3:W3.heap[w.heap.size]? = some (.cells #[v] 197 (0,0)):=by rw[← hW3];exact(World.putObj_heap_other (by omega)).trans hv
  have hK3:W3.heap[W0.heap.size]? = some (.deferred (some [])):=by rw[← hW3];exact(World.putObj_heap_other (by omega)).trans h2.K
  have hrow3:=hrow.kept hg3 (ownsRow_ne_a hrow h2.L (fun cur e=>by cases e));have hrc3:=hrc.kept hrow hg3 (ownsRow_ne_a hrow h2.L (fun cur e=>by cases e));have hb3:Below w.heap.size w W3:=h2.below.grown hg3 h2.below.size (fun k e=>by cases e;omega);obtain⟨hc3,hf3⟩:=cell_of_box_a hv3;clear hW3;refine⟨none,W3,hend,?_⟩;gi_wp2;rw[← hs0];refine⟨by simp,.inl ⟨_,_,rfl,run_takeDeferred hK3,?_⟩⟩;rw[hxl]at hrow3;exact⟨_,results_tmp rfl _ _ _,v,rfl,hrow3.kept (grownBy_putObj_a _ _ _) (ownsRow_ne_a hrow3 hK3 (fun cur e=>by cases e)),hrc3.kept hrow3 (grownBy_putObj_a _ _ _) (ownsRow_ne_a hrow3 hK3 (fun cur e=>by cases e)),hb3.grown (grownBy_putObj_a _ _ _) hb3.size (fun k e=>by cases e;omega)⟩
theorem aRa(F:Fence)(n:Nat)(h8:F.fn 186)(h11:F.fn 235)(h10:F.fn 236)(hro:F.round=none)(hn:3≤n)(Ps Os Pn On m:Nat)(s:Value)(xs:List Value)(w:World)(N:Nat)(hm:N≤2000000)(hN:m=(N+1) / 2)(hm1:m≤1000000)(hPs:Ps<w.heap.size)(hPn:Pn<w.heap.size)
 (hs:w.cell? ⟨Ps,Os,none⟩=some s) (hv:(∃a cap,s=.slice a 0 cap∧N=0∧xs=[])∨∃b o cap,s=.slice (some ⟨b,o,none⟩) N cap∧N≤cap∧xs=F8 b o N m) (hk:w.cell? ⟨Pn,On,none⟩=some (.int .i64 2)) :
 CallsIn F n Tryz.prog 186 #[.func (.func 236) #[] #[.pointer (some ⟨Ps,Os,none⟩),.pointer (some ⟨Pn,On,none⟩)]] w fun e w'=>∃v,e=.returned v∧w'.ownsRow w.heap.size 28 1 v m xs∧RowC w' v∧Below w.heap.size w w':=by
 have h1:1≤n:=by omega
 have e11:∀args w,(callFunc 235 args).run Tryz.prog w=.ok (.enter 235 args) w:=qE (by kernel_rfl);refine callsIn_of_wp Tryz.func186 rfl h8 ?_ hro;simp only[Tryz.ntmps186,gN,aQ,cB,Nat.reduceAdd,Nat.reduceSub,xT,xS,U6,D3,aJ,aH];gi_wp2_with (gi_at_fn (235);refine(aGt F (n-1) h11 h10 hro (by omega) Ps Os Pn On m s xs _ N hm hN hm1 hPs hPn hs hv hk).mono ?_;rintro e w' ⟨v,rfl,hrow,hrc,hb⟩);go_ret;exact⟨v,rfl,hrow,hrc,hb⟩
end Go.Proofs.YtdjcggcjlphdoaaGreatDoor
namespace Go.Proofs.YtdjcggcjlphdoaaGreatDoor
open Go Go.Vo
open Nat (reduceAdd reduceSub reduceMul reduceLeDiff reduceLT reduceEqDiff)
open Int (reduceNeg)
theorem bXg(x y:TE)(hx:OkT x.1.1)(hy:OkT y.1.1): CT 192 [ce x,ce y] (.i .i64 (mH x.1.1 y.1.1)):=by
 refine iS (rx:=true) (th:=fun _=>none) cZ Tryz.func192 g0 ?_
 ·simp -implicitDefEqProofs (disch:=omega) only[Tryz.f192,go_sem,List.replicate,↓reduceIte,reduceAdd,reduceSub,reduceMul,reduceLeDiff,reduceLT,reduceEqDiff,reduceNeg,Nat.reduceBEq];(refine zt1 (bKy x.1.1 y.1.1 hx hy) ?_;repeat' first|exact trivial|refine zJ ?_ ?_|refine zH fun hc=>?_);exact bV rfl rfl
theorem bXi(x:TE): CT 189 [ce x] (.b (!isKey x.1.1)):=by
 refine bQ cZ Tryz.func189 g0 ?_
 ·skip;(refine zt1 (aFz x.1.1) ?_;repeat' first|exact trivial|refine zJ ?_ ?_|refine zH fun hc=>?_);exact bV rfl rfl
abbrev pe(e:EN):AV:=.sl (aP e.1++e.2.flatMap aP) (e.2.length+1)
theorem aIg(e:EN):pers (pe e)=true:=by rw[pers,qF,wJ,iL];rfl
theorem bNy{h:List AObj}(e:EN):gZ dep h (pe e)=pe e:=by rw[gE,if_pos (aIg e)]
theorem bDq{d:List EN}{j:Nat}(h:j<d.length):(d.map pe)[j]? = some (pe (d.getD j default)):=by
 simp[List.getD,bL h]
theorem mN{d:List EN}:persL (d.map pe)=true:=by
 induction d with
 |nil=>rfl
 |cons x l ih=>rw[aK,B0,aIg,ih];rfl
theorem bQn(e:EN):CT 189 [pe e] (.b (!isKey e.1)):=bXi (e,0)
def aHq(x y:TE):Bool:=decide (mH x.1.1 y.1.1<0)||(decide (x.1.1=y.1.1)&&decide (x.2≤y.2))
def aHg(es:List EN):List EN:=((es.zipIdx).mergeSort aHq).map (·.1)
theorem rN{x y:TE}:aHq x y=true↔mH x.1.1 y.1.1<0∨(x.1.1=y.1.1∧x.2≤y.2):=by
 simp only[aHq,cC,aA,decide_eq_true_eq]
theorem aSs(a b c:TE)(h1:aHq a b=true)(h2:aHq b c=true):aHq a c=true:=by
 rw[rN]at *
 rcases h1 with h1|⟨h1,h1'⟩<;>rcases h2 with h2|⟨h2,h2'⟩
 ·exact .inl (aEi h1 h2)
 ·exact .inl (h2▸h1)
 ·exact .inl (h1▸h2)
 ·exact .inr ⟨h1.trans h2,by omega⟩
theorem aDa(a b:TE):(aHq a b||aHq b a)=true:=by
 rw[cC,rN,rN];have h1:=H8 a.1.1 b.1.1;by_cases h:mH a.1.1 b.1.1<0
 ·exact .inl (.inl h)
 by_cases h0:mH a.1.1 b.1.1=0
 ·have e:=(H7 _ _).1 h0;rcases Nat.le_total a.2 b.2 with h2|h2
  ·exact .inl (.inr ⟨e,h2⟩)
  ·exact .inr (.inr ⟨e.symm,h2⟩)
 ·exact .inr (.inl (by omega))
theorem bLk{es:List EN}{x y:TE}(hx:x∈es.zipIdx)(hy:y∈es.zipIdx)(h:x.2=y.2):x=y:=by
 obtain⟨a,i⟩:=x;obtain⟨b,j⟩:=y;dsimp only at h;subst h;have h1:=List.mem_zipIdx hx;have h2:=List.mem_zipIdx hy;rw[h1.2.2,h2.2.2]
theorem bSr{es:List EN}:es.zipIdx.Pairwise (fun x y=>x.2<y.2):=by
 rw[dQ];intro i j hi hj hij;simp only[List.getElem_zipIdx];omega
theorem bBu{es:List EN}(a b:TE)(ha:a∈es.zipIdx)(hb:b∈es.zipIdx)(h1:aHq a b=true)(h2:aHq b a=true):a=b:=by
 rw[rN]at h1 h2;refine bLk ha hb ?_;have h3:=H8 a.1.1 b.1.1;rcases h1 with h1|⟨h1,h1'⟩<;>rcases h2 with h2|⟨h2,h2'⟩
 ·omega
 ·rw[h2,vV]at h1;omega
 ·rw[h1,vV]at h2;omega
 ·omega
theorem bCh{es:List EN}{Z:List TE}(h1:Z.Perm es.zipIdx)(h2:Z.Pairwise (fun x y=>aHq x y=true)):Z.map (·.1)=aHg es:=by
 rw[aHg];congr 1;refine List.Perm.eq_of_pairwise (le:=fun x y=>aHq x y=true) (fun a b ha hb=>bBu a b (h1.mem_iff.1 ha) ((bBd _ _).mem_iff.1 hb)) h2 (List.pairwise_mergeSort aSs aDa _) (h1.trans (bBd _ _).symm)
theorem bLl(es:List EN):es.zipIdx.map ce=es.map pe:=by
 conv=>rhs;rw[← List.zipIdx_map_fst 0 es,wP]
 rfl
theorem bSs{es:List EN}:es.zipIdx.Pairwise (Bf (fun x y=>aHq x y=true) (fun x y=>mH x.1.1 y.1.1)):=
 bSr.imp fun{x y} h=>⟨fun h1=>rN.2 (.inl h1),fun h1=>by
  refine rN.2 ?_;dsimp only at h1;have h2:=H8 x.1.1 y.1.1;by_cases h0:mH x.1.1 y.1.1=0
  ·exact .inr ⟨(H7 _ _).1 h0,by omega⟩
  ·exact .inl (by omega)⟩
theorem yE(es:List EN):(aHg es).Perm es:=by
 rw[aHg];have:=(bBd es.zipIdx aHq).map (·.1);rwa[List.zipIdx_map_fst]at this
theorem bCj(es:List EN):(aHg es).Pairwise (fun a b=>mH a.1 b.1≤0):=by
 rw[aHg,List.pairwise_map];refine(List.pairwise_mergeSort aSs aDa _).imp fun{x y} h=>?_;rcases rN.1 h with h|⟨h,_⟩
 ·omega
 ·rw[h,vV];omega
theorem bXd(d:List EN)(hl:d.length≤1000000): ACalls Tryz.prog G0 237 [.hs 0 0 d.length false,.fn 189 [] []] [.arr false 1 (d.map pe)] (fun r h'=>∃z:Int,r=.i .i64 z∧(0≤z↔d.any (fun e => !isKey e.1)=true)∧h'=[.arr false 1 (d.map pe)]):=by
 refine eJ (rx:=true) (th:=fun _=>none) cZ Tryz.func237 ?_
 ·simp -implicitDefEqProofs (disch:=omega) only[Tryz.f237,go_sem,List.replicate,↓reduceIte,reduceAdd,reduceSub,reduceMul,reduceLeDiff,reduceLT,reduceEqDiff,reduceNeg,Nat.reduceBEq];refine dF (fun(k:Nat)=>(.k::.k::.k::.k::.j::.j::.k::.k::.v (.i .i64 (k:Nat))::(rp 10 .j []))) (fun k=>[.arr false 1 (d.map pe)]) (fun k=>k≤d.length∧(d.take k).any (fun e => !isKey e.1)=false) (fun k=>d.length-k) (0) ⟨bJ _,rfl⟩ rfl (by simp[hZ]) ?_;rintro k j ⟨hk,hn⟩;by_cases hlt:k<d.length
  ·have hki:=wK hlt;have c1:=bDq hlt;have b1:=inb hlt;have cc:=bQn (d.getD k default);refine zh (zA2 hki (zA2 @c1 b1)) ?_;refine dA (cc) ?_ ?_
   ·simp only[aK,aZ,bNy]
   refine zg ?_;have e:d.take (k+1)=d.take k++[d.getD k default]:=fO hlt;by_cases hkey:isKey (d.getD k default).1=true
   ·refine zh (zA2 hkey aN) ?_;exact⟨k+1,⟨by omega,by rw[e,List.any_append,hn,fC,gJ,hkey];rfl⟩,by omega,rfl⟩
   ·refine zh (zA2 (dD.2 hkey) aS) ?_;refine⟨_,rfl,fun _=>?_,fun _=>by omega⟩;exact gY.2 ⟨_,cT hlt,by rw[dD.2 hkey];rfl⟩
  ·have hki:=uK (a:=k) (b:=d.length) (by omega);refine zh hki ?_;rw[bE (by omega)]at hn;exact⟨_,rfl,fun h=>by omega,fun h=>by rw[hn]at h;cases h⟩
theorem bXj(d:List EN)(hl:d.length≤1000000): ACalls Tryz.prog G0 188 [.hs 0 0 d.length false,.fn 189 [] []] [.arr false 1 (d.map pe)] (fun r h'=>r=.b (d.any (fun e => !isKey e.1))∧h'=[.arr false 1 (d.map pe)]):=by
 refine eJ (rx:=true) (th:=fun _=>none) cZ Tryz.func188 ?_
 ·simp -implicitDefEqProofs (disch:=omega) only[Tryz.f188,go_sem,List.replicate,↓reduceIte,reduceAdd,reduceSub,reduceMul,reduceLeDiff,reduceLT,reduceEqDiff,reduceNeg,Nat.reduceBEq];refine fM (bXd d hl) ?_;rintro r h' ⟨z,rfl,hz,rfl⟩;refine zg ?_;exact congrArg AV.b (fA.2 (by rw[decide_eq_true_eq];exact hz))
theorem bXh(es:List EN)(N:Nat)(hN:es.length=N)(hl:es.length≤1000000)(ho:∀e∈es,OkT e.1): ACalls Tryz.prog G0 191 [.hs 0 0 N false,.fn 192 [] []] [.arr false 1 (es.map pe)] (fun r h'=>r=.tup []∧h'=[.arr false 1 ((aHg es).map pe)]):=by
 refine eJ (rx:=true) (th:=fun _=>none) cZ Tryz.func191 ?_
 ·simp -implicitDefEqProofs (disch:=omega) only[Tryz.f191,go_sem,List.replicate,↓reduceIte,reduceAdd,reduceSub,reduceMul,reduceLeDiff,reduceLT,reduceEqDiff,reduceNeg,Nat.reduceBEq];have zl:es.zipIdx.length=N:=by rw[List.length_zipIdx];exact hN
  rw[← bLl es];refine fM (bXc (fun x y=>aHq x y=true) (fun x y=>mH x.1.1 y.1.1) (fun e=>OkT e.1.1) aSs (fun x y hx hy=>bXg x y hx hy) es.zipIdx N zl (by omega) (fun x hx=>ho _ (by have:=List.mem_zipIdx hx;rw[this.2.2];exact qK _)) bSs) ?_;rintro r h' ⟨rfl,Z,z1,z2,rfl⟩;refine zg ?_;rw[← bCh z1 z2,wP];rfl
def bKe(es:List EN)(i n:Nat):Bool:=(List.range n).any fun j=>isKey (es.getD i default).1&&decide ((es.getD i default).1=(es.getD j default).1)
def bBk(es:List EN)(n:Nat):Bool:=(List.range n).any fun i=>bKe es i i
theorem aYd{es:List EN}{i n:Nat}:bKe es i (n+1)=(bKe es i n||(isKey (es.getD i default).1&&decide ((es.getD i default).1=(es.getD n default).1))):=by
 rw[bKe,sR,List.any_append,fC,gJ,aF];rfl
theorem aYc{es:List EN}{n:Nat}:bBk es (n+1)=(bBk es n||bKe es n n):=by
 rw[bBk,sR,List.any_append,fC,gJ,aF];rfl
theorem bKi(bk ub:AV)(so tw:Bool)(es:List EN)(hl:es.length≤1000000)(ho:∀e∈es,OkT e.1): ACalls Tryz.prog G0 190 [.ptr 0 0,.sl (es.map pe) es.length] [.box false [bk,ub,.b so,.b tw]] (fun r h'=>r=.tup []∧h'=[.box false [bk,ub,.b so,.b (tw||bBk es es.length)]]):=by
 refine eJ (rx:=true) (th:=fun _=>none) cZ Tryz.func190 ?_
 ·simp -implicitDefEqProofs (disch:=omega) only[Tryz.f190,go_sem,List.replicate,↓reduceIte,reduceAdd,reduceSub,reduceMul,reduceLeDiff,reduceLT,reduceEqDiff,reduceNeg,Nat.reduceBEq];refine dF (fun(q:Nat×Bool)=>(.k::.k::.k::.k::.j::.j::.k::.j::.k::.k::.v (.i .i64 (q.1:Nat))::(rp 36 .j []))) (fun q=>[.box false [bk,ub,.b so,.b q.2]]) (fun q=>q.1≤es.length∧q.2=(tw||bBk es q.1)) (fun q=>es.length-q.1) ((0,tw)) ⟨bJ _,by simp[bBk]⟩ rfl (by simp[hZ]) ?_;rintro⟨k,tw1⟩ j ⟨hk,ht⟩;dsimp only at hk ht;by_cases hlt:k<es.length
  ·have hki:=wK hlt;have c1:=bDq hlt;have b1:=inb hlt;refine zh (zA2 hki (zA2 @c1 b1)) ?_;refine⟨hk,?_⟩;refine dF (fun(q:Nat×Bool)=>(rp 7 .k (.j::(rp 11 .k (.v (.i .i64 (q.1:Nat))::(rp 26 .j [.k])))))) (fun q=>[.box false [bk,ub,.b so,.b q.2]]) (fun q=>q.1≤k∧q.2=((tw||bBk es k)||bKe es k q.1)) (fun q=>k-q.1) ((0,tw1)) ⟨bJ _,by simp[bKe,ht]⟩ rfl (by simp[hZ]) ?_;rintro⟨m,tw2⟩ j2 ⟨hm,ht2⟩;dsimp only at hm ht2;by_cases hlm:m<k
   ·have hkj:=wK hlm;have hme:m<es.length:=by omega
    have c2:=bDq (d:=es.take k) (j:=m) (by rw[List.length_take];omega);have c3:(es.take k).getD m default=es.getD m default:=by simp[List.getD,dY,hlm]
    rw[c3]at c2;have b2:=inb hlm;have cK:=aFz (es.getD k default).1;have cS:=aFy (es.getD k default).1 (es.getD m default).1 (ho _ (cT hlt)) (ho _ (cT hme));refine zh (zA2 hkj (zA2 @c2 b2)) ?_;(refine zy2 (zA2 @c2 b2) cK cS ?_;repeat' first|exact trivial|refine zJ ?_ ?_|refine zH fun hc=>?_);all_goals refine⟨(m+1,_),⟨by dsimp only;omega,?_⟩,by dsimp only;omega,rfl,rfl⟩
    all_goals dsimp only
    all_goals rw[aYd,← Bool.or_assoc,← ht2]
    ·rw[hc,‹tw2=false›];rfl
    ·rw[hc,‹tw2=false›];rfl
    ·rw[hc];rfl
   ·have hkj:=uK (a:=m) (b:=k) (by omega);obtain rfl:m=k:=by omega
    refine zh hkj ?_;exact⟨(m+1,tw2),⟨by dsimp only;omega,by dsimp only;rw[ht2,aYc,Bool.or_assoc]⟩,by dsimp only;omega,rfl,rfl⟩
  ·have hki:=uK (a:=k) (b:=es.length) (by omega);obtain rfl:k=es.length:=by omega
   refine zh hki ?_;rw[ht]
theorem bXk(l:List LTerm): CT 187 [avt l,.i .i64 2] (.fn 236 [] [.box [avt l] 0,.box [.i .i64 2] 0]):=by
 refine eG cZ Tryz.func187 g0 ?_
 ·simp -implicitDefEqProofs (disch:=omega) only[Tryz.f187,go_sem,List.replicate,↓reduceIte,reduceAdd,reduceSub,reduceMul,reduceLeDiff,reduceLT,reduceEqDiff,reduceNeg,Nat.reduceBEq,avt];(refine zs0 ?_;repeat' first|exact trivial|refine zJ ?_ ?_|refine zH fun hc=>?_)
  ·exact absurd hc (by decide)
  ·have hp:persL (l.flatMap aP)=true:=iL;refine .inr ⟨?_,?_,?_⟩;all_goals simp[oM,dJ,kH,gE,rQ,gZ,pers,persL,hp]
def iW:List LTerm→List EN
 | []=>[]
 | [a]=>[(a,[])]
 |a::b::l=>(a,[b])::iW l
def xK(es:List EN):List LTerm:=es.flatMap fun e=>e.1::e.2
theorem wA:∀l:List LTerm,xK (iW l)=l
 | []=>rfl
 | [a]=>rfl
 |a::b::l=>by rw[iW,xK,List.flatMap_cons,← xK,wA l];rfl
theorem Q2:∀l:List LTerm,(iW l).length=(l.length+1) / 2
 | []=>rfl
 | [a]=>by simp[iW]
 |a::b::l=>by rw[iW,aQ,Q2 l,aQ,aQ];omega
theorem aGk:∀{l:List LTerm} {e:EN},e∈iW l→e.1∈l
 | [],e,h=>by cases h
 | [a],e,h=>by rw[iW,aV]at h;subst h;exact cQ
 |a::b::l,e,h=>by
  rw[iW]at h;rcases cH.1 h with rfl|h
  ·exact cQ
  ·exact cJ _ (cJ _ (aGk h))
theorem aNv:∀{l:List LTerm} {j:Nat},j<(iW l).length→((iW l).getD j default).2.length+1=min 2 (l.length-2*j) ∧
 ∀{i:Nat} {a:AV},(aP ((iW l).getD j default).1++((iW l).getD j default).2.flatMap aP)[i]? = some a→(l.flatMap aP)[j*12+i]? = some a
 | [],j,h=>by cases h
 | [x],0,_=>⟨by rfl,fun{i a} h=>by
   simp only[iW,eM,List.flatMap_nil,List.append_nil]at h;rw[List.flatMap_cons,List.flatMap_nil,List.append_nil,nV,dM];exact h⟩
 | [x],j+1,h=>by simp[iW]at h
 |x::y::l,0,_=>⟨by simp only[iW,eM,aQ,cB];omega,fun{i a} h=>by
  have hi:=bP h;simp only[iW,eM,List.flatMap_cons,List.flatMap_nil,List.append_nil]at h hi;rw[List.flatMap_cons,List.flatMap_cons,← bU,nV,dM,aG hi];exact h⟩
 |x::y::l,j+1,hj=>by
  obtain⟨h1,h2⟩:=aNv (l:=l) (j:=j) (by simpa[iW]using hj);rw[iW,dE];refine⟨by rw[h1,aQ,aQ];omega,fun{i a} h=>?_⟩;have:=h2 h;have hl:(aP x++aP y).length=12:=by rw[List.length_append,oG,oG]
  rw[List.flatMap_cons,List.flatMap_cons,← bU,aR (by omega),show(j+1)*12+i-(aP x++aP y).length=j*12+i by omega];exact this
theorem bXl(l:List LTerm)(hll:l.length≤1000000):CT 186 [.fn 236 [] [.box [.sl (l.flatMap aP) l.length] 0,.box [.i .i64 2] 0]] (.own 1 ((iW l).map pe) (iW l).length):=by
 have hlen:=Q2 l;have hat:=fun{j:Nat}=>aNv (l:=l) (j:=j);generalize hes:iW l=es at *
 have hl:es.length≤1000000:=by omega
 refine⟨by kernel_rfl,g0,?_⟩;intro F w vs hF hgl hlv hr;obtain⟨v0,rfl⟩:=bJg hlv;have h0:=hr 0 _ v0 rfl rfl;cases h0 with
 |dead h _ _=>simp[AV.refs]at h
 | @fn _ _ _ first' capt' e1 e2 e3 e4=>
 obtain rfl:first' = #[]:=Array.eq_empty_of_size_eq_zero (by simpa using e1.symm);obtain⟨p1,p2,rfl⟩:=bIm (by simpa using e2);have r1:=e4 0 _ p1 rfl rfl;have r2:=e4 1 _ p2 rfl rfl;clear e1 e2 e3 e4 hr;cases r1 with
 |dead h _ _=>simp[AV.refs]at h
 | @box _ _ b1 o1 cs1 T1 fr1 f1 hb1 l1 c1 q1=>
 cases r2 with
 |dead h _ _=>simp[AV.refs]at h
 | @box _ _ b2 o2 cs2 T2 fr2 f2 hb2 l2 c2 q2=>
 simp only[aQ,cB]at l1 l2;have g1:cs1[o1+0]? = some cs1[o1+0]:=bW (by omega);have g2:cs2[o2+0]? = some cs2[o2+0]:=bW (by omega);have s1:=q1 0 _ _ rfl g1;have s2:=sW (q2 0 _ _ rfl g2);have hs:w.cell? ⟨b1,o1+0,none⟩=some cs1[o1+0]:=by simp[World.cell?,hb1,← g1]
 have hk:w.cell? ⟨b2,o2+0,none⟩=some (.int .i64 2):=by rw[s2]at g2;simp[World.cell?,hb2,← g2]
 generalize cs1[o1+0]=x1 at *
 have hv : ∃xs:List Value,((∃a cap,x1=.slice a 0 cap∧l.length=0∧xs=[])∨∃b o cap,x1=.slice (some ⟨b,o,none⟩) l.length cap∧l.length≤cap∧xs=F8 b o l.length es.length) ∧
  ∀(w':World),RowKit.Below w.heap.size w w'→∀(j:Nat) (a:AV) (v:Value),(es.map pe)[j]? = some a→xs[j]? = some v→RV (.none F) w' [] a v:=by
  have hCl:(l.flatMap aP).length=l.length*6:=mJ;generalize hC:l.flatMap aP=C at s1 hat hCl;generalize hn:l.length=n at s1;cases s1 with
  |dead h _ _=>simp[AV.refs]at h
  |sl0 a cap=>exact⟨[],.inl ⟨a,cap,rfl,by omega,rfl⟩,fun _ _ _ _ _ _ h=>by simp at h⟩
  | @sl _ _ b o cap cs T fr hFb hb hlc hnc hc1 hrc=>
    subst hn;refine⟨F8 b o l.length es.length,.inr ⟨b,o,cap,rfl,hnc,rfl⟩,?_⟩;intro w' hbl j a v ha hv;have hj:j<es.length:=by have:=bP ha;simpa using this
    rw[bDq hj]at ha;cases ha;have hvp:v=aEd b o l.length j:=by
     simp only[F8,eV,List.getElem?_range hj,dO,aB]at hv;exact hv.symm
    subst hvp;obtain⟨h1,h2⟩:=hat hj;have hpl:(aP (es.getD j default).1++(es.getD j default).2.flatMap aP).length=6*min 2 (l.length-2*j):=by
     have:((es.getD j default).2.flatMap aP).length=(es.getD j default).2.length*6:=mJ;rw[List.length_append,oG,this];omega
    have hG:RV (.none F) w [] (pe (es.getD j default)) (aEd b o l.length j):=by
     rw[aEd,← h1];refine .sl hFb hb (by rw[hpl];omega) (bK _) (fun i v hi hv=>?_) (fun i a v ha hv=>?_)
     ·rw[hpl]at hi;exact hc1 (j*12+i) v (by omega) (by rw[← hv];congr 1;omega)
     ·exact hrc (j*12+i) a v (h2 ha) (by rw[← hv];congr 1;omega)
    refine hG.mono ⟨fun _ h=>h,fun b hb=>hbl.block b (hF b hb),fun b s hs=>?_,fun id o ho=>by simp at ho⟩;have hlt:b<w.heap.size:=by
     by_cases hlt:b<w.heap.size
     ·exact hlt
     ·rw[World.shape?,aHf (by omega)]at hs;cases hs
    rw[World.shape?,hbl.block b hlt];exact hs
 obtain⟨xs,hv,hrv⟩:=hv;refine((aRa {fn:=fun _=>True} 3 trivial trivial trivial rfl (bK _) b1 (o1+0) b2 (o2+0) es.length x1 xs w l.length (by omega) hlen hl (hF _ f1) (hF _ f2) hs hv hk).calls (fun k d hd=>by cases hd)).mono ?_;rintro e w' ⟨v,rfl,hrow,hrc,hb⟩;have hgrew:J2 w w':=⟨hb.block,hb.size,hb.os,hb.tape,hb.output⟩;rcases hrow.2 with⟨rfl,h0⟩|⟨g,cap',cur,rfl,hbg,hg,hnc,hcm,hcs,htk⟩
 ·have:es=[]:=List.eq_nil_of_length_eq_zero h0;subst this;exact⟨_,F,[],rfl,hgrew,fun _ h=>h,fun _ h=>.inl h,fun b h=>fS (hF b h) hb.size,.inr ⟨rfl,rfl,_,rfl⟩,fI,fun b h=>by cases h⟩
 ·refine⟨_,F,[g],rfl,hgrew,fun _ h=>h,fun _ h=>.inl h,fun b h=>fS (hF b h) hb.size,.inl ⟨g,0,cur,_,cap',rfl,rfl,hg,by simp,hnc,by omega,hrc g cur _ _ rfl hg,fun j a v ha hv2=>?_⟩,by simp,fun b hbm=>?_⟩
  ·have hj:j<es.length:=by have:=bP ha;simpa using this
   refine hrv w' hb j a v ha ?_;rw[← htk,dY,if_pos (by omega)];simpa using hv2
  ·rw[aV]at hbm;subst hbm;exact⟨fun f=>by have:=hF _ f;omega,hbg⟩
def bEf(es:List EN):Bool:=es.any fun e => !isKey e.1
def bBh(es:List EN):List EN:=if bEf es=true then es else aHg es
theorem aLz(es:List EN):(bBh es).Perm es:=by
 rw[bBh];split
 ·exact mX _
 ·exact yE es
def twP(es:List EN):Bool:=bBk (bBh es) (bBh es).length
def qN(l:List LTerm):List LTerm:=if bEf (iW l)=true then l else xK (aHg (iW l))
def twM(l:List LTerm):Bool:=twP (iW l)
theorem aXh{a b:List EN}(h:a.Perm b):(xK a).Perm (xK b):=h.flatMap_right _
theorem aLf(l:List LTerm):(xK (aHg (iW l))).Perm l:=by
 have h:=aXh (yE (iW l));rwa[wA]at h
theorem aLe(l:List LTerm):(xK (aHg (iW l))).length=l.length:=(aLf l).length_eq
theorem aMb(l:List LTerm):(qN l).length=l.length:=by
 rw[qN];split
 ·rfl
 ·exact aLe l
theorem bWb(es:List EN):(es.map fun e=>e.1::e.2).map avt=es.map pe:=by
 rw[wP];refine iP fun e _=>?_;simp[avt,pe]
theorem aXj(es:List EN):(es.map fun e=>e.1::e.2).flatten=xK es:=by
 rw[xK,List.flatMap_def]
theorem bNz{d:List EN}:(d.map pe).all aNj=true:=by
 rw[List.all_map,bF];exact fun e _=>aIg e
theorem bQo(bk ub rc:AV)(so tw:Bool)(k n:Int)(x o:Str)(l:List LTerm)(hll:l.length≤400000)(hol:∀a∈l,OkT a)(hbk:pers bk=true)(hub:pers ub=true)(hrc:pers rc=true): ACalls Tryz.prog G0 120 [.ptr 0 0,.ptr 1 0] [.box false [bk,ub,.b so,.b tw],.box false [.i .i64 k,.i .i64 n,.s x,.s o,.sl (l.flatMap aP) l.length,rc]] (fun r h'=>r=.tup []∧∃g,h'=[.box false [bk,ub,.b so,.b (tw||twM l)],.box false [.i .i64 k,.i .i64 n,.s x,.s o,.sl ((qN l).flatMap aP) l.length,rc]]++g):=by
 refine eJ (rx:=true) (th:=fun _=>none) cZ Tryz.func120 ?_
 ·simp -implicitDefEqProofs (disch:=omega) only[Tryz.f120,go_sem,List.replicate,simprocAttr];have c1:=bXk l;rw[avt]at c1;have c2:=bXl l (by omega);have hsf:=aLe l;have hcl:=Q2 l;have ho:∀e∈iW l,OkT e.1:=fun e he=>hol _ (aGk he);rw[qN,twM,twP,bBh];generalize iW l=es at *
  have hl:es.length≤400000:=by omega
  (refine zt1 c1 ?_;repeat' first|exact trivial|refine zJ ?_ ?_|refine zH fun hc=>?_);refine dA (c2) ?_ ?_
  ·simp only[aK,aZ,gE,pers,persL,iL,eZ,bA,if_true]
  refine zg ?_;have hpb:∀y:Bool,persL [bk,ub,.b so,.b y]=true:=fun y=>by simp[persL,pers,hbk,hub]
  refine fM (aDn 2 g0 (bXj es (by omega)) mN mN rfl rfl rfl) ?_;rintro r h' ⟨rfl,rfl⟩;by_cases hn:bEf es=true
  ·have hn':(es.any fun e => !isKey e.1)=true:=hn;rw[if_pos hn,if_pos hn,hn'];refine zg ?_;refine aZj 1 rfl ?_;refine zh (zA2 @mN @bNz) ?_;refine fM (uT 0 g0 (bKi bk ub so tw es (by omega) ho) (hpb _) (hpb _) rfl rfl (by simp only[renL,ren,T8,renL_pers _ _ mN])) ?_;rintro r h' ⟨rfl,rfl⟩;refine zg ?_;exact⟨_,rfl⟩
  ·have hn':(es.any fun e => !isKey e.1)=false:=dD.2 hn;rw[if_neg hn,if_neg hn,hn'];refine zg ?_;refine fM (aDn 2 g0 (bXh es es.length rfl (by omega) ho) mN mN rfl rfl rfl) ?_;rintro r h' ⟨rfl,rfl⟩;have hsl:(aHg es).length=es.length:=(yE es).length_eq;refine zg ?_;refine aZj 0 rfl ?_;refine zh (zA2 @mN (zA2 hsl @bNz)) ?_;have c3:=bKx ((aHg es).map fun e=>e.1::e.2) (by rw[dP];omega) (by rw[aAf,aXj,hsf];omega);rw[bWb,aXj,dP,hsl,avt,hsf]at c3;refine dA (c3) ?_ ?_
   ·simp only[aK,aZ,gE,pers,mN,if_true]
   simp -implicitDefEqProofs (disch:=omega) only[mN,ite_self,go_sem,simprocAttr];refine aZj 1 rfl ?_;refine zh (zA2 @mN (zA2 hsl @bNz)) ?_;refine fM (uT 0 g0 (bKi bk ub so tw (aHg es) (by omega) (fun e he=>ho e ((yE es).mem_iff.1 he))) (hpb _) (hpb _) rfl rfl (by simp only[renL,ren,T8,renL_pers _ _ mN,hsl])) ?_;rintro r h' ⟨rfl,rfl⟩;refine zg ?_;rw[hsl];exact⟨_,rfl⟩
theorem bXq(bk ub rc:AV)(so tw:Bool)(k n:Int)(x o:Str)(l:List LTerm)(hll:l.length≤400000)(hol:∀a∈l,OkT a)(hbk:pers bk=true)(hub:pers ub=true)(hrc:pers rc=true):ACalls Tryz.prog G0 120 [.ptr 0 0,.ptr 1 0] [.box false [bk,ub,.b so,.b tw],.box false [.i .i64 k,.i .i64 n,.s x,.s o,.sl (l.flatMap aP) l.length,rc]] (fun r h'=>r=.tup []∧h'=[.box false [bk,ub,.b so,.b (tw||twM l)],.box false [.i .i64 k,.i .i64 n,.s x,.s o,.sl ((qN l).flatMap aP) l.length,rc]]):=
 zZ g0 (bQo bk ub rc so tw k n x o l hll hol hbk hub hrc) rfl (by simp[AObj.persO,persL,pers,hbk,hub,hrc,iL]) (bK _)
theorem aVd(l:List LTerm):(qN l).Perm l:=by
 rw[qN];split
 ·exact mX _
 ·exact aLf l
theorem aMh:∀{l:List LTerm} {k:LTerm},k∈l→nodesT k≤nodesL l
 | [],_,h=>by cases h
 |a::l,k,h=>by
  rw[nodesL];rcases cH.1 h with rfl|h
  ·omega
  ·have:=aMh h;omega
theorem bVi(t:LTerm):1≤nodesT t:=by cases t;rw[nodesT];omega
theorem aVr:∀l:List LTerm,l.length≤nodesL l
 | []=>bJ _
 |a::l=>by rw[nodesL,aQ];have:=aVr l;have:=bVi a;omega
theorem bVj(t:LTerm):nodesT t=1+t.rest.length+nodesL t.kids:=by cases t;rfl
def SmU(u:LSub):Prop:=∀x y,mOf u x=some y→OkT y∧y.kids.length≤2000
theorem aIp{O:List LTerm→List LTerm}{u:LSub}:∀{l:List LTerm},(∀k∈l,OkT (F6 O u k))→∀x∈putL O u l,OkT x
 | [],_,x,h=>by rw[putL]at h;cases h
 |a::l,hk,x,h=>by
  rw[putL]at h;rcases cH.1 h with rfl|h
  ·exact hk _ cQ
  ·exact aIp (fun k hm=>hk k (cJ _ hm)) x h
theorem aLn{t:LTerm}{O:List LTerm→List LTerm}{u:LSub}(hw:nodeB t=true)(hu:SmU u):(iU (putL O u t.rest)).length≤2000∧∀x∈iU (putL O u t.rest),OkT x:=by
 have h1:=kQ t hw;cases hr:t.rest with
 |nil=>rw[putL];exact⟨by simp[iU],fun x h=>by simp[iU]at h⟩
 |cons r l=>
  rw[hr]at h1;have hl:l=[]:=List.eq_nil_of_length_eq_zero (by rw[aQ]at h1;omega);subst hl;have h6:r.kind=6:=(lR hw r (by rw[hr];exact cQ)).1;rw[putL,putL,aLt h6];cases ho:mOf u r.text with
  |none=>exact⟨by simp[iU,h6],fun x h=>by simp[iU,h6]at h⟩
  |some y=>
   obtain⟨o1,o2⟩:=hu _ _ ho;by_cases hy:y.kind=6
   ·exact⟨by simp[iU,hy],fun x h=>by simp[iU,hy]at h⟩
   ·exact⟨by simpa[iU,hy]using o2,fun x h=>o1.kid x (by simpa[iU,hy]using h)⟩
theorem aVm{u:LSub}(hu:SmU u):∀t,wfT nodeB t=true→nodesT t≤2000→OkT t→OkT (F6 qN u t):=
 fH (Q := fun t=>wfT nodeB t=true→nodesT t≤2000→OkT t→OkT (F6 qN u t)) fun t hk _ hw hn ht=>by
  have hw':=gS.1 hw;rw[bVj]at hn;by_cases h6:t.kind=6
  ·rw[aLt h6];cases ho:mOf u t.text with
   |none=>exact ht
   |some y=>exact(hu _ _ ho).1
  ·rw[bIw h6];have hkk:=aIp (O:=qN) (u:=u) (l:=t.kids) fun k hm=>hk k hm (hw'.2 k hm) (by have:=aMh hm;omega) (ht.kid k hm);obtain⟨r1,r2⟩:=aLn (O:=qN) hw'.1 hu;have hll:=yJ qN u t.kids;have hnl:=aVr t.kids;have hp:∀x∈putL qN u t.kids++iU (putL qN u t.rest),OkT x:=fun x hx=>by
    rcases bM.1 hx with h|h
    ·exact hkk x h
    ·exact r2 x h
   have hl2:(putL qN u t.kids++iU (putL qN u t.rest)).length≤4000:=by rw[List.length_append];omega
   generalize putL qN u t.kids++iU (putL qN u t.rest)=L at *
   refine .mk ht.text ht.sort ht.nlo ht.nhi ?_ ?_ ?_ ?_
   ·show(if t.kind=8 then qN L else L).length≤_;split
    ·rw[aMb];omega
    ·omega
   ·show(if _ then []else t.rest).length≤_;split
    ·simp
    ·omega
   ·intro x hx;have hx2:x∈(if t.kind=8 then qN L else L):=hx;split at hx2
    ·exact hp x ((aVd L).mem_iff.1 hx2)
    ·exact hp x hx2
   ·intro x hx;have hx2:x∈(if((putL qN u t.rest).any fun r => !decide (r.kind=6))=true then []else t.rest):=hx;split at hx2
    ·cases hx2
    ·exact ht.rst x hx2
theorem bDk{s:dX}{u:LSub}(hm:Small s)(ha:AscU u)(hul:u.length≤1000000000)(hu:SmU u):∀t,wfT nodeB t=true→nodesT t≤2000→OkT t→bIg twM qN s u t:=
 fH (Q:=fun t=>wfT nodeB t=true→nodesT t≤2000→OkT t→bIg twM qN s u t) fun t hk _ hw hn ht=>by
  have hw':=gS.1 hw;rw[bVj]at hn;have six:∀r:LTerm,r.kind=6→bIg twM qN s u r:=fun r h6 so tw=>pP g0 (cDb twM qN s u r so tw hm ha hul h6) (by rw[elT,pers,wJ]) (by simp[AObj.persO,persL,pers,mM,avu,lZ]) (bK _);by_cases h6:t.kind=6
  ·exact six t h6
  intro so tw;obtain⟨r1,r2⟩:=aLn (O:=qN) hw'.1 hu;have hll:=yJ qN u t.kids;have hnl:=aVr t.kids;have hkk:=aIp (O:=qN) (u:=u) (l:=t.kids) fun k hm=>aVm hu k (hw'.2 k hm) (by have:=aMh hm;omega) (ht.kid k hm);refine pP g0 (cGk twM qN s u t so tw hm (fun k hkm=>hk k hkm (hw'.2 k hkm) (by have:=aMh hkm;omega) (ht.kid k hkm)) (fun r hr=>six r (lR hw'.1 r hr).1) h6 (fun h8=>⟨aMb _,fun so tw k n x o rc hrc=>?_⟩) (by omega) (by omega) (by omega)) (by rw[elT,pers,wJ]) (by simp[AObj.persO,persL,pers,mM,avu,lZ]) (bK _);exact bXq (cM s) (avu u) rc so tw k n x o _ (by rw[List.length_append];omega) (fun a hx=>by
   rcases bM.1 hx with h|h
   ·exact hkk a h
   ·exact r2 a h) mM lZ hrc
def aAy(e:PE):EN:=(e.1,[e.2])
theorem zP:∀es:List PE,iW (fl es)=es.map aAy
 | []=>rfl
 |e::es=>by rw[sG,iW,zP es];rfl
theorem aXi(es:List PE):xK (es.map aAy)=fl es:=by rw[← zP,wA]
theorem bBt{L:List PE}(h:SrtE L){x y:PE}(hx:x∈L)(hy:y∈L)(e:x.1=y.1):x=y:=by
 obtain⟨i,hi,rfl⟩:=dC.1 hx;obtain⟨j,hj,rfl⟩:=dC.1 hy;have hp:=dQ.1 (aLd.1 h);rcases U5 i j with h1|h1|h1
 ·have:=hp i j hi hj h1;rw[e,vV]at this;omega
 ·subst h1;rfl
 ·have:=hp j i hj hi h1;rw[e,vV]at this;omega
theorem aVo{a b:List EN}(h:a.Perm b):bEf a=bEf b:=by
 rw[bEf,bEf,fA,gY,gY];exact⟨fun⟨x,hx,k⟩=>⟨x,h.mem_iff.1 hx,k⟩,fun⟨x,hx,k⟩=>⟨x,h.mem_iff.2 hx,k⟩⟩
theorem bEe{L:List PE}(h:KysE L):bEf (L.map aAy)=false:=by
 rw[bEf,List.any_map,dD];intro hh;obtain⟨x,hx,k⟩:=gY.1 hh;have:=aJc.1 h x hx;rw[Function.comp,aAy,this]at k;cases k
theorem bMk{es L:List PE}(hp:L.Perm es)(hs:SrtE L):aHg (es.map aAy)=L.map aAy:=by
 have p1:(aHg (es.map aAy)).Perm (L.map aAy):=(yE _).trans (hp.symm.map aAy);refine List.Perm.eq_of_pairwise (le:=fun a b:EN=>mH a.1 b.1≤0) (fun a b ha hb h1 h2=>?_) (bCj _) ?_ p1
 ·have ha2:=p1.mem_iff.1 ha;obtain⟨x,hx,rfl⟩:=dS.1 ha2;obtain⟨y,hy,rfl⟩:=dS.1 hb;have h3:=H8 x.1 y.1;have h4:mH x.1 y.1=0:=by
   have h1':mH x.1 y.1≤0:=h1;have h2':mH y.1 x.1≤0:=h2;omega
  rw[bBt hs hx hy ((H7 _ _).1 h4)]
 ·rw[List.pairwise_map];exact(aLd.1 hs).imp fun{a b} h=>by show mH a.1 b.1≤0;omega
theorem aVf{es L:List PE}(hp:L.Perm es)(hs:SrtE L)(hk:KysE L):bBh (es.map aAy)=L.map aAy:=by
 rw[bBh,aVo (hp.symm.map aAy),bEe hk,if_neg (by simp)];exact bMk hp hs
theorem aVe(l:List LTerm):qN l=xK (bBh (iW l)):=by
 rw[qN,bBh];split
 ·rw[wA]
 ·rfl
theorem bJd:cIh qN where
 srt:=fun es L hp hs hk=>by rw[aVe,zP,aVf hp hs hk,aXi]
 perm := fun es=>by
  refine⟨(bBh (es.map aAy)).map fun e=>(e.1,e.2.headD default),?_,?_⟩
  ·have:=(aLz (es.map aAy)).map fun e:EN=>((e.1,e.2.headD default):PE);rw[wP]at this;have e:((fun e:EN=>((e.1,e.2.headD default):PE))∘aAy)=id:=by funext x;rfl
   rwa[e,List.map_id]at this
  ·rw[aVe,zP]
   have e:∀l:List EN,(∀x∈l,∃y:PE,x=aAy y)→xK l=fl (l.map fun e=>(e.1,e.2.headD default)):=by
    intro l;induction l with
    |nil=>intro _;rfl
    |cons x l ih=>
     intro h;obtain⟨y,rfl⟩:=h x cQ;rw[xK,List.flatMap_cons,← xK,ih fun z hz=>h z (cJ _ hz),aK,sG];rfl
   refine e _ fun x hx=>?_;obtain⟨y,_,rfl⟩:=dS.1 ((aLz _).mem_iff.1 hx);exact⟨y,rfl⟩
theorem bWn{L:List PE}(hs:SrtE L)(n:Nat)(hn:n≤L.length):bBk (L.map aAy) n=false:=by
 rw[bBk,dD];intro hh;obtain⟨i,hi,k⟩:=gY.1 hh;rw[fE]at hi;rw[bKe]at k;obtain⟨j,hj,k⟩:=gY.1 k;rw[fE]at hj;rw[aA,decide_eq_true_eq]at k;have g:∀i,i<L.length→((L.map aAy).getD i default).1=(L.getD i default).1:=fun i hi=>by simp[List.getD,hi,aAy]
 rw[g i (by omega),g j (by omega)]at k;have:=hs j i hj (by omega);rw[k.2,vV]at this;omega
theorem bTp{es L:List PE}(hp:L.Perm es)(hs:SrtE L)(hk:KysE L):twM (fl es)=false:=by
 rw[twM,twP,zP,aVf hp hs hk];exact bWn hs _ (by rw[dP];exact bK _)
theorem cGl{s:dX}{t:LTerm}(h:gI s t=true):PT s t:=by
 rw[gI,aA]at h;exact⟨oF h.1,h.2⟩
theorem bVf{l m:List LTerm}(h:l.Sublist m):nodesL l≤nodesL m∧highL l≤highL m∧(wfL nodeB m=true→wfL nodeB l=true):=by
 induction h with
 |slnil=>exact⟨bK _,bK _,id⟩
 |cons a _ ih=>
  rw[nodesL,highL,wfL];exact⟨by omega,by omega,fun h=>ih.2.2 (by rw[aA]at h;exact h.2)⟩
 |cons_cons a _ ih=>
  simp only[nodesL,highL,wfL,aA];exact⟨by omega,by omega,fun h=>⟨h.1,ih.2.2 h.2⟩⟩
theorem cGf{t:LTerm}{k n:Int}{x y:Str}{l:List LTerm}(h:l.Sublist t.kids)(hn:nodeB (.mk k n x y l [])=true)(hv:iA nodeB t=true):iA nodeB (.mk k n x y l [])=true:=by
 obtain⟨k',n',x',y',m,r⟩:=t;have s:=bVf h;simp only[iA,aA,decide_eq_true_eq]at hv ⊢;simp only[wfT,highT,nodesT,aA,cB,LTerm.kids]at hv s ⊢;exact⟨⟨⟨hn,s.2.2 hv.1.1.2⟩,by omega⟩,by omega⟩
theorem aOw{s:dX}{t k:LTerm}(h:gI s t=true)(hk:k∈t.kids):gI s k=true:=by
 rw[gI,aA]at h ⊢;refine⟨?_,aAl h.2 k hk⟩;have hv:=h.1;obtain⟨k',n',x',y',m,r⟩:=t;have s:=bVf (List.singleton_sublist.2 hk);simp only[iA,aA,decide_eq_true_eq]at hv ⊢;simp only[wfT,highT,nodesT,aA,wfL,highL,nodesL,LTerm.kids,bA]at hv s ⊢;exact⟨⟨s.2.2 hv.1.1.2,by omega⟩,by omega⟩
theorem cFz{s:dX}{t:LTerm}(h:gI s t=true)(n:Nat):gI s (liT (t.kids.drop n))=true:=by
 have hp:=h;rw[gI,aA]at hp ⊢;refine⟨cGf (List.drop_sublist _ _) rfl hp.1,?_⟩;rw[oY];have:(List.drop n t.kids).all (plainP s)=true:=bF.2 fun k hk=>aAl hp.2 k (fL hk);simp[LTerm.kind,LTerm.rest,LTerm.kids]at this ⊢;exact this
theorem bVz{l m:List PE}(h:l.Sublist m):(fl l).Sublist (fl m):=by
 induction h with
 |slnil=>exact List.Sublist.refl _
 |cons a _ ih=>exact(ih.cons _).cons _
 |cons_cons a _ ih=>exact(ih.cons_cons _).cons_cons _
theorem cFy{s:dX}{t:LTerm}{L left:List PE}(h:gI s t=true)(hL:t.kids=fl L)(hs:SrtE L)(hk:KysE L)(sub:left.Sublist L):gI s (maT (fl left))=true:=by
 have hp:=h;rw[gI,aA]at hp ⊢;have hsub:(fl left).Sublist t.kids:=by rw[hL];exact bVz sub
 refine⟨cGf hsub ?_ hp.1,?_⟩
 ·have:(fl left).length % 2=0:=by rw[aFn];omega
  show nodeB (maT (fl left))=true;rw[nodeB];simp[oH,gK,LTerm.kind,LTerm.rest,LTerm.kids,LTerm.n,LTerm.text,LTerm.sort,this]
 ·rw[oY];have h1:(fl left).all (plainP s)=true:=bF.2 fun k hk=>aAl hp.2 k (hsub.subset hk);have h2:E5 mH (maT (fl left))=true:=(aMr (t:=maT (fl left)) rfl).2 ⟨aLd.2 ((aLd.1 hs).sublist sub),aJc.2 fun e he=>aJc.1 hk e (sub.subset he)⟩;rw[show(maT (fl left)).kids=fl left from rfl,h1,h2];rfl
def nmB(p:LTerm):Bool := !decide (p.kind=6)||(decide (p.text=[95])||eQ p.text)
def GdU(s:dX)(u:LSub):Prop:=∀q∈u,eQ q.1=true∧gI s q.2=true
theorem aBt{s:dX}{v t:LTerm}{u u':LSub}(hv:v.text=[95]∨eQ v.text=true)(ht:gI s t=true)(hu:GdU s u)(h:u'∈oK s v t u):GdU s u':=by
 obtain⟨_,⟨_,rfl⟩|⟨hw,⟨_,rfl⟩|⟨_,rfl⟩⟩⟩:=Z4 h
 ·exact hu
 ·exact hu
 ·intro q hq;rw[X6]at hq;rcases bM.1 hq with h|h
  ·exact hu q (dH h)
  ·rcases cH.1 h with rfl|h
   ·exact⟨hv.resolve_left hw,ht⟩
   ·exact hu q (fL h)
def GdF(s:dX)(F:FF)(p:LTerm):Prop:=∀t u u',gI s t=true→GdU s u→u'∈F p t u→GdU s u'
section
variable {s:dX} {F:FF}
theorem aLm:∀{ps ts:List LTerm} {u u':LSub},(∀p∈ps,GdF s F p)→(∀t∈ts,gI s t=true)→GdU s u→u'∈aQu F ps ts u→GdU s u'
 |p::ps,t::ts,u,u',hF,ht,hu,h=>by
  rw[aQu]at h;obtain⟨v,hv,h⟩:=dV.1 h;exact aLm (fun q hq=>hF q (cJ _ hq)) (fun q hq=>ht q (cJ _ hq)) (hF p cQ t u v (ht t cQ) hu hv) h
 | [],ts,u,u',_,_,hu,h=>by
   rw[aNh,aV]at h;subst h;exact hu
 |p::ps,[],u,u',_,_,hu,h=>by
  rw[show aQu F (p::ps) [] u=[u]from rfl,aV]at h;subst h;exact hu
theorem bCg{key:LTerm}{w:nJ}{k:Nat}{u':LSub}(hk:key.text=[95]∨eQ key.text=true∨¬key.kind=6)(ht:gI s (w.left.getD (2*k) default)=true)(hu:GdU s w.u)(h:u'∈mG s key w k):GdU s u':=by
 rw[mG]at h;split at h
 ·rename_i e;have h6:key.kind=6:=by
   by_cases h6:key.kind=6
   ·exact h6
   ·rw[if_neg h6]at e;cases e
  refine aBt ?_ ht hu h;rcases hk with h1|h1|h1
  ·exact .inl h1
  ·exact .inr h1
  ·exact absurd h6 h1
 ·split at h
  ·rw[aV.1 h];exact hu
  ·cases h
theorem bIo{p:LTerm}{u:LSub}{L:List PE}(hk:∀k∈p.kids,k.text=[95]∨eQ k.text=true∨¬k.kind=6)(hv:∀q∈p.kids,GdF s F q)(hp:∀e∈L,gI s e.1=true∧gI s e.2=true)(hu:GdU s u):∀(k:Nat),2*k≤p.kids.length→∀w∈aXs F s p k ⟨u,fl L⟩,
 (∃left:List PE,w.left=fl left∧left.Sublist L)∧GdU s w.u
 |0,_,w,hw=>by
  rw[aXs,aV]at hw;subst hw;exact⟨⟨L,rfl,List.Sublist.refl _⟩,hu⟩
 |k+1,hle,w,hw=>by
  rw[aXs]at hw;obtain⟨w0,hw0,hw⟩:=dV.1 hw;obtain⟨⟨left,h1,h2⟩,h3⟩:=bIo hk hv hp hu k (by omega) w0 hw0;rw[bQb]at hw;obtain⟨j,hj,h⟩:=dV.1 hw;obtain⟨u',hu',rfl⟩:=dS.1 h;obtain⟨v,hv1,hv2⟩:=dV.1 hu';rw[fE,h1,aFn]at hj;have hj2:j<left.length:=by omega
  have hm:=hp _ (h2.subset (cT (d:=default) hj2));have g1:=bCg (s:=s) (hk _ (cT (by omega))) (by rw[h1,P0 hj2];exact hm.1) h3 hv1;rw[h1,bJw hj2]at hv2;refine⟨⟨left.eraseIdx j,by dsimp only;rw[h1,aYj],(List.eraseIdx_sublist _ _).trans h2⟩,?_⟩;exact hv _ (cT (by omega)) _ v u' hm.2 g1 hv2
end
theorem bLg{s:dX}{f:Str→Str}:∀(n:Nat) (p:LTerm),PW f p→wfT nodeB p=true→wfT nmB p=true→GdF s (S6 s n) p
 |0,p,_,_,_=>fun t u u' _ _ h=>by rw[S6]at h;cases h
 |n + 1,p,hp,hw,hm=>fun t u u' ht hu h=>by
  have hw':=gS.1 hw;have hm':=gS.1 hm;have IH:∀k∈p.kids,GdF s (S6 s n) k:=fun k hk=>bLg n k (hp.kid hk) (hw'.2 k hk) (hm'.2 k hk);have hrn:=lR hw'.1;have nm:∀q:LTerm,nmB q=true→q.text=[95]∨eQ q.text=true∨¬q.kind=6:=fun q hq=>by
   simp only[nmB,cC,eF,decide_eq_false_iff_not,decide_eq_true_eq]at hq;rcases hq with h|h|h
   ·exact .inr (.inr h)
   ·exact .inl h
   ·exact .inr (.inl h)
  have leaf:∀u',u'∈iT s p t u→GdU s u':=fun u' h=>by
   rw[iT]at h;split at h
   ·rename_i h6;refine aBt ?_ ht hu h;rcases nm p hm'.1 with h1|h1|h1
    ·exact .inl h1
    ·exact .inr h1
    ·exact absurd h6 h1
   ·split at h
    ·rw[aV.1 h];exact hu
    ·cases h
  rw[S6]at h;split at h
  ·split at h
   ·exact aLm IH (fun k hk=>aOw ht hk) hu h
   ·cases h
  split at h
  ·split at h
   ·have htk:∀k∈t.kids.take p.kids.length,gI s k=true:=fun k hk=>aOw ht (dH hk);split at h
    ·rename_i hr;obtain⟨v,hv,h⟩:=dV.1 h;have gv:=aLm IH htk hu hv;obtain⟨r1,r2,_⟩:=hrn _ (vN (qR.1 hr));rw[iT,if_pos r1]at h;exact aBt (.inr r2) (cFz ht _) gv h
    ·exact aLm IH htk hu h
   ·cases h
  split at h
  ·rename_i h8;split at h
   ·rename_i ht8;obtain⟨L,hL,hLs,hLk⟩:=(cGl ht).map ht8;rw[hL]at h;obtain⟨w,hw2,h⟩:=dV.1 h;obtain⟨⟨left,g1,g2⟩,g3⟩:=bIo (fun k hk=>nm k (gS.1 (hm'.2 k hk)).1) IH (fun e he=>by
     have:=qH hL he;exact⟨aOw ht this.1,aOw ht this.2⟩) hu _ (by omega) w hw2
    rw[G2]at h;split at h
    ·rename_i hr;obtain⟨r1,r2,_⟩:=hrn _ (vN (qR.1 hr));rw[g1]at h;exact aBt (.inr r2) (cFy ht hL hLs hLk g2) g3 h
    ·split at h
     ·rw[aV.1 h];exact g3
     ·cases h
   ·cases h
  exact leaf u' h
theorem cDh:∀(t:LTerm),wfT nodeB t=true→∀d:Int,((vis t d).any fun v=>decide (v.1.kind=6)&&decide (v.1.text=[36]))=false→wfT nmB t=true:=
 fH (Q := fun t=>wfT nodeB t=true→∀d:Int,((vis t d).any fun v=>decide (v.1.kind=6)&&decide (v.1.text=[36]))=false→wfT nmB t=true) fun t hk _ hw d h=>by
  have hw':=gS.1 hw;rw[uY (f:=fun x=>decide (x.kind=6)&&decide (x.text=[36])),gR,fQ]at h;refine gS.2 ⟨?_,fun k hm=>hk k hm (hw'.2 k hm) (d+1) (by have:=h.2 k (dK _ hm);simpa using this)⟩;rw[nmB];by_cases h6:t.kind=6
  ·have h1:=h.1;rw[zt h6,aI,decide_eq_false_iff_not]at h1;have:=hw'.1;simp only[nodeB,h6,Int.reduceEq,if_true,if_false]at this;split at this
   ·rename_i ho;simp only[yM,cC,decide_eq_true_eq]at ho;rw[zt (ho.resolve_right h1)];simp
   ·simp only[aA]at this;rw[this.1.1];simp
  ·rw[zf h6];rfl
theorem bUt{s:dX}{p:LTerm}(h:aAm s p=true):wfT nodeB p=true∧wfT nmB p=true:=by
 rw[aAm,aA,aSa]at h;simp only[aA]at h;obtain⟨_,hv,_,_,hn⟩:=h;have hw:=oF hv;refine⟨hw,cDh p hw 1 ?_⟩;rw[aAn,aA,bF]at hn;rw[fQ];intro v hv2 hq;have:=hn.2 v hv2;rw[T0]at this;simp only[aA,decide_eq_true_eq]at hq;simp[hq.1,hq.2]at this
theorem yC{s:dX}{u:LSub}(h:mK s u=true):GdU s u:=fun q hq=>by
 obtain⟨i,hi,rfl⟩:=dC.1 hq;have:=yB h i hi;have e:u.getD i default=u[i]:=by simp[List.getD,hi]
 rw[e]at this;exact⟨this.1,this.2.2⟩
theorem aWu{s:dX}{u:LSub}(h:GdU s u)(ha:AscU u):mK s u=true:=by
 have key:∀k,k≤u.length→pX s u k=true:=by
  intro k;induction k with
  |zero=>intro _;rfl
  |succ k ih=>
   intro hk;have hg:=h _ (cT (d:=default) (show k<u.length by omega));rw[pX,ih (by omega),hg.1,hg.2,aI,aI,bA];by_cases h0:k=0
   ·simp[h0]
   ·have:=aKb ha (i:=k-1) (j:=k) (by omega) (by omega);rw[zf h0,cU,bytesLess_eq,zt this]
 exact key _ (bK _)
end Go.Proofs.YtdjcggcjlphdoaaGreatDoor
