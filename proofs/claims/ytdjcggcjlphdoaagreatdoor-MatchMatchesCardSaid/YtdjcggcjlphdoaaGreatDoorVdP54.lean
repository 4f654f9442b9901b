/-
  Functions of the chapter, as plain functions of what they are given; no condition.
-/
import Derived.Test.YtdjcggcjlphdoaaGreatDoorVdP53
import Derived.Test.YtdjcggcjlphdoaaGreatDoorVoP64
set_option maxRecDepth 100000
set_option linter.unusedSimpArgs false
set_option linter.unusedVariables false
set_option maxHeartbeats 4000000
namespace Go.Proofs.YtdjcggcjlphdoaaGreatDoor
open Go Go.Vo
open Nat (reduceAdd reduceSub reduceMul reduceLeDiff reduceLT reduceEqDiff)
open Int (reduceNeg)
def tmA(u:LSub):AV:=.mapv ((u.map (·.1)).map .s) ((u.map (·.2)).map elT)
theorem I5:∀{l:List LTerm},persL (l.map elT)=true
 | []=>rfl
 |t::l=>by rw[aK,persL,I5,elT,pers,D0];rfl
theorem bJc(u:LSub):pers (tmA u)=true:=by
 rw[tmA,pers,jW,I5];rfl
theorem aJj(u:LSub):pers (.mapv ((u.map (·.1)).map .s) ((u.map (·.2)).map elT))=true:=bJc u
theorem aDn{u:LSub}{x:Str}(h:mOf u x=none):((u.map (·.1)).findIdx? fun y=>decide (x=y))=none:=by
 rw[fF];intro y hy;obtain⟨p,hp,rfl⟩:=dP.1 hy;unfold mOf at h;rw[Option.map_eq_none_iff,F7]at h;have:=h p hp;simp only[decide_eq_true_eq]at this;simp;exact fun e=>this e.symm
theorem aDm{u:LSub}{x:Str}{t:LTerm}(h:mOf u x=some t):∃j,((u.map (·.1)).findIdx? fun z=>decide (x=z))=some j∧((u.map (·.2)).map elT)[j]? = some (.agg (tmC t)):=by
 induction u with
 |nil=>simp[mOf]at h
 |cons p m ih=>
  unfold mOf at h;rw[sM]at h;by_cases hx:p.1=x
  ·rw[zt hx]at h;simp only[dJ,aA]at h;exact⟨0,by simp[iK,hx],by simp[h,elT,aI,avt]⟩
  ·rw[zf hx]at h;obtain⟨j,h1,h2⟩:=ih h;refine⟨j+1,?_,by simpa using h2⟩;rw[aK,iK,zf (fun e=>hx e.symm),h1];rfl
theorem aVl(x:Value)(w:World):(callFunc 250 #[x]).run Tryz.prog w=((Extern.MapsClone.clone #[x]).run Tryz.prog w).andThen fun v w'=>.ok (.value v) w':=
 run_callFunc_extern Tryz.func250 (by kernel_rfl) (by kernel_rfl) (by kernel_rfl) (by rfl) _ _
theorem bRj(u:LSub)(h:List AObj): ACalls Tryz.prog G0 202 [tmA u] h (fun r h'=>r=.mp h.length∧h'=h++[.map false ((u.map (·.1)).map .s) ((u.map (·.2)).map elT)]):=by
 refine jD (rx:=true) (th:=fun i=>if i=1 then some ⟨none,[],false,false,true,[],[],1000⟩else if i=3 then some ⟨none,[],false,false,true,[],[],1000⟩else none) cI Tryz.func202 ?_
 ·simp -implicitDefEqProofs (disch:=omega) only[Tryz.f202,go_sem,List.replicate,simprocAttr,tmA];refine oZ 1 1 (by simp only[strip,lA,eH,kZ,RX.off,ckF,ckX,zOf,exd,vOf,aD,aC,aY,aX,aF,Bool.and_true,Bool.and_false,aF,bP,bR,dI,fD,aW,bE,aJ,aH,dO,anyPre,Region.binds,Bool.not_true,Bool.not_false,aE,if_true,if_false,aP,aO,Bool.true_and,Bool.false_and,aT,aK,aD,aC,List.append_nil,aL,bK,aQ,bA,Nat.reduceAdd];rfl) (by simp only[strip,lA,eH,kZ,RX.off,ckF,ckX,zOf,exd,vOf,aD,aC,aY,aX,aF,Bool.and_true,Bool.and_false,aF,bP,bR,dI,fD,aW,bE,aJ,aH,dO,anyPre,Region.binds,Bool.not_true,Bool.not_false,aE,if_true,if_false,aP,aO,Bool.true_and,Bool.false_and,aT,aK,aD,aC,List.append_nil,aL,bK,aQ,bA,Nat.reduceAdd];rfl) ?_;simp -implicitDefEqProofs (disch:=omega) only[go_sem,simprocAttr];intro X w a g r;refine aDh (T:=104) (j:=3) (m:=tmA u) (ks:=(u.map (·.1)).map .s) (vs:=(u.map (·.2)).map elT) rfl rfl bOa rfl (.inl rfl) ?_ g r;simp -implicitDefEqProofs (disch:=omega) only[go_sem,simprocAttr];clear r g X w a;refine oZ 1 3 (by simp only[strip,lA,eH,kZ,RX.off,ckF,ckX,zOf,exd,vOf,aD,aC,aY,aX,aF,Bool.and_true,Bool.and_false,aF,bP,bR,dI,fD,aW,bE,aJ,aH,dO,anyPre,Region.binds,Bool.not_true,Bool.not_false,aE,if_true,if_false,aP,aO,Bool.true_and,Bool.false_and,aT,aK,aD,aC,List.append_nil,aL,bK,aQ,bA,Nat.reduceAdd];rfl) (by simp only[strip,lA,eH,kZ,RX.off,ckF,ckX,zOf,exd,vOf,aD,aC,aY,aX,aF,Bool.and_true,Bool.and_false,aF,bP,bR,dI,fD,aW,bE,aJ,aH,dO,anyPre,Region.binds,Bool.not_true,Bool.not_false,aE,if_true,if_false,aP,aO,Bool.true_and,Bool.false_and,aT,aK,aD,aC,List.append_nil,aL,bK,aQ,bA,Nat.reduceAdd];rfl) ?_;simp -implicitDefEqProofs (disch:=omega) only[go_sem,simprocAttr];intro X w a g r;refine aHw (T:=104) (j:=5) (d1:=6) (d2:=7) (m:=tmA u) (ks:=(u.map (·.1)).map .s) (vs:=(u.map (·.2)).map elT) rfl rfl rfl rfl rfl rfl rfl rfl aVl bOa rfl (.inl rfl) (by simp) (by simp) ?_ g r;clear r g X w a;simp -implicitDefEqProofs (disch:=omega) only[go_sem,simprocAttr]
theorem rR{h:List AObj}:∀{l:List AV},persL l=true→l.map (gJ dep h)=l
 | [],_=>rfl
 |a::l,hl=>by
  rw[persL,aB]at hl;rw[aK,rR hl.2,fS,if_pos hl.1]
def bNx(s:dF)(u:LSub)(p q:LTerm):Option LSub:=
 if mP s (jU s q) p.sort=true then(if p.text=[95]then some u else match mOf u p.text with
  |some o=>if o=q then some u else none
  |none=>some (u++[(p.text,q)]))else none
theorem bKd{u:LSub}{x:Str}{t:LTerm}(hu:∀p∈u,OkT p.2)(h:mOf u x=some t):OkT t:=by
 unfold mOf at h;obtain⟨p,hp,rfl⟩:=dA.1 h;exact hu p (lH hp)
def cAn(o:Option LSub)(B:LSub→Bool):Bool:=match o with
 |some v=>B v
 |none=>false
theorem bRl(s:dF)(u:LSub)(p q:LTerm)(f:Nat)(fi ca:List AV)(B:LSub→Bool)(hm:Small s)(hu:∀x∈u,OkT x.2)(op:OkT p)(oq:OkT q)(hf:persL fi=true)(hc:persL ca=true)(hY:∀v,bNx s u p q=some v→CT f (fi++tmA v::ca) (.b (B v))): CT 134 [.agg [cD s],tmA u,elT p,elT q,.fn f fi ca] (.b (cAn (bNx s u p q) B)):=by
 refine cW cI Tryz.func134 g0 ?_
 ·simp -implicitDefEqProofs (disch:=omega) only[Tryz.f134,go_sem,List.replicate,simprocAttr,tmA,elT,aI];have c2:=aEs s q;have c3:=aOf s (jU s q) p.sort hm;simp only[cD]at c2 c3;rw[bNx];by_cases hat:mP s (jU s q) p.sort=true
  ·rw[if_pos hat]
   rw[bNx,if_pos hat]at hY;rw[hat]at c3;by_cases hw:p.text=[95]
   ·rw[if_pos hw]at hY ⊢;have cY:=hY u rfl;(repeat'(first|refine gT ?_ ?_|refine gF ?_ ?_|refine gC ?_ ?_|((first|(refine bM (c2) ?_ ?_;(focus(simp -implicitDefEqProofs (disch:=omega) only[Bool.not_true,zt hw,zdB,go_sem,simprocAttr];done)))|(refine bM (c3) ?_ ?_;(focus(simp -implicitDefEqProofs (disch:=omega) only[Bool.not_true,zt hw,zdB,go_sem,simprocAttr];done))));simp -implicitDefEqProofs (disch:=omega) only[Bool.not_true,zt hw,go_sem,simprocAttr])|refine aU (by omega) ?_|(intro hr;have hc:=hr;(try simp only[zdz]at hc);simp -implicitDefEqProofs (disch:=omega) only[hr,Bool.not_true,zt hw,go_sem,simprocAttr];(try clear hr))));refine bM cY (by rw[bO,aK,rR hf,rR hc,fS,if_pos (aJj u)];rfl) ?_;refine zg ?_;exact aV rfl rfl
   ·rw[if_neg hw]at hY ⊢
    cases ho:mOf u p.text with
    |some o=>
     rw[ho]at hY;dsimp only at hY ⊢;obtain⟨j,k1,k2⟩:=aDm ho;have c5:=aLe o q (bKd hu ho) oq;by_cases hoq:o=q
     ·rw[zt hoq]at c5;rw[if_pos hoq]at hY ⊢;have cY:=hY u rfl;(repeat'(first|refine gT ?_ ?_|refine gF ?_ ?_|refine gC ?_ ?_|((first|(refine bM (c2) ?_ ?_;(focus(simp -implicitDefEqProofs (disch:=omega) only[Bool.not_true,zf hw,kH,D8,k1,k2,zdB,go_sem,simprocAttr];done)))|(refine bM (c3) ?_ ?_;(focus(simp -implicitDefEqProofs (disch:=omega) only[Bool.not_true,zf hw,kH,D8,k1,k2,zdB,go_sem,simprocAttr];done)))|(refine bM (c5) ?_ ?_;(focus(simp -implicitDefEqProofs (disch:=omega) only[Bool.not_true,zf hw,kH,D8,k1,k2,zdB,go_sem,simprocAttr];done))));simp -implicitDefEqProofs (disch:=omega) only[Bool.not_true,zf hw,kH,D8,k1,k2,go_sem,simprocAttr])|refine aU (by omega) ?_|(intro hr;have hc:=hr;(try simp only[zdz]at hc);simp -implicitDefEqProofs (disch:=omega) only[hr,Bool.not_true,zf hw,kH,D8,k1,k2,go_sem,simprocAttr];(try clear hr))));refine bM cY (by rw[bO,aK,rR hf,rR hc,fS,if_pos (aJj u)];rfl) ?_;refine zg ?_;exact aV rfl rfl
     ·rw[zf hoq]at c5;rw[if_neg hoq];(repeat'(first|refine gT ?_ ?_|refine gF ?_ ?_|refine gC ?_ ?_|((first|(refine bM (c2) ?_ ?_;(focus(simp -implicitDefEqProofs (disch:=omega) only[Bool.not_true,zf hw,kH,D8,k1,k2,zdB,go_sem,simprocAttr];done)))|(refine bM (c3) ?_ ?_;(focus(simp -implicitDefEqProofs (disch:=omega) only[Bool.not_true,zf hw,kH,D8,k1,k2,zdB,go_sem,simprocAttr];done)))|(refine bM (c5) ?_ ?_;(focus(simp -implicitDefEqProofs (disch:=omega) only[Bool.not_true,zf hw,kH,D8,k1,k2,zdB,go_sem,simprocAttr];done))));simp -implicitDefEqProofs (disch:=omega) only[Bool.not_true,zf hw,kH,D8,k1,k2,go_sem,simprocAttr])|refine aU (by omega) ?_|(intro hr;have hc:=hr;(try simp only[zdz]at hc);simp -implicitDefEqProofs (disch:=omega) only[hr,Bool.not_true,zf hw,kH,D8,k1,k2,go_sem,simprocAttr];(try clear hr))));all_goals exact aV rfl rfl
    |none=>
     rw[ho]at hY;dsimp only at hY ⊢;have k1:=aDn ho;have cY:=hY _ rfl;(repeat'(first|refine gT ?_ ?_|refine gF ?_ ?_|refine gC ?_ ?_|((first|(refine bM (c2) ?_ ?_;(focus(simp -implicitDefEqProofs (disch:=omega) only[Bool.not_true,zf hw,kH,D8,k1,zdB,go_sem,simprocAttr];done)))|(refine bM (c3) ?_ ?_;(focus(simp -implicitDefEqProofs (disch:=omega) only[Bool.not_true,zf hw,kH,D8,k1,zdB,go_sem,simprocAttr];done))));simp -implicitDefEqProofs (disch:=omega) only[Bool.not_true,zf hw,kH,D8,k1,go_sem,simprocAttr])|refine aU (by omega) ?_|(intro hr;have hc:=hr;(try simp only[zdz]at hc);simp -implicitDefEqProofs (disch:=omega) only[hr,Bool.not_true,zf hw,kH,D8,k1,go_sem,simprocAttr];(try clear hr))));have c6:=fun h=>bRj u h;simp only[tmA]at c6;refine jC (c6 _) ?_;rintro r h' ⟨rfl,rfl⟩;refine zh (zA2 @kH.eq_1 (zA2 @D8 @k1)) ?_;refine bM cY ?_ ?_
     ·rw[bO,aK,rR hf,rR hc];refine zh @I5 ?_;simp[tmA,elT,aI,avt]
     refine zg ?_;exact aV rfl rfl
  ·rw[if_neg hat];rw[cT.2 hat]at c3;(repeat'(first|refine gT ?_ ?_|refine gF ?_ ?_|refine gC ?_ ?_|((first|(refine bM (c2) ?_ ?_;(focus(simp -implicitDefEqProofs (disch:=omega) only[Bool.not_false,zdB,go_sem,simprocAttr];done)))|(refine bM (c3) ?_ ?_;(focus(simp -implicitDefEqProofs (disch:=omega) only[Bool.not_false,zdB,go_sem,simprocAttr];done))));simp -implicitDefEqProofs (disch:=omega) only[Bool.not_false,go_sem,simprocAttr])|refine aU (by omega) ?_|(intro hr;have hc:=hr;(try simp only[zdz]at hc);simp -implicitDefEqProofs (disch:=omega) only[hr,Bool.not_false,go_sem,simprocAttr];(try clear hr))));all_goals exact aV rfl rfl
abbrev wK:Value:=.iface 138 (.agg #[])
def nP(l:List LSub):Prop:=∀u∈l,AscU u
def aPh(A:AF):Prop:=∀p t l b,nP l→nP (A p t l b).1
theorem qG:nP []:=fun u hu=>by cases hu
theorem aLu{b:Bool}{l:List LSub}(h:nP l):nP (pH b l).1:=by
 rw[pH];split
 ·exact qG
 ·exact h
theorem F4{s:dF}{v t:LTerm}{u:LSub}(h:AscU u):nP (kG s v t u):=by
 rw[kG];split
 ·split
  ·intro x hx;rw[bJ.1 hx];exact h
  ·split
   ·split
    ·intro x hx;rw[bJ.1 hx];exact h
    ·exact qG
   ·rename_i hn;intro x hx;rw[bJ.1 hx];exact bMx h hn
 ·exact qG
theorem aWl{s:dF}{p t:LTerm}{u:LSub}(h:AscU u):nP (gZ s p t u):=by
 rw[gZ];split
 ·exact F4 h
 ·split
  ·intro x hx;rw[bJ.1 hx];exact h
  ·exact qG
theorem aLw{α:Type}{f:α→List LSub}{l:List α}(h:∀x∈l,nP (f x)):nP (l.flatMap f):=fun u hu=>by
 obtain⟨x,hx,h2⟩:=iO.1 hu;exact h x hx u h2
theorem aMa{s:dF}{p t:LTerm}{l:List LSub}{b:Bool}(h:nP l):nP (D6 s p t l b).1:=aLu (aLw fun u hu=>aWl (h u hu))
section
variable {A:AF} {s:dF} {key value:LTerm}
theorem uH(hA:aPh A):∀{ps ts:List LTerm} {l:List LSub} {b:Bool},nP l→nP (jH A ps ts l b).1
 | [],ts,l,b,h=>by rw[H5];exact h
 |p::ps,[],l,b,h=>h
 |p::ps,t::ts,l,b,h=>by rw[jH];exact uH hA (hA _ _ _ _ h)
def aFq(l:List jV):Prop:=∀w∈l,AscU w.u
theorem aWj{w:jV}{k:Nat}(h:AscU w.u):nP (mO s key w k):=by
 rw[mO];split
 ·exact F4 h
 ·split
  ·intro x hx;rw[bJ.1 hx];exact h
  ·exact qG
theorem aLz(hA:aPh A){w:jV}{k:Nat}{b:Bool}(h:AscU w.u):aFq (xQ A s key value w k b).1:=by
 intro x hx;rw[xQ]at hx;obtain⟨u,hu,rfl⟩:=dP.1 hx;exact hA _ _ _ _ (aWj h) u hu
theorem aLx(hA:aPh A){w:jV}(h:AscU w.u){b:Bool}:∀k,aFq (mC A s key value w k b).1
 |0=>fun x hx=>by cases hx
 |k+1=>by
  rw[mC];intro x hx;rcases cJ.1 hx with h1|h1
  ·exact aLx hA h k x h1
  ·exact aLz hA h x h1
theorem aLy(hA:aPh A):∀{ws:List jV} {b:Bool},aFq ws→aFq (lE A s key value ws b).1
 | [],b,h=>fun x hx=>by cases hx
 |w::ws,b,h=>by
  rw[lE];intro x hx;rcases cJ.1 hx with h1|h1
  ·exact aLx hA (h w (by simp)) _ x h1
  ·exact aLy hA (fun w hw=>h w (by simp[hw])) x h1
theorem aWk(hA:aPh A){ws:List jV}{b:Bool}(h:aFq ws):aFq (nJ A s key value ws b).1:=by
 rw[nJ];split
 ·exact fun x hx=>by cases hx
 ·exact aLy hA h
theorem aLv(hA:aPh A){p:LTerm}{r:List jV×Bool}(h:aFq r.1):∀k,aFq (lX A s p k r).1
 |0=>h
 |k+1=>by rw[lX];exact aWk hA (aLv hA h k)
theorem bMo{p:LTerm}{w:jV}(h:AscU w.u):nP (sY s p w):=by
 rw[sY];split
 ·exact F4 h
 ·split
  ·intro x hx;rw[bJ.1 hx];exact h
  ·exact qG
theorem aWi(hA:aPh A){p t:LTerm}{l:List LSub}{b:Bool}(h:nP l):nP (lK A s p t l b).1:=by
 rw[lK];refine aLu (aLw fun w hw=>bMo (aLv hA (fun x hx=>?_) _ w hw));obtain⟨u,hu,rfl⟩:=dP.1 hx;exact h u hu
end
theorem zW{s:dF}:∀n,aPh (dX s n)
 |0=>fun p t l b h=>qG
 |n + 1=>fun p t l b h=>by
  have hA:=zW (s:=s) n;rw[dX];split
  ·split
   ·exact uH hA h
   ·exact qG
  split
  ·split
   ·split
    ·exact aMa (uH hA h)
    ·exact uH hA h
   ·exact qG
  split
  ·split
   ·exact aWi hA h
   ·exact qG
  exact aMa h
theorem bFl(l:List LSub): aFs Tryz.prog G0 169 [avw l] (avw l) (decide (1000<l.length)) wK:=by
 refine kY (rx:=false) (th:=fun _=>none) cI Tryz.func169 rfl (by kernel_rfl) (by kernel_rfl) (ac:=?_) ?_ g0 ?_;rotate_left
 ·simp only[strip,lA,eH,kZ,RX.off,ckF,ckX,zOf,exd,vOf,aD,aC,aY,aX,aF,Bool.and_true,Bool.and_false,aF,bP,bR,dI,fD,aW,bE,aJ,aH,dO,anyPre,Region.binds,Bool.not_true,Bool.not_false,aE,if_true,if_false,aP,aO,Bool.true_and,Bool.false_and,aT,aK,aD,aC,List.append_nil];rfl
 ·simp -implicitDefEqProofs (disch:=omega) only[Tryz.f169,go_sem,List.replicate,simprocAttr,avw];by_cases h:(1000:Int)<((l.length:Nat):Int)
  ·have h':1000<l.length:=by omega
   refine zh (zt h) ?_;(refine zx0 (zt h) ?_;repeat' first|exact trivial|refine zJ ?_ ?_|refine zH fun hc=>?_);simp -implicitDefEqProofs only[Tryz.underlying138,go_sem];exact zt h'
  ·have h':¬1000<l.length:=by omega
   refine zh (zf h) ?_;(refine zx0 (zf h) ?_;repeat' first|exact trivial|refine zJ ?_ ?_|refine zH fun hc=>?_);exact⟨zf h',.inl ⟨rfl,gS l⟩⟩
theorem bBi{s:dF}{p t:LTerm}{u:LSub}{b:Bool}(h:(xV s p t u).2=b):gZ s p t u=if b=true then [(xV s p t u).1]else []:=by rw[aDq,h]
theorem aAb(s:dF)(l:List LSub)(p t:LTerm)(m:Nat)(hm:Small s)(hl:l.length≤1000)(hu:tD m l)(ha:nP l)(hmm:m≤1000000)(op:OkT p)(ot:OkT t)(h5:¬p.kind=5)(h7:¬p.kind=7)(h8:¬p.kind=8): CT 103 [.agg [cD s],avw l,elT p,elT t] (avw (l.flatMap (gZ s p t))):=by
 refine cW cI Tryz.func103 g0 ?_
 ·simp -implicitDefEqProofs (disch:=omega) only[Tryz.f103,go_sem,List.replicate,simprocAttr,avw,elT,aI];refine zh (zA2 (zf h5) (zA2 (zf h7) (zf h8))) ?_;refine cO (fun(q:Nat×AV×List AObj)=>(rp 9 .k (.v (q.2.1)::.k::.j::.j::.j::(rp 20 .k (.v (.i .i64 (q.1:Nat))::(rp 17 .j [.k,.k])))))) (fun q=>(.box false [cD s]::.box false (tmC p)::.box false (tmC t)::q.2.2)) (fun q=>q.1≤l.length∧gD 1 3 q.2.2 q.2.1 (((l.take q.1).flatMap (gZ s p t)).map avu) ((l.take q.1).flatMap (gZ s p t)).length) (fun q=>l.length-q.1) ((0,.e0,[])) ⟨aR _,eX⟩ rfl (by simp[fO]) ?_;rintro⟨k,out,g⟩ j ⟨hk,ho⟩;dsimp only at hk ho;by_cases hlt:k<l.length
  ·have hki:(k:Int)<((l.length:Nat):Int):=by omega
   have hmm':=cC (d:=default) hlt;have hfl:=nM (s:=s) (p:=p) (t:=t) (l:=l.take k);rw[bS]at hfl;have hsucc:=lW (f:=gZ s p t) (d:=default) hlt;have hum:=(hu _ hmm').mono hmm;have cb:=bFm s (l.getD k default) p t hm (ha _ hmm') hum op ot;generalize hL:xV s p t (l.getD k default)=L at *
   obtain⟨v,fl⟩:=L;have e1:=bBi (s:=s) (p:=p) (t:=t) (u:=l.getD k default) (b:=fl) (by rw[hL]);rw[hL]at e1;cases fl with
   |true=>
    refine zh (zA2 (zt hki) @avu.eq_1) ?_;(refine zy1 (zA2 (zt hki) @avu.eq_1) cb ?_;repeat' first|exact trivial|refine zJ ?_ ?_|refine zH fun hc=>?_);refine eI (pre:=[_,_,_]) (news:=[.sl (v.flatMap prT) (List.length v)]) (m:=1) ho rfl rfl bBg aXo aYa bCq rfl (by decide) (by simp -implicitDefEqProofs (disch:=omega) only[go_sem,simprocAttr]) (by simp -implicitDefEqProofs (disch:=omega) only[go_sem,simprocAttr]) ⟨by omega,by omega⟩ ?_;intro out' g' ho' _;refine zg ?_;refine⟨(k+1,out',g'),⟨by dsimp only;omega,?_⟩,by dsimp only;omega,rfl,by simp⟩;dsimp only;rw[hsucc,e1,bO,List.length_append];exact ho'
   |false=>
    refine zh (zA2 (zt hki) @avu.eq_1) ?_;(refine zy1 (zA2 (zt hki) @avu.eq_1) cb ?_;repeat' first|exact trivial|refine zJ ?_ ?_|refine zH fun hc=>?_);refine⟨(k+1,out,g),⟨by dsimp only;omega,?_⟩,by dsimp only;omega,rfl,by simp⟩;dsimp only;rw[hsucc,e1,if_neg (by simp),List.append_nil];exact ho
  ·have hki:¬(k:Int)<((l.length:Nat):Int):=by omega
   rw[aS (by omega)]at ho;have hfl:=nM (s:=s) (p:=p) (t:=t) (l:=l);have ct:=(bFl (l.flatMap (gZ s p t))).1 (zf (by omega));refine zh (zf hki) ?_;obtain⟨k1,g',k2,k3⟩:=jX (pre:=[.box false [cD s],.box false (tmC p),.box false (tmC t)]) ho iW;simp only[aH,aJ,cD]at k1;refine bM ct (by rw[aK,aT,k1];rfl) ?_;generalize gB (avw (l.flatMap (gZ s p t))) _ _=H;rw[show ∀H,mat (avw (l.flatMap (gZ s p t))) H=(avw (l.flatMap (gZ s p t)),H)from fun H=>rfl];refine zg ?_;trace_state;exact .inl ⟨rfl,gS _⟩
theorem zK:∀{l:List Bool},persL (l.map AV.b)=true
 | []=>rfl
 |b::l=>by rw[aK,persL,zK];rfl
attribute [go_sem] zK
theorem bFj(l:List Bool)(hl:l.length≤1000000): CT 204 [.sl (l.map .b) l.length] (.own 1 (l.map .b) l.length):=by
 refine aZ cI Tryz.func204 g0 ?_
 ·skip;have b1:(l.length≤140737488355328)=True:=eq_true (by omega);refine bEm (fun h=>?_) ?_
  ·have:l=[]:=List.eq_nil_of_length_eq_zero h;subst this;refine zg ?_;(refine zs0 ?_;repeat' first|exact trivial|refine zJ ?_ ?_|refine zH fun hc=>?_);all_goals exact .inr ⟨⟨rfl,rfl⟩,eM,fun i hi=>by cases hi⟩
  ·refine zh @b1 ?_;(refine zx0 @b1 ?_;repeat' first|exact trivial|refine zJ ?_ ?_|refine zH fun hc=>?_);trace_state;exact .inr ⟨⟨rfl,rfl,_,rfl,by simp,by rw[bA,aS (by simp)],zK⟩,by simp[cX],by simp[cX,kI]⟩
end Go.Proofs.YtdjcggcjlphdoaaGreatDoor
