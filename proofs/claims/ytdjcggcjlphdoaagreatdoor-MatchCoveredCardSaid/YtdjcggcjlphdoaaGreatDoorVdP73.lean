/-
  Functions of the chapter, as plain functions of what they are given; no condition.
-/
import Derived.Test.YtdjcggcjlphdoaaGreatDoorVdP72
import Derived.Test.YtdjcggcjlphdoaaGreatDoorVoP84
import Derived.Test.YtdjcggcjlphdoaaGreatDoorVcP72
import Derived.Test.YtdjcggcjlphdoaaGreatDoorVaP74
set_option maxRecDepth 100000
set_option linter.unusedSimpArgs false
set_option linter.unusedVariables false
set_option maxHeartbeats 4000000
namespace Go.Proofs.YtdjcggcjlphdoaaGreatDoor
open Go Go.Vo
open Nat (reduceAdd reduceSub reduceMul reduceLeDiff reduceLT reduceEqDiff)
open Int (reduceNeg)
def tmA(u:LSub):AV:=.mapv ((u.map (·.1)).map .s) ((u.map (·.2)).map elT)
theorem gS:∀{l:List LTerm},persL (l.map elT)=true
 | []=>rfl
 |t::l=>by rw[aQ,persL,gS,elT,pers,rW];rfl
theorem bKu(u:LSub):pers (tmA u)=true:=by
 rw[tmA,pers,lU,gS];rfl
theorem Y1(u:LSub):pers (.mapv ((u.map (·.1)).map .s) ((u.map (·.2)).map elT))=true:=bKu u
theorem sY{u:LSub}{x:Str}(h:mOf u x=none):((u.map (·.1)).findIdx? fun y=>decide (x=y))=none:=by
 rw[fU];intro y hy;obtain⟨p,hp,rfl⟩:=dX.1 hy;unfold mOf at h;rw[Option.map_eq_none_iff,F7]at h;have:=h p hp;simp only[decide_eq_true_eq]at this;simp;exact fun e=>this e.symm
theorem sX{u:LSub}{x:Str}{t:LTerm}(h:mOf u x=some t):∃j,((u.map (·.1)).findIdx? fun z=>decide (x=z))=some j∧((u.map (·.2)).map elT)[j]? = some (.agg (tmC t)):=by
 induction u with
 |nil=>simp[mOf]at h
 |cons p m ih=>
  unfold mOf at h;rw[zX]at h;by_cases hx:p.1=x
  ·rw[zt hx]at h;simp only[dR,aF]at h;exact⟨0,by simp[iO,hx],by simp[h,elT,aL,avt]⟩
  ·rw[zf hx]at h;obtain⟨j,h1,h2⟩:=ih h;refine⟨j+1,?_,by simpa using h2⟩;rw[aQ,iO,zf (fun e=>hx e.symm),h1];rfl
theorem aWn(x:Value)(w:World):(callFunc 250 #[x]).run Tryz.prog w=((Extern.MapsClone.clone #[x]).run Tryz.prog w).andThen fun v w'=>.ok (.value v) w':=
 run_callFunc_extern Tryz.func250 (by kernel_rfl) (by kernel_rfl) (by kernel_rfl) (by rfl) _ _
theorem bTi(u:LSub)(h:List AObj): ACalls Tryz.prog G0 202 [tmA u] h (fun r h'=>r=.mp h.length∧h'=h++[.map false ((u.map (·.1)).map .s) ((u.map (·.2)).map elT)]):=by
 refine mB (rx:=true) (th:=fun i=>if i=1 then some ⟨none,[],false,false,true,[],[],1000⟩else if i=3 then some ⟨none,[],false,false,true,[],[],1000⟩else none) dE Tryz.func202 ?_
 ·simp -implicitDefEqProofs (disch:=omega) only[Tryz.f202,go_sem,List.replicate,simprocAttr,tmA];refine oU 1 1 (by simp only[strip,kV,eR,kU,RX.off,ckF,ckX,zOf,exd,vOf,aH,aG,bH,bG,aK,bA,aS,aK,bT,bY,dP,fQ,bD,bM,aE,aC,eB,anyPre,Region.binds,aA,aB,aI,if_true,if_false,aY,aW,aR,aT,aZ,aQ,aH,aG,List.append_nil,aO,bS,aV,bK,Nat.reduceAdd];rfl) (by simp only[strip,kV,eR,kU,RX.off,ckF,ckX,zOf,exd,vOf,aH,aG,bH,bG,aK,bA,aS,aK,bT,bY,dP,fQ,bD,bM,aE,aC,eB,anyPre,Region.binds,aA,aB,aI,if_true,if_false,aY,aW,aR,aT,aZ,aQ,aH,aG,List.append_nil,aO,bS,aV,bK,Nat.reduceAdd];rfl) ?_;simp -implicitDefEqProofs (disch:=omega) only[go_sem,simprocAttr];intro X w a g r;refine aDj (T:=104) (j:=3) (m:=tmA u) (ks:=(u.map (·.1)).map .s) (vs:=(u.map (·.2)).map elT) rfl rfl bQc rfl (.inl rfl) ?_ g r;simp -implicitDefEqProofs (disch:=omega) only[go_sem,simprocAttr];clear r g X w a;refine oU 1 3 (by simp only[strip,kV,eR,kU,RX.off,ckF,ckX,zOf,exd,vOf,aH,aG,bH,bG,aK,bA,aS,aK,bT,bY,dP,fQ,bD,bM,aE,aC,eB,anyPre,Region.binds,aA,aB,aI,if_true,if_false,aY,aW,aR,aT,aZ,aQ,aH,aG,List.append_nil,aO,bS,aV,bK,Nat.reduceAdd];rfl) (by simp only[strip,kV,eR,kU,RX.off,ckF,ckX,zOf,exd,vOf,aH,aG,bH,bG,aK,bA,aS,aK,bT,bY,dP,fQ,bD,bM,aE,aC,eB,anyPre,Region.binds,aA,aB,aI,if_true,if_false,aY,aW,aR,aT,aZ,aQ,aH,aG,List.append_nil,aO,bS,aV,bK,Nat.reduceAdd];rfl) ?_;simp -implicitDefEqProofs (disch:=omega) only[go_sem,simprocAttr];intro X w a g r;refine aIh (T:=104) (j:=5) (d1:=6) (d2:=7) (m:=tmA u) (ks:=(u.map (·.1)).map .s) (vs:=(u.map (·.2)).map elT) rfl rfl rfl rfl rfl rfl rfl rfl aWn bQc rfl (.inl rfl) (by simp) (by simp) ?_ g r;clear r g X w a;simp -implicitDefEqProofs (disch:=omega) only[go_sem,simprocAttr]
theorem nS{h:List AObj}:∀{l:List AV},persL l=true→l.map (iA dep h)=l
 | [],_=>rfl
 |a::l,hl=>by
  rw[persL,aD]at hl;rw[aQ,nS hl.2,gN,if_pos hl.1]
def G5(s:dK)(u:LSub)(p q:LTerm):Option LSub:=
 if iQ s (kI s q) p.sort=true then(if p.text=[95]then some u else match mOf u p.text with
  |some o=>if o=q then some u else none
  |none=>some (u++[(p.text,q)]))else none
theorem aTp{u:LSub}{x:Str}{t:LTerm}(hu:∀p∈u,OkT p.2)(h:mOf u x=some t):OkT t:=by
 unfold mOf at h;obtain⟨p,hp,rfl⟩:=dH.1 h;exact hu p (lB hp)
def bXc(o:Option LSub)(B:LSub→Bool):Bool:=match o with
 |some v=>B v
 |none=>false
theorem bHi(s:dK)(u:LSub)(p q:LTerm)(f:Nat)(fi ca:List AV)(B:LSub→Bool)(hm:Small s)(hu:∀x∈u,OkT x.2)(op:OkT p)(oq:OkT q)(hf:persL fi=true)(hc:persL ca=true)(hY:∀v,G5 s u p q=some v→CT f (fi++tmA v::ca) (.b (B v))): CT 134 [.agg [bQ s],tmA u,elT p,elT q,.fn f fi ca] (.b (bXc (G5 s u p q) B)):=by
 refine dO dE Tryz.func134 g0 ?_
 ·simp -implicitDefEqProofs (disch:=omega) only[Tryz.f134,go_sem,List.replicate,simprocAttr,tmA,elT,aL];have c2:=aEn s q;have c3:=aOj s (kI s q) p.sort hm;simp only[bQ]at c2 c3;rw[G5];by_cases hat:iQ s (kI s q) p.sort=true
  ·rw[if_pos hat]
   rw[G5,if_pos hat]at hY;rw[hat]at c3;by_cases hw:p.text=[95]
   ·rw[if_pos hw]at hY ⊢;have cY:=hY u rfl;(repeat'(first|refine gT ?_ ?_|refine gF ?_ ?_|refine gC ?_ ?_|((first|(refine bJ (c2) ?_ ?_;(focus(simp -implicitDefEqProofs (disch:=omega) only[aA,zt hw,zdB,go_sem,simprocAttr];done)))|(refine bJ (c3) ?_ ?_;(focus(simp -implicitDefEqProofs (disch:=omega) only[aA,zt hw,zdB,go_sem,simprocAttr];done))));simp -implicitDefEqProofs (disch:=omega) only[aA,zt hw,go_sem,simprocAttr])|refine bE (by omega) ?_|(intro hr;have hc:=hr;(try simp only[zdz]at hc);simp -implicitDefEqProofs (disch:=omega) only[hr,aA,zt hw,go_sem,simprocAttr];(try clear hr))));refine bJ cY (by rw[cL,aQ,nS hf,nS hc,gN,if_pos (Y1 u)];rfl) ?_;refine zg ?_;exact bR rfl rfl
   ·rw[if_neg hw]at hY ⊢
    cases ho:mOf u p.text with
    |some o=>
     rw[ho]at hY;dsimp only at hY ⊢;obtain⟨j,k1,k2⟩:=sX ho;have c5:=M8 o q (aTp hu ho) oq;by_cases hoq:o=q
     ·rw[zt hoq]at c5;rw[if_pos hoq]at hY ⊢;have cY:=hY u rfl;(repeat'(first|refine gT ?_ ?_|refine gF ?_ ?_|refine gC ?_ ?_|((first|(refine bJ (c2) ?_ ?_;(focus(simp -implicitDefEqProofs (disch:=omega) only[aA,zf hw,jM,xR,k1,k2,zdB,go_sem,simprocAttr];done)))|(refine bJ (c3) ?_ ?_;(focus(simp -implicitDefEqProofs (disch:=omega) only[aA,zf hw,jM,xR,k1,k2,zdB,go_sem,simprocAttr];done)))|(refine bJ (c5) ?_ ?_;(focus(simp -implicitDefEqProofs (disch:=omega) only[aA,zf hw,jM,xR,k1,k2,zdB,go_sem,simprocAttr];done))));simp -implicitDefEqProofs (disch:=omega) only[aA,zf hw,jM,xR,k1,k2,go_sem,simprocAttr])|refine bE (by omega) ?_|(intro hr;have hc:=hr;(try simp only[zdz]at hc);simp -implicitDefEqProofs (disch:=omega) only[hr,aA,zf hw,jM,xR,k1,k2,go_sem,simprocAttr];(try clear hr))));refine bJ cY (by rw[cL,aQ,nS hf,nS hc,gN,if_pos (Y1 u)];rfl) ?_;refine zg ?_;exact bR rfl rfl
     ·rw[zf hoq]at c5;rw[if_neg hoq];(repeat'(first|refine gT ?_ ?_|refine gF ?_ ?_|refine gC ?_ ?_|((first|(refine bJ (c2) ?_ ?_;(focus(simp -implicitDefEqProofs (disch:=omega) only[aA,zf hw,jM,xR,k1,k2,zdB,go_sem,simprocAttr];done)))|(refine bJ (c3) ?_ ?_;(focus(simp -implicitDefEqProofs (disch:=omega) only[aA,zf hw,jM,xR,k1,k2,zdB,go_sem,simprocAttr];done)))|(refine bJ (c5) ?_ ?_;(focus(simp -implicitDefEqProofs (disch:=omega) only[aA,zf hw,jM,xR,k1,k2,zdB,go_sem,simprocAttr];done))));simp -implicitDefEqProofs (disch:=omega) only[aA,zf hw,jM,xR,k1,k2,go_sem,simprocAttr])|refine bE (by omega) ?_|(intro hr;have hc:=hr;(try simp only[zdz]at hc);simp -implicitDefEqProofs (disch:=omega) only[hr,aA,zf hw,jM,xR,k1,k2,go_sem,simprocAttr];(try clear hr))));all_goals exact bR rfl rfl
    |none=>
     rw[ho]at hY;dsimp only at hY ⊢;have k1:=sY ho;have cY:=hY _ rfl;(repeat'(first|refine gT ?_ ?_|refine gF ?_ ?_|refine gC ?_ ?_|((first|(refine bJ (c2) ?_ ?_;(focus(simp -implicitDefEqProofs (disch:=omega) only[aA,zf hw,jM,xR,k1,zdB,go_sem,simprocAttr];done)))|(refine bJ (c3) ?_ ?_;(focus(simp -implicitDefEqProofs (disch:=omega) only[aA,zf hw,jM,xR,k1,zdB,go_sem,simprocAttr];done))));simp -implicitDefEqProofs (disch:=omega) only[aA,zf hw,jM,xR,k1,go_sem,simprocAttr])|refine bE (by omega) ?_|(intro hr;have hc:=hr;(try simp only[zdz]at hc);simp -implicitDefEqProofs (disch:=omega) only[hr,aA,zf hw,jM,xR,k1,go_sem,simprocAttr];(try clear hr))));have c6:=fun h=>bTi u h;simp only[tmA]at c6;refine mV (c6 _) ?_;rintro r h' ⟨rfl,rfl⟩;refine zh (zA2 @jM.eq_1 (zA2 @xR @k1)) ?_;refine bJ cY ?_ ?_
     ·rw[cL,aQ,nS hf,nS hc];refine zh @gS ?_;simp[tmA,elT,aL,avt]
     refine zg ?_;exact bR rfl rfl
  ·rw[if_neg hat];rw[dG.2 hat]at c3;(repeat'(first|refine gT ?_ ?_|refine gF ?_ ?_|refine gC ?_ ?_|((first|(refine bJ (c2) ?_ ?_;(focus(simp -implicitDefEqProofs (disch:=omega) only[aB,zdB,go_sem,simprocAttr];done)))|(refine bJ (c3) ?_ ?_;(focus(simp -implicitDefEqProofs (disch:=omega) only[aB,zdB,go_sem,simprocAttr];done))));simp -implicitDefEqProofs (disch:=omega) only[aB,go_sem,simprocAttr])|refine bE (by omega) ?_|(intro hr;have hc:=hr;(try simp only[zdz]at hc);simp -implicitDefEqProofs (disch:=omega) only[hr,aB,go_sem,simprocAttr];(try clear hr))));all_goals exact bR rfl rfl
abbrev vX:Value:=.iface 138 (.agg #[])
def nJ(l:List LSub):Prop:=∀u∈l,AscU u
def aPj(A:AF):Prop:=∀p t l b,nJ l→nJ (A p t l b).1
theorem pQ:nJ []:=fun u hu=>by cases hu
theorem aLw{b:Bool}{l:List LSub}(h:nJ l):nJ (sW b l).1:=by
 rw[sW];split
 ·exact pQ
 ·exact h
theorem F4{s:dK}{v t:LTerm}{u:LSub}(h:AscU u):nJ (mM s v t u):=by
 rw[mM];split
 ·split
  ·intro x hx;rw[aP.1 hx];exact h
  ·split
   ·split
    ·intro x hx;rw[aP.1 hx];exact h
    ·exact pQ
   ·rename_i hn;intro x hx;rw[aP.1 hx];exact bOv h hn
 ·exact pQ
theorem aXn{s:dK}{p t:LTerm}{u:LSub}(h:AscU u):nJ (iJ s p t u):=by
 rw[iJ];split
 ·exact F4 h
 ·split
  ·intro x hx;rw[aP.1 hx];exact h
  ·exact pQ
theorem aLy{α:Type}{f:α→List LSub}{l:List α}(h:∀x∈l,nJ (f x)):nJ (l.flatMap f):=fun u hu=>by
 obtain⟨x,hx,h2⟩:=cH.1 hu;exact h x hx u h2
theorem aMc{s:dK}{p t:LTerm}{l:List LSub}{b:Bool}(h:nJ l):nJ (D6 s p t l b).1:=aLw (aLy fun u hu=>aXn (h u hu))
section
variable {A:AF} {s:dK} {key value:LTerm}
theorem tP(hA:aPj A):∀{ps ts:List LTerm} {l:List LSub} {b:Bool},nJ l→nJ (jT A ps ts l b).1
 | [],ts,l,b,h=>by rw[yT];exact h
 |p::ps,[],l,b,h=>h
 |p::ps,t::ts,l,b,h=>by rw[jT];exact tP hA (hA _ _ _ _ h)
def aFv(l:List mS):Prop:=∀w∈l,AscU w.u
theorem aXl{w:mS}{k:Nat}(h:AscU w.u):nJ (lE s key w k):=by
 rw[lE];split
 ·exact F4 h
 ·split
  ·intro x hx;rw[aP.1 hx];exact h
  ·exact pQ
theorem aMb(hA:aPj A){w:mS}{k:Nat}{b:Bool}(h:AscU w.u):aFv (tC A s key value w k b).1:=by
 intro x hx;rw[tC]at hx;obtain⟨u,hu,rfl⟩:=dX.1 hx;exact hA _ _ _ _ (aXl h) u hu
theorem aLz(hA:aPj A){w:mS}(h:AscU w.u){b:Bool}:∀k,aFv (oN A s key value w k b).1
 |0=>fun x hx=>by cases hx
 |k+1=>by
  rw[oN];intro x hx;rcases cQ.1 hx with h1|h1
  ·exact aLz hA h k x h1
  ·exact aMb hA h x h1
theorem aMa(hA:aPj A):∀{ws:List mS} {b:Bool},aFv ws→aFv (rA A s key value ws b).1
 | [],b,h=>fun x hx=>by cases hx
 |w::ws,b,h=>by
  rw[rA];intro x hx;rcases cQ.1 hx with h1|h1
  ·exact aLz hA (h w (by simp)) _ x h1
  ·exact aMa hA (fun w hw=>h w (by simp[hw])) x h1
theorem aXm(hA:aPj A){ws:List mS}{b:Bool}(h:aFv ws):aFv (qF A s key value ws b).1:=by
 rw[qF];split
 ·exact fun x hx=>by cases hx
 ·exact aMa hA h
theorem aLx(hA:aPj A){p:LTerm}{r:List mS×Bool}(h:aFv r.1):∀k,aFv (oY A s p k r).1
 |0=>h
 |k+1=>by rw[oY];exact aXm hA (aLx hA h k)
theorem bOl{p:LTerm}{w:mS}(h:AscU w.u):nJ (B7 s p w):=by
 rw[B7];split
 ·exact F4 h
 ·split
  ·intro x hx;rw[aP.1 hx];exact h
  ·exact pQ
theorem aXk(hA:aPj A){p t:LTerm}{l:List LSub}{b:Bool}(h:nJ l):nJ (lQ A s p t l b).1:=by
 rw[lQ];refine aLw (aLy fun w hw=>bOl (aLx hA (fun x hx=>?_) _ w hw));obtain⟨u,hu,rfl⟩:=dX.1 hx;exact h u hu
end
theorem zR{s:dK}:∀n,aPj (fM s n)
 |0=>fun p t l b h=>pQ
 |n + 1=>fun p t l b h=>by
  have hA:=zR (s:=s) n;rw[fM];split
  ·split
   ·exact tP hA h
   ·exact pQ
  split
  ·split
   ·split
    ·exact aMc (tP hA h)
    ·exact tP hA h
   ·exact pQ
  split
  ·split
   ·exact aXk hA h
   ·exact pQ
  exact aMc h
theorem bHf(l:List LSub): aFx Tryz.prog G0 169 [avw l] (avw l) (decide (1000<l.length)) vX:=by
 refine kT (rx:=false) (th:=fun _=>none) dE Tryz.func169 rfl (by kernel_rfl) (by kernel_rfl) (ac:=?_) ?_ g0 ?_;rotate_left
 ·simp only[strip,kV,eR,kU,RX.off,ckF,ckX,zOf,exd,vOf,aH,aG,bH,bG,aK,bA,aS,aK,bT,bY,dP,fQ,bD,bM,aE,aC,eB,anyPre,Region.binds,aA,aB,aI,if_true,if_false,aY,aW,aR,aT,aZ,aQ,aH,aG,List.append_nil];rfl
 ·simp -implicitDefEqProofs (disch:=omega) only[Tryz.f169,go_sem,List.replicate,simprocAttr,avw];by_cases h:(1000:Int)<((l.length:Nat):Int)
  ·have h':1000<l.length:=by omega
   refine zh (zt h) ?_;(refine zx0 (zt h) ?_;repeat' first|exact trivial|refine zJ ?_ ?_|refine zH fun hc=>?_);simp -implicitDefEqProofs only[Tryz.underlying138,go_sem];exact zt h'
  ·have h':¬1000<l.length:=by omega
   refine zh (zf h) ?_;(refine zx0 (zf h) ?_;repeat' first|exact trivial|refine zJ ?_ ?_|refine zH fun hc=>?_);exact⟨zf h',.inl ⟨rfl,sQ l⟩⟩
theorem bDb{s:dK}{p t:LTerm}{u:LSub}{b:Bool}(h:(xO s p t u).2=b):iJ s p t u=if b=true then [(xO s p t u).1]else []:=by rw[aDs,h]
theorem aAj(s:dK)(l:List LSub)(p t:LTerm)(m:Nat)(hm:Small s)(hl:l.length≤1000)(hu:E2 m l)(ha:nJ l)(hmm:m≤1000000)(op:OkT p)(ot:OkT t)(h5:¬p.kind=5)(h7:¬p.kind=7)(h8:¬p.kind=8): CT 103 [.agg [bQ s],avw l,elT p,elT t] (avw (l.flatMap (iJ s p t))):=by
 refine dO dE Tryz.func103 g0 ?_
 ·simp -implicitDefEqProofs (disch:=omega) only[Tryz.f103,go_sem,List.replicate,simprocAttr,avw,elT,aL];refine zh (zA2 (zf h5) (zA2 (zf h7) (zf h8))) ?_;refine dV (fun(q:Nat×AV×List AObj)=>(rp 9 .k (.v (q.2.1)::.k::.j::.j::.j::(rp 20 .k (.v (.i .i64 (q.1:Nat))::(rp 17 .j [.k,.k])))))) (fun q=>(.box false [bQ s]::.box false (tmC p)::.box false (tmC t)::q.2.2)) (fun q=>q.1≤l.length∧jU 1 3 q.2.2 q.2.1 (((l.take q.1).flatMap (iJ s p t)).map avu) ((l.take q.1).flatMap (iJ s p t)).length) (fun q=>l.length-q.1) ((0,.e0,[])) ⟨bX _,jN⟩ rfl (by simp[iS]) ?_;rintro⟨k,out,g⟩ j ⟨hk,ho⟩;dsimp only at hk ho;by_cases hlt:k<l.length
  ·have hki:(k:Int)<((l.length:Nat):Int):=by omega
   have hmm':=cS (d:=default) hlt;have hfl:=qM (s:=s) (p:=p) (t:=t) (l:=l.take k);rw[cN]at hfl;have hsucc:=pI (f:=iJ s p t) (d:=default) hlt;have hum:=(hu _ hmm').mono hmm;have cb:=bHg s (l.getD k default) p t hm (ha _ hmm') hum op ot;generalize hL:xO s p t (l.getD k default)=L at *
   obtain⟨v,fl⟩:=L;have e1:=bDb (s:=s) (p:=p) (t:=t) (u:=l.getD k default) (b:=fl) (by rw[hL]);rw[hL]at e1;cases fl with
   |true=>
    refine zh (zA2 (zt hki) @avu.eq_1) ?_;(refine zy1 (zA2 (zt hki) @avu.eq_1) cb ?_;repeat' first|exact trivial|refine zJ ?_ ?_|refine zH fun hc=>?_);refine fN (pre:=[_,_,_]) (news:=[.sl (v.flatMap prT) (List.length v)]) (m:=1) ho rfl rfl bSr bPo bQn bWa rfl (by decide) (by simp -implicitDefEqProofs (disch:=omega) only[go_sem,simprocAttr]) (by simp -implicitDefEqProofs (disch:=omega) only[go_sem,simprocAttr]) ⟨by omega,by omega⟩ ?_;intro out' g' ho' _;refine zg ?_;refine⟨(k+1,out',g'),⟨by dsimp only;omega,?_⟩,by dsimp only;omega,rfl,by simp⟩;dsimp only;rw[hsucc,e1,cL,List.length_append];exact ho'
   |false=>
    refine zh (zA2 (zt hki) @avu.eq_1) ?_;(refine zy1 (zA2 (zt hki) @avu.eq_1) cb ?_;repeat' first|exact trivial|refine zJ ?_ ?_|refine zH fun hc=>?_);refine⟨(k+1,out,g),⟨by dsimp only;omega,?_⟩,by dsimp only;omega,rfl,by simp⟩;dsimp only;rw[hsucc,e1,if_neg (by simp),List.append_nil];exact ho
  ·have hki:¬(k:Int)<((l.length:Nat):Int):=by omega
   rw[bB (by omega)]at ho;have hfl:=qM (s:=s) (p:=p) (t:=t) (l:=l);have ct:=(bHf (l.flatMap (iJ s p t))).1 (zf (by omega));refine zh (zf hki) ?_;obtain⟨k1,g',k2,k3⟩:=rB (pre:=[.box false [bQ s],.box false (tmC p),.box false (tmC t)]) ho J1;simp only[aC,aE,bQ]at k1;refine bJ ct (by rw[aQ,aZ,k1];rfl) ?_;generalize gM (avw (l.flatMap (iJ s p t))) _ _=H;rw[show ∀H,mat (avw (l.flatMap (iJ s p t))) H=(avw (l.flatMap (iJ s p t)),H)from fun H=>rfl];refine zg ?_;trace_state;exact .inl ⟨rfl,sQ _⟩
theorem yV:∀{l:List Bool},persL (l.map AV.b)=true
 | []=>rfl
 |b::l=>by rw[aQ,persL,yV];rfl
attribute [go_sem] yV
theorem V0(l:List Bool)(hl:l.length≤1000000): CT 204 [.sl (l.map .b) l.length] (.own 1 (l.map .b) l.length):=by
 refine cI dE Tryz.func204 g0 ?_
 ·skip;have b1:(l.length≤140737488355328)=True:=eq_true (by omega);refine bGb (fun h=>?_) ?_
  ·have:l=[]:=List.eq_nil_of_length_eq_zero h;subst this;refine zg ?_;(refine zs0 ?_;repeat' first|exact trivial|refine zJ ?_ ?_|refine zH fun hc=>?_);all_goals exact .inr ⟨⟨rfl,rfl⟩,fL,fun i hi=>by cases hi⟩
  ·refine zh @b1 ?_;(refine zx0 @b1 ?_;repeat' first|exact trivial|refine zJ ?_ ?_|refine zH fun hc=>?_);trace_state;exact .inr ⟨⟨rfl,rfl,_,rfl,by simp,by rw[bK,bB (by simp)],yV⟩,by simp[dN],by simp[dN,kC]⟩
def uB(w:kJ):List AV:=[avu w.u,.sl (w.tk.map .b) w.tk.length]
def bEg(l:List kJ):AV:=.sl (l.flatMap uB) l.length
theorem aQd(w:kJ):(uB w).length=2:=rfl
theorem aSc(w:kJ):persL (uB w)=true:=by rw[uB,persL,bFv,aR,persL,aD];exact⟨yV,rfl⟩
theorem uG{l:List kJ}:persL (l.flatMap uB)=true:=mK fun x _=>aSc x
theorem aCb{l:List kJ}:(l.flatMap uB).length=l.length*2:=nZ aQd l
theorem bJb{l:List kJ}{k:Nat}(h:k<l.length):((l.flatMap uB).drop (k*2)).take 2=uB (l.getD k default):=by
 rw[uL aQd];simp[h,List.getD]
theorem cBb{l:List Bool}{k:Nat}(h:k<l.length):(l.map AV.b)[k]? = some (.b (l.getD k false)):=by
 rw[fC,bO h,cW,bO h];rfl
attribute [go_sem] bJb aCb uG aSc cBb
theorem bKt(l:List kJ):pers (bEg l)=true:=uG
def bPc(s:dK)(n:Nat)(p:LTerm):Prop:=
 ∀(t:LTerm) (l:List LSub) (m:Nat),OkN t→jW s t=true→nodesT t≤1000000→E2 m l→nJ l→l.length≤1000→m+nodesT p≤1000000 →
  aFx Tryz.prog G0 103 [.agg [bQ s],avw l,elT p,elT t] (avw (fM s n p t l false).1) (fM s n p t l false).2 vX
theorem E8:∀{ks:List LTerm} {tk:List Bool} {x:LTerm},x∈leftOf ks tk→x∈ks
 |a :: b::l,y::tk,x,h=>by
  rw[leftOf]at h;split at h
  ·exact bU _ (bU _ (E8 h))
  ·rcases dA.1 h with rfl|h
   ·simp
   ·rcases dA.1 h with rfl|h
    ·simp
    ·exact bU _ (bU _ (E8 h))
 | [],_,x,h=>by simp[leftOf]at h
 | [a],_,x,h=>by simp[leftOf]at h
 |a::b::l,[],x,h=>by simp[leftOf]at h
theorem aPt{t:LTerm}{m:Nat}{w:kJ}(hu:OkU m w.u)(hl:t.kids.length=2*w.tk.length):OkW t m (jG t.kids w):=by
 have h1:=xM hl;have h2:=aWj (k:=w.tk.length) (tk:=w.tk);refine⟨hu,?_,fun x hx=>E8 hx,?_⟩
 ·show(leftOf t.kids w.tk).length % 2=0;omega
 ·show(leftOf t.kids w.tk).length≤_;omega
theorem bVr{i:Nat}{tk:List Bool}(hi:i<tk.length)(hx:tk.getD i false=false):cntF i tk+1≤cntF tk.length tk:=by
 have h1:=yB hi;rw[hx,if_neg (by simp)]at h1;have mono:∀j,i+1+j≤tk.length→cntF (i+1) tk≤cntF (i+1+j) tk:=by
  intro j;induction j with
  |zero=>intro _;exact bV _
  |succ j ih=>intro hj;have:=yB (k:=i+1+j) (tk:=tk) (by omega);have:=ih (by omega);rw[show i+1+(j+1)=i+1+j+1 by omega];omega
 have:=mono (tk.length-(i+1)) (by omega);rw[show i+1+(tk.length-(i+1))=tk.length by omega]at this;omega
section
variable {A:AF} {s:dK} {key value t:LTerm}
theorem aDa{m:Nat}{w:kJ}{b:Bool}(hA:AOk A value)(hu:OkU m w.u)(hl:t.kids.length=2*w.tk.length)(ht:OkN t){i:Nat}(hi:i≤w.tk.length):(kP A s key value t.kids w i b).1.length≤w.tk.length*1000:=by
 have e:=J7 (A:=A) (s:=s) (key:=key) (value:=value) (b:=b) hl hi;have hw:=aPt hu hl;have h1:=xM hl;have mono:cntF i w.tk≤cntF w.tk.length w.tk:=by
  have m1:∀j,i+j≤w.tk.length→cntF i w.tk≤cntF (i+j) w.tk:=by
   intro j;induction j with
   |zero=>intro _;exact bV _
   |succ j ih=>intro hj;have:=yB (k:=i+j) (tk:=w.tk) (by omega);have:=ih (by omega);rw[show i+(j+1)=i+j+1 by omega];omega
  have:=m1 (w.tk.length-i) (by omega);rwa[show i+(w.tk.length-i)=w.tk.length by omega]at this
 have h2:=(aIa (s:=s) (key:=key) hA hw ht (cntF i w.tk) b (by show 2*cntF i w.tk≤(leftOf t.kids w.tk).length;omega)).2;rw[← e]at h2;simp only[eD]at h2;have:=aWj (k:=w.tk.length) (tk:=w.tk);have h3:cntF i w.tk*1000≤w.tk.length*1000:=by omega
 omega
theorem S9(hA:pA A){w:kJ}{b:Bool}{i:Nat}(h:(kP A s key value t.kids w i b).2=true):∀j,(kP A s key value t.kids w (i+j) b).2=true
 |0=>h
 |j + 1=>by
  have ih:=S9 hA h j;rw[show i+(j+1)=i+j+1 by omega,kP];split
  ·exact ih
  ·show(tC A s key value _ _ _).2=true;rw[ih];exact hA _ _ _
theorem aSp(hA:pA A){w:kJ}{b:Bool}{i:Nat}(hi:i≤w.tk.length)(h:(kP A s key value t.kids w i b).2=true):(kP A s key value t.kids w w.tk.length b).2=true:=by
 have:=S9 hA h (w.tk.length-i);rwa[show i+(w.tk.length-i)=w.tk.length by omega]at this
theorem bAx{w:kJ}{i:Nat}{b:Bool}(hl:t.kids.length=2*w.tk.length)(hi:i<w.tk.length)(hx:w.tk.getD i false=false){l0:List LSub}
 (h0:l0=match Q0 key w.u with|none=>mM s key (t.kids.getD (2*i) default) w.u|some a=>if a=t.kids.getD (2*i) default then [w.u]else []) :
 P7 A s key value t.kids w i b=((A value (t.kids.getD (2*i+1) default) l0 b).1.map fun v=>⟨v,w.tk.set i true⟩,(A value (t.kids.getD (2*i+1) default) l0 b).2):=by
 obtain⟨a1,a2,_⟩:=left_at hl hi hx;have hs:lE s key (jG t.kids w) (cntF i w.tk)=l0:=by
  rw[h0];cases hK:Q0 key w.u with
  |none=>rw[aNc (w:=jG t.kids w) hK];dsimp only[jG];rw[a1]
  |some a=>rw[aNb (w:=jG t.kids w) hK];simp only[jG,a1]
 rw[P7,tC,hs];dsimp only[jG];rw[a2,List.map_map];rfl
end
theorem Z4{pre g:List AObj}{i n sz:Nat}{fz:Bool}{cells:List AV}(hi:g[i]? = some (.arr fz sz cells))(hl:cells.length=n*sz)(hp:persL cells=true) :
 iA dep (pre++g) (.hs (i+pre.length) 0 n false)=.sl cells n∧Vo.freeze (eL dep (pre++g) (.hs (i+pre.length) 0 n false)) (pre++g)=pre++g.modify i AObj.fz:=by
 have hlt:=bW hi;have hg:(pre++g)[i+pre.length]? = some (.arr fz sz cells):=by
  rw[aX (by omega)];simpa using hi
 have hd:(cells.drop 0).take (n*sz)=cells:=by rw[bK,bB (by omega)]
 have he:cells.all aOi=true:=by
  rw[bC];intro a ha;obtain⟨j,hj⟩:=dB.1 ha;have:=iL hp j a hj;cases a<;>first|rfl|exact this
 refine⟨?_,?_⟩
 ·simp only[gN,pers,rV,hg,hd,hp,if_true,aI,if_false];rw[if_pos (by omega)]
 ·rw[E4,hg];simp only[hsQ,he,if_true,Vo.freeze];apply oB;intro j;by_cases hj:j<pre.length
  ·rw[gL,aN hj,aN hj];have:¬i+pre.length=j:=by omega
   simp[this]
  ·rw[gL,aX (by omega),aX (by omega),gL];have:(i+pre.length=j)=(i=j-pre.length):=propext ⟨fun h=>by omega,fun h=>by omega⟩;simp only[this]
theorem vW{g:List AObj}{x:AObj}:(g++[x]).modify g.length AObj.fz=g++[x.fz]:=by
 apply oB;intro j;rw[gL];rcases Nat.lt_trichotomy j g.length with h|h|h
 ·rw[aN h,aN h];have:¬g.length=j:=by omega
  simp[this]
 ·subst h;simp
 ·rw[iF (by simp;omega),iF (by simp;omega)];rfl
theorem pW{tk:List Bool}{i:Nat}(h:i<tk.length):(tk.take i).map AV.b++.b true::(tk.drop (i+1)).map AV.b=(tk.set i true).map .b:=by
 rw[List.set_eq_take_append_cons_drop,if_pos h];simp
theorem bSq(s : dK)(n:Nat)(key value t:LTerm)(w:kJ)(m:Nat)(hm:Small s)(hA:bPc s n value)(ht:OkN t)(hpl:∀x∈t.kids,jW s x=true)(hnk:∀x∈t.kids,nodesT x≤1000000)(htl:t.kids.length≤1000000)(hkk:OkT key)(hu:OkU m w.u)(ha:AscU w.u)(hl:t.kids.length=2*w.tk.length)(hmm:m+1+nodesT value≤1000000): aFx Tryz.prog G0 260 [.agg [bQ s],.agg (uB w),elT key,elT value,elT t] (bEg (kP (fM s n) s key value t.kids w w.tk.length false).1) (kP (fM s n) s key value t.kids w w.tk.length false).2 vX:=by
 refine kT (rx:=true) (th:=fun i=>if i=16 then some ⟨none,[],false,false,true,[],[],1000⟩else if i=21 then some ⟨none,[],false,false,true,[],[],1000⟩else none) dE Tryz.func260 rfl (by kernel_rfl) (by kernel_rfl) (ac:=?_) ?_ g0 ?_;rotate_left
 ·simp only[strip,kV,eR,kU,RX.off,ckF,ckX,zOf,exd,vOf,aH,aG,bH,bG,aK,bA,aS,aK,bT,bY,dP,fQ,bD,bM,aE,aC,eB,anyPre,Region.binds,aA,aB,aI,if_true,if_false,aY,aW,aR,aT,aZ,aQ,aH,aG,List.append_nil,aLq,vQ,rR,rC,cU,cD,cG,aK,bH,bG,dD,beq_self_eq_true,fY,Nat.reduceBEq,qK,pH,qH,jX,aHu,fD,gE,bT,cX,Z2,Z1,↓reduceIte,Nat.reduceEqDiff,Nat.reduceBEq,mJ,nP,oH,splitK,vY,D9,aG,fD,gE,aA,aB,bA,aR,aS,bH,bG];rfl
 ·simp -implicitDefEqProofs (disch:=omega) only[Tryz.f260,go_sem,List.replicate,simprocAttr,uB,avu,elT,aL];have c0:=aVz w.u key.text ha (by have:=hu.1;omega);refine bPt (rp 12 .k (.v (.b (Q0 key w.u).isNone)::.j::(rp 12 .k (rp 10 .j (rp 65 .k []))))) (.box false [bQ s]::.box false (uB w)::.box false (tmC key)::.box false (tmC value)::.box false (tmC t)::.box false [.i .i64 (((Q0 key w.u).getD zT)).kind,.i .i64 (((Q0 key w.u).getD zT)).n,.s (((Q0 key w.u).getD zT)).text,.s (((Q0 key w.u).getD zT)).sort,.sl ((((Q0 key w.u).getD zT)).kids.flatMap aU) (((Q0 key w.u).getD zT)).kids.length,.sl ((((Q0 key w.u).getD zT)).rest.flatMap aU) (((Q0 key w.u).getD zT)).rest.length]::[]) ?_ ?_
  ·by_cases h6:key.kind=6
   ·have hko:Q0 key w.u=mOf w.u key.text:=if_pos h6;cases hO:mOf w.u key.text with
    |none=>
     rw[hO,P8,elT,aL]at c0;simp -implicitDefEqProofs (disch:=omega) only[zt h6,avu,hko,hO,uB,aY,aBq,go_sem,simprocAttr];(repeat'(first|refine gT ?_ ?_|refine gF ?_ ?_|refine gC ?_ ?_|((refine bJ (c0) ?_ ?_;(focus(simp -implicitDefEqProofs (disch:=omega) only[zt h6,avu,hko,hO,uB,aY,aBq,zdB,go_sem,simprocAttr];done)));simp -implicitDefEqProofs (disch:=omega) only[zt h6,avu,hko,hO,uB,aY,aBq,go_sem,simprocAttr])|refine bE (by omega) ?_|(intro hr;have hc:=hr;(try simp only[zdz]at hc);simp -implicitDefEqProofs (disch:=omega) only[hr,zt h6,avu,hko,hO,uB,aY,aBq,go_sem,simprocAttr];(try clear hr))));all_goals rfl
    |some a=>
     rw[hO,P8,elT,aL]at c0;simp -implicitDefEqProofs (disch:=omega) only[zt h6,avu,hko,hO,uB,aW,fG,go_sem,simprocAttr];(repeat'(first|refine gT ?_ ?_|refine gF ?_ ?_|refine gC ?_ ?_|((refine bJ (c0) ?_ ?_;(focus(simp -implicitDefEqProofs (disch:=omega) only[zt h6,avu,hko,hO,uB,aW,fG,zdB,go_sem,simprocAttr];done)));simp -implicitDefEqProofs (disch:=omega) only[zt h6,avu,hko,hO,uB,aW,fG,go_sem,simprocAttr])|refine bE (by omega) ?_|(intro hr;have hc:=hr;(try simp only[zdz]at hc);simp -implicitDefEqProofs (disch:=omega) only[hr,zt h6,avu,hko,hO,uB,aW,fG,go_sem,simprocAttr];(try clear hr))));all_goals rfl
   ·have hko:Q0 key w.u=some key:=if_neg h6;simp -implicitDefEqProofs (disch:=omega) only[zf h6,hko,uB,avu,aW,fG,go_sem,simprocAttr]
  intro j2;simp -implicitDefEqProofs (disch:=omega) only[uB,avu,go_sem,simprocAttr];have hBo:∀a,Q0 key w.u=some a→(Q0 key w.u).getD zT=a:=fun a h=>by rw[h];rfl
  generalize (Q0 key w.u).getD zT=B at *
  refine dV (fun(q:Nat×AV×List AObj)=>(rp 14 .k (.v (q.2.1)::.j::.j::.j::.j::.k::.j::.j::(rp 17 .k (.v (.i .i64 (q.1:Nat))::(rp 60 .j [.k])))))) (fun q=>(.box false [bQ s]::.box false [.sl (w.u.flatMap prT) w.u.length,.sl (w.tk.map .b) w.tk.length]::.box false (tmC key)::.box false (tmC value)::.box false (tmC t)::.box false (tmC B)::q.2.2)) (fun q=>q.1≤w.tk.length∧(kP (fM s n) s key value t.kids w q.1 false).2=false∧jU 2 6 q.2.2 q.2.1 ((kP (fM s n) s key value t.kids w q.1 false).1.flatMap uB) (kP (fM s n) s key value t.kids w q.1 false).1.length) (fun q=>w.tk.length-q.1) ((0,.e0,[])) ⟨bX _,rfl,jN⟩ rfl (by simp[iS]) ?_;rintro⟨i,out,g⟩ j ⟨hi,hb,ho⟩;dsimp only at hi hb ho;by_cases hlt:i<w.tk.length
  ·have hii:(i:Int)<((w.tk.length:Nat):Int):=by omega
   have hit:2*i<t.kids.length:=by omega
   have hit':2*i+1<t.kids.length:=by omega
   have hm0:=cS (d:=default) hit;have hm1:=cS (d:=default) hit';have h2i:((2:Int)*(i:Int)).toNat=2*i:=by omega
   have h2i':((2:Int)*(i:Int)+1).toNat=2*i+1:=by omega
   have hNl:=aDa (A:=fM s n) (s:=s) (key:=key) (value:=value) (b:=false) (tQ n value) hu hl ht hi;have hst:=aJk (s:=s) (key:=key) (aPt hu hl) ht (k:=cntF i w.tk);cases hx:w.tk.getD i false with
   |true=>
    have e:kP (fM s n) s key value t.kids w (i+1) false=kP (fM s n) s key value t.kids w i false:=by rw[kP,if_pos hx]
    simp -implicitDefEqProofs (disch:=omega) only[zt hii,hx,go_sem,simprocAttr];repeat refine bE (by omega) ?_
    refine⟨(i+1,out,_),⟨by dsimp only;omega,by dsimp only;rw[e];exact hb,by dsimp only;rw[e];exact ho.more _⟩,by dsimp only;omega,rfl,?_⟩;simp
   |false =>
    have e:kP (fM s n) s key value t.kids w (i+1) false=((kP (fM s n) s key value t.kids w i false).1++(P7 (fM s n) s key value t.kids w i false).1,(P7 (fM s n) s key value t.kids w i false).2):=by
     rw[kP,if_neg (by rw[hx];simp),hb]
    have hend:=fun h=>aSp (A:=fM s n) (s:=s) (key:=key) (value:=value) (t:=t) (w:=w) (b:=false) (i:=i+1) (aIr n) (by omega) h;rw[e]at hend;have e1:=fun l0 h=>bAx (A:=fM s n) (s:=s) (key:=key) (value:=value) (t:=t) (w:=w) (i:=i) (b:=false) hl hlt hx (l0:=l0) h;generalize hN:kP (fM s n) s key value t.kids w i false=N at *
    obtain⟨NL,bN⟩:=N;dsimp only at ho e hNl hb hend;subst hb;cases hK:Q0 key w.u with
    |none=>
     have h6:key.kind=6:=by
      by_cases h:key.kind=6
      ·exact h
      ·rw[Q0,if_neg h]at hK;cases hK
     have ck:=aAj s [w.u] key (t.kids.getD (2*i) default) m hm (by simp) (fun u h=>by rw[aP.1 h];exact hu) (fun u h=>by rw[aP.1 h];exact ha) (by omega) hkk (ht.kid hm0).1 (by omega) (by omega) (by omega);have hb0:[w.u].flatMap (iJ s key (t.kids.getD (2*i) default))=mM s key (t.kids.getD (2*i) default) w.u:=by rw[List.flatMap_cons,List.flatMap_nil,List.append_nil,iJ,if_pos h6]
     rw[hb0]at ck;simp only[hK];simp -implicitDefEqProofs (disch:=omega) only[zt hii,hx,h2i,aY,aA,go_sem,simprocAttr];repeat refine bE (by omega) ?_
     refine aAr (fun fz=>.box false [bQ s]::.box false [.sl (w.u.flatMap prT) w.u.length,.sl (w.tk.map .b) w.tk.length]::.box false (tmC key)::.box false (tmC value)::.box false (tmC t)::.box false (tmC B)::(g++[.box false [.i .i64 ((t.kids.getD (2*i) default)).kind,.i .i64 ((t.kids.getD (2*i) default)).n,.s ((t.kids.getD (2*i) default)).text,.s ((t.kids.getD (2*i) default)).sort,.sl (((t.kids.getD (2*i) default)).kids.flatMap aU) ((t.kids.getD (2*i) default)).kids.length,.sl (((t.kids.getD (2*i) default)).rest.flatMap aU) ((t.kids.getD (2*i) default)).rest.length],.arr fz 1 [.sl (w.u.flatMap prT) w.u.length]])) (aVx vX ck) (fun H=>rfl) ?_ rfl ?_ (fun h=>by cases h) ?_
     ·simp -implicitDefEqProofs (disch:=omega) only[avw,avu,elT,aL,bQ,go_sem,simprocAttr]
     ·simp -implicitDefEqProofs (disch:=omega) only[go_sem,simprocAttr]
     intro fz0 _;simp -implicitDefEqProofs (disch:=omega) only[avw,go_sem,simprocAttr];obtain⟨ok0,oa0,ol0⟩:E2 (m+1) (mM s key (t.kids.getD (2*i) default) w.u)∧nJ (mM s key (t.kids.getD (2*i) default) w.u)∧(mM s key (t.kids.getD (2*i) default) w.u).length≤1000:=⟨aAu hu (ht.kid hm0).1,F4 ha,by have:=F2 (s:=s) (v:=key) (t:=t.kids.getD (2*i) default) (u:=w.u);omega⟩;have hP:=e1 (mM s key (t.kids.getD (2*i) default) w.u) (by rw[hK]);have cA:=hA (t.kids.getD (2*i+1) default) (mM s key (t.kids.getD (2*i) default) w.u) (m+1) (ht.kid hm1) (hpl _ hm1) (hnk _ hm1) ok0 oa0 ol0 hmm;have hRl:=(tQ (s:=s) n value (t.kids.getD (2*i+1) default) (mM s key (t.kids.getD (2*i) default) w.u) false (m+1) (ht.kid hm1) ok0 ol0).2;rw[hP]at e hend;dsimp only at e hend;generalize hR:fM s n value (t.kids.getD (2*i+1) default) (mM s key (t.kids.getD (2*i) default) w.u) false=R at *
     refine aFf (rx:=.off) (N:=⟨0,[]⟩) dE 10 2 82 (.int .i64 0) _ rfl (by kernel_rfl) rfl rfl rfl rfl (al:=?_) (al2:=?_) ?_ ?_ (fun v e e' h k=>k) ?_;rotate_left 2
     ·simp only[strip,kV,eR,kU,RX.off,ckF,ckX,zOf,exd,vOf,aH,aG,bH,bG,aK,bA,aS,aK,bT,bY,dP,fQ,bD,bM,aE,aC,eB,anyPre,Region.binds,aA,aB,aI,if_true,if_false,aY,aW,aR,aT,aZ,aQ,aH,aG,List.append_nil,aO,bS,aV,bK,Nat.reduceAdd];rfl
     ·simp only[strip,kV,eR,kU,RX.off,ckF,ckX,zOf,exd,vOf,aH,aG,bH,bG,aK,bA,aS,aK,bT,bY,dP,fQ,bD,bM,aE,aC,eB,anyPre,Region.binds,aA,aB,aI,if_true,if_false,aY,aW,aR,aT,aZ,aQ,aH,aG,List.append_nil,aO,bS,aV,bK,Nat.reduceAdd];rfl
     simp -implicitDefEqProofs (disch:=omega) only[h2i',go_sem,simprocAttr];repeat refine bE (by omega) ?_
     refine aAr (fun _=>.box false [bQ s]::.box false [.sl (w.u.flatMap prT) w.u.length,.sl (w.tk.map .b) w.tk.length]::.box false (tmC key)::.box false (tmC value)::.box false (tmC t)::.box false (tmC B)::(g++[.box false [.i .i64 ((t.kids.getD (2*i) default)).kind,.i .i64 ((t.kids.getD (2*i) default)).n,.s ((t.kids.getD (2*i) default)).text,.s ((t.kids.getD (2*i) default)).sort,.sl (((t.kids.getD (2*i) default)).kids.flatMap aU) ((t.kids.getD (2*i) default)).kids.length,.sl (((t.kids.getD (2*i) default)).rest.flatMap aU) ((t.kids.getD (2*i) default)).rest.length],.arr fz0 1 [.sl (w.u.flatMap prT) w.u.length]])) cA (fun H=>rfl) ?_ rfl ?_ (fun hb=>⟨hend hb,rfl⟩) ?_
     ·simp -implicitDefEqProofs (disch:=omega) only[avw,avu,elT,aL,bQ,go_sem,simprocAttr]
     ·simp -implicitDefEqProofs (disch:=omega) only[go_sem,simprocAttr]
     intro fz hb1;simp -implicitDefEqProofs (disch:=omega) only[avw,go_sem,simprocAttr];refine dV (fun(q:Nat×AV×List AObj)=>(rp 14 .k (.v (q.2.1)::(rp 5 .k (.j::.j::(rp 60 .k (.v (.i .i64 (q.1:Nat))::(rp 16 .j [.k,.k])))))))) (fun q=>(.box false [bQ s]::.box false [.sl (w.u.flatMap prT) w.u.length,.sl (w.tk.map .b) w.tk.length]::.box false (tmC key)::.box false (tmC value)::.box false (tmC t)::.box false (tmC B)::q.2.2)) (fun q=>q.1≤R.1.length∧jU 2 6 q.2.2 q.2.1 ((NL++(R.1.take q.1).map fun v=>(⟨v,w.tk.set i true⟩:kJ)).flatMap uB) (NL++(R.1.take q.1).map fun v=>(⟨v,w.tk.set i true⟩:kJ)).length) (fun q=>R.1.length-q.1) ((0,out,_)) ⟨bX _,by simpa using ho.more _⟩ rfl (by simp[iS]) ?_;rintro⟨c,out3,g3⟩ j4 ⟨hc5,ho3⟩;dsimp only at hc5 ho3;by_cases hct:c<R.1.length
     ·have hci:(c:Int)<((R.1.length:Nat):Int):=by omega
      have hX:NL++(R.1.take (c+1)).map (fun v=>(⟨v,w.tk.set i true⟩:kJ))=(NL++(R.1.take c).map fun v=>(⟨v,w.tk.set i true⟩:kJ))++[⟨R.1.getD c default,w.tk.set i true⟩]:=by
       rw[fI (d:=default) hct,cL];simp only[cM,aQ,aZ]
      have hbig:(NL++(R.1.take c).map fun v=>(⟨v,w.tk.set i true⟩:kJ)).length≤2000000000000:=by
       rw[List.length_append,eD,cN];omega
      have hlX:NL.length+(List.take (c+1) R.1).length=(NL++(R.1.take c).map fun v=>(⟨v,w.tk.set i true⟩:kJ)).length+1:=by
       simp only[List.length_append,eD,cN];omega
      have cc:=V0 w.tk (by omega);simp -implicitDefEqProofs (disch:=omega) only[zt hci,avu,go_sem,simprocAttr];repeat refine bE (by omega) ?_
      refine bJ cc ?_ ?_
      ·simp -implicitDefEqProofs (disch:=omega) only[go_sem,simprocAttr]
      simp -implicitDefEqProofs (disch:=omega) only[go_sem,simprocAttr];repeat refine bE (by omega) ?_
      rw[pW hlt];refine aXc 21 rfl ?_;obtain⟨k1,k3⟩:=Z4 (pre:=[.box false [bQ s],.box false [.sl (w.u.flatMap prT) w.u.length,.sl (w.tk.map .b) w.tk.length],.box false (tmC key),.box false (tmC value),.box false (tmC t),.box false (tmC B)]) (g:=g3++[.arr false 1 ((w.tk.set i true).map .b)]) (i:=g3.length) (n:=w.tk.length) (fz:=false) (sz:=1) (cells:=(w.tk.set i true).map .b) (by simp) (by simp) yV;rw[vW]at k3;simp only[aC,aE,bF,bZ,bQ,eF,Nat.reduceAdd]at k1 k3;rw[k1,k3];refine V7 (al:=?_) ?_ ?_;rotate_left
      ·simp only[strip,kV,eR,kU,RX.off,ckF,ckX,zOf,exd,vOf,aH,aG,bH,bG,aK,bA,aS,aK,bT,bY,dP,fQ,bD,bM,aE,aC,eB,anyPre,Region.binds,aA,aB,aI,if_true,if_false,aY,aW,aR,aT,aZ,aQ,aH,aG,List.append_nil,aO,bS,aV,bK,Nat.reduceAdd];rfl
      simp -implicitDefEqProofs (disch:=omega) only[List.set,pZ,aJ,aM,List.append_nil,go_sem,simprocAttr];refine fN (pre:=[.box false [bQ s],.box false [.sl (w.u.flatMap prT) w.u.length,.sl (w.tk.map .b) w.tk.length],.box false (tmC key),.box false (tmC value),.box false (tmC t),.box false (tmC B)]) (g:=g3++[.arr true 1 ((w.tk.set i true).map .b)]) (more:=[.arr false 2 ([.sl ((R.1.getD c default).flatMap prT) (R.1.getD c default).length,.sl ((w.tk.set i true).map .b) w.tk.length])]) (news:=[.sl ((R.1.getD c default).flatMap prT) (R.1.getD c default).length,.sl ((w.tk.set i true).map .b) w.tk.length]) (m:=1) ((ho3).more _) rfl (by simp -implicitDefEqProofs (disch:=omega) only[go_sem,simprocAttr]) bDa aZc aZo bDy rfl (by decide) (by simp -implicitDefEqProofs (disch:=omega) only[go_sem,simprocAttr]) (by simp -implicitDefEqProofs (disch:=omega) only[go_sem,simprocAttr]) ⟨by omega,by omega⟩ ?_;intro out' g' ho' _;simp -implicitDefEqProofs (disch:=omega) only[go_sem,simprocAttr];refine⟨(c+1,out',g'),⟨by dsimp only;omega,?_⟩,by dsimp only;omega,rfl,by simp⟩;dsimp only;rw[hX,List.flatMap_append,hlX,List.flatMap_cons,List.flatMap_nil,List.append_nil,uB,List.length_set];exact ho'
     ·have hci:¬(c:Int)<((R.1.length:Nat):Int):=by omega
      rw[bB (by omega)]at ho3;simp -implicitDefEqProofs (disch:=omega) only[zf hci,go_sem,simprocAttr];refine⟨(i+1,out3,g3),⟨by dsimp only;omega,by dsimp only;rw[e];exact hb1,by dsimp only;rw[e];exact ho3⟩,by dsimp only;omega,rfl,?_⟩;simp
    |some a=>
     have haK:OkT a:=by
      rw[Q0]at hK;split at hK
      ·exact bGf hu hK
      ·cases hK;exact hkk
     have c3:=M8 B (t.kids.getD (2*i) default) (hBo a hK▸haK) (ht.kid hm0).1;obtain rfl:=hBo a hK;simp only[hK];by_cases hc:B=t.kids.getD (2*i) default
     ·rw[zt hc]at c3
      simp -implicitDefEqProofs (disch:=omega) only[zt hii,hx,h2i,aW,aB,go_sem,simprocAttr];repeat refine bE (by omega) ?_
      refine bJ c3 ?_ ?_
      ·simp -implicitDefEqProofs (disch:=omega) only[elT,aL,go_sem,simprocAttr]
      simp -implicitDefEqProofs (disch:=omega) only[go_sem,simprocAttr];obtain⟨ok0,oa0,ol0⟩:E2 (m+1) ([w.u])∧nJ ([w.u])∧([w.u]).length≤1000:=⟨fun u h=>by rw[aP.1 h];exact hu.mono (by omega),fun u h=>by rw[aP.1 h];exact ha,by simp⟩;have hP:=e1 ([w.u]) (by rw[hK];simp only[if_pos hc]);have cA:=hA (t.kids.getD (2*i+1) default) ([w.u]) (m+1) (ht.kid hm1) (hpl _ hm1) (hnk _ hm1) ok0 oa0 ol0 hmm;have hRl:=(tQ (s:=s) n value (t.kids.getD (2*i+1) default) ([w.u]) false (m+1) (ht.kid hm1) ok0 ol0).2;rw[hP]at e hend;dsimp only at e hend;generalize hR:fM s n value (t.kids.getD (2*i+1) default) ([w.u]) false=R at *
      refine aFf (rx:=.off) (N:=⟨0,[]⟩) dE 10 2 82 (.int .i64 0) _ rfl (by kernel_rfl) rfl rfl rfl rfl (al:=?_) (al2:=?_) ?_ ?_ (fun v e e' h k=>k) ?_;rotate_left 2
      ·simp only[strip,kV,eR,kU,RX.off,ckF,ckX,zOf,exd,vOf,aH,aG,bH,bG,aK,bA,aS,aK,bT,bY,dP,fQ,bD,bM,aE,aC,eB,anyPre,Region.binds,aA,aB,aI,if_true,if_false,aY,aW,aR,aT,aZ,aQ,aH,aG,List.append_nil,aO,bS,aV,bK,Nat.reduceAdd];rfl
      ·simp only[strip,kV,eR,kU,RX.off,ckF,ckX,zOf,exd,vOf,aH,aG,bH,bG,aK,bA,aS,aK,bT,bY,dP,fQ,bD,bM,aE,aC,eB,anyPre,Region.binds,aA,aB,aI,if_true,if_false,aY,aW,aR,aT,aZ,aQ,aH,aG,List.append_nil,aO,bS,aV,bK,Nat.reduceAdd];rfl
      simp -implicitDefEqProofs (disch:=omega) only[h2i',go_sem,simprocAttr];repeat refine bE (by omega) ?_
      refine aAr (fun fz=>.box false [bQ s]::.box false [.sl (w.u.flatMap prT) w.u.length,.sl (w.tk.map .b) w.tk.length]::.box false (tmC key)::.box false (tmC value)::.box false (tmC t)::.box false (tmC B)::(g++[.box false [.i .i64 ((t.kids.getD (2*i) default)).kind,.i .i64 ((t.kids.getD (2*i) default)).n,.s ((t.kids.getD (2*i) default)).text,.s ((t.kids.getD (2*i) default)).sort,.sl (((t.kids.getD (2*i) default)).kids.flatMap aU) ((t.kids.getD (2*i) default)).kids.length,.sl (((t.kids.getD (2*i) default)).rest.flatMap aU) ((t.kids.getD (2*i) default)).rest.length],.arr fz 1 [.sl (w.u.flatMap prT) w.u.length]])) cA (fun H=>rfl) ?_ rfl ?_ (fun hb=>⟨hend hb,rfl⟩) ?_
      ·simp -implicitDefEqProofs (disch:=omega) only[avw,avu,elT,aL,bQ,go_sem,simprocAttr]
      ·simp -implicitDefEqProofs (disch:=omega) only[go_sem,simprocAttr]
      intro fz hb1;simp -implicitDefEqProofs (disch:=omega) only[avw,go_sem,simprocAttr];refine dV (fun(q:Nat×AV×List AObj)=>(rp 14 .k (.v (q.2.1)::(rp 5 .k (.j::.j::(rp 60 .k (.v (.i .i64 (q.1:Nat))::(rp 16 .j [.k,.k])))))))) (fun q=>(.box false [bQ s]::.box false [.sl (w.u.flatMap prT) w.u.length,.sl (w.tk.map .b) w.tk.length]::.box false (tmC key)::.box false (tmC value)::.box false (tmC t)::.box false (tmC B)::q.2.2)) (fun q=>q.1≤R.1.length∧jU 2 6 q.2.2 q.2.1 ((NL++(R.1.take q.1).map fun v=>(⟨v,w.tk.set i true⟩:kJ)).flatMap uB) (NL++(R.1.take q.1).map fun v=>(⟨v,w.tk.set i true⟩:kJ)).length) (fun q=>R.1.length-q.1) ((0,out,_)) ⟨bX _,by simpa using ho.more _⟩ rfl (by simp[iS]) ?_;rintro⟨c,out3,g3⟩ j4 ⟨hc5,ho3⟩;dsimp only at hc5 ho3;by_cases hct:c<R.1.length
      ·have hci:(c:Int)<((R.1.length:Nat):Int):=by omega
       have hX:NL++(R.1.take (c+1)).map (fun v=>(⟨v,w.tk.set i true⟩:kJ))=(NL++(R.1.take c).map fun v=>(⟨v,w.tk.set i true⟩:kJ))++[⟨R.1.getD c default,w.tk.set i true⟩]:=by
        rw[fI (d:=default) hct,cL];simp only[cM,aQ,aZ]
       have hbig:(NL++(R.1.take c).map fun v=>(⟨v,w.tk.set i true⟩:kJ)).length≤2000000000000:=by
        rw[List.length_append,eD,cN];omega
       have hlX:NL.length+(List.take (c+1) R.1).length=(NL++(R.1.take c).map fun v=>(⟨v,w.tk.set i true⟩:kJ)).length+1:=by
        simp only[List.length_append,eD,cN];omega
       have cc:=V0 w.tk (by omega);simp -implicitDefEqProofs (disch:=omega) only[zt hci,avu,go_sem,simprocAttr];repeat refine bE (by omega) ?_
       refine bJ cc ?_ ?_
       ·simp -implicitDefEqProofs (disch:=omega) only[go_sem,simprocAttr]
       simp -implicitDefEqProofs (disch:=omega) only[go_sem,simprocAttr];repeat refine bE (by omega) ?_
       rw[pW hlt];refine aXc 21 rfl ?_;obtain⟨k1,k3⟩:=Z4 (pre:=[.box false [bQ s],.box false [.sl (w.u.flatMap prT) w.u.length,.sl (w.tk.map .b) w.tk.length],.box false (tmC key),.box false (tmC value),.box false (tmC t),.box false (tmC B)]) (g:=g3++[.arr false 1 ((w.tk.set i true).map .b)]) (i:=g3.length) (n:=w.tk.length) (fz:=false) (sz:=1) (cells:=(w.tk.set i true).map .b) (by simp) (by simp) yV;rw[vW]at k3;simp only[aC,aE,bF,bZ,bQ,eF,Nat.reduceAdd]at k1 k3;rw[k1,k3];refine V7 (al:=?_) ?_ ?_;rotate_left
       ·simp only[strip,kV,eR,kU,RX.off,ckF,ckX,zOf,exd,vOf,aH,aG,bH,bG,aK,bA,aS,aK,bT,bY,dP,fQ,bD,bM,aE,aC,eB,anyPre,Region.binds,aA,aB,aI,if_true,if_false,aY,aW,aR,aT,aZ,aQ,aH,aG,List.append_nil,aO,bS,aV,bK,Nat.reduceAdd];rfl
       simp -implicitDefEqProofs (disch:=omega) only[List.set,pZ,aJ,aM,List.append_nil,go_sem,simprocAttr];refine fN (pre:=[.box false [bQ s],.box false [.sl (w.u.flatMap prT) w.u.length,.sl (w.tk.map .b) w.tk.length],.box false (tmC key),.box false (tmC value),.box false (tmC t),.box false (tmC B)]) (g:=g3++[.arr true 1 ((w.tk.set i true).map .b)]) (more:=[.arr false 2 ([.sl ((R.1.getD c default).flatMap prT) (R.1.getD c default).length,.sl ((w.tk.set i true).map .b) w.tk.length])]) (news:=[.sl ((R.1.getD c default).flatMap prT) (R.1.getD c default).length,.sl ((w.tk.set i true).map .b) w.tk.length]) (m:=1) ((ho3).more _) rfl (by simp -implicitDefEqProofs (disch:=omega) only[go_sem,simprocAttr]) bDa aZc aZo bDy rfl (by decide) (by simp -implicitDefEqProofs (disch:=omega) only[go_sem,simprocAttr]) (by simp -implicitDefEqProofs (disch:=omega) only[go_sem,simprocAttr]) ⟨by omega,by omega⟩ ?_;intro out' g' ho' _;simp -implicitDefEqProofs (disch:=omega) only[go_sem,simprocAttr];refine⟨(c+1,out',g'),⟨by dsimp only;omega,?_⟩,by dsimp only;omega,rfl,by simp⟩;dsimp only;rw[hX,List.flatMap_append,hlX,List.flatMap_cons,List.flatMap_nil,List.append_nil,uB,List.length_set];exact ho'
      ·have hci:¬(c:Int)<((R.1.length:Nat):Int):=by omega
       rw[bB (by omega)]at ho3;simp -implicitDefEqProofs (disch:=omega) only[zf hci,go_sem,simprocAttr];refine⟨(i+1,out3,g3),⟨by dsimp only;omega,by dsimp only;rw[e];exact hb1,by dsimp only;rw[e];exact ho3⟩,by dsimp only;omega,rfl,?_⟩;simp
     ·rw[zf hc]at c3;have hP:=e1 [] (by rw[hK];simp only[if_neg hc]);rw[hP,aMl n]at e;dsimp only at e;rw[aZ,List.append_nil]at e;simp -implicitDefEqProofs (disch:=omega) only[zt hii,hx,h2i,aW,aB,go_sem,simprocAttr];repeat refine bE (by omega) ?_
      refine bJ c3 ?_ ?_
      ·simp -implicitDefEqProofs (disch:=omega) only[elT,aL,go_sem,simprocAttr]
      simp -implicitDefEqProofs (disch:=omega) only[go_sem,simprocAttr];refine⟨(i+1,out,_),⟨by dsimp only;omega,by dsimp only;rw[e],by dsimp only;rw[e];exact ho.more _⟩,by dsimp only;omega,rfl,?_⟩;simp
  ·have hii:¬(i:Int)<((w.tk.length:Nat):Int):=by omega
   obtain rfl:i=w.tk.length:=by omega
   have hf:=bGt (pre:=[.box false [bQ s],.box false [.sl (w.u.flatMap prT) w.u.length,.sl (w.tk.map .b) w.tk.length],.box false (tmC key),.box false (tmC value),.box false (tmC t),.box false (tmC B)]) ho uG;simp -implicitDefEqProofs (disch:=omega) only[zf hii,go_sem,simprocAttr];exact⟨hb,hf⟩
section
variable (A:AF) (s:dK)
def oK(ks:List LTerm)(key value:LTerm)(ws:List kJ)(b:Bool):List kJ×Bool:=if 1000<(jL A s key value ks ws b).1.length then([],true)else jL A s key value ks ws b
def nV(ks:List LTerm)(p:LTerm):Nat→List kJ×Bool→List kJ×Bool
 |0,r=>r
 |k+1,r=>oK A s ks (p.kids.getD (2*k) default) (p.kids.getD (2*k+1) default) (nV ks p k r).1 (nV ks p k r).2
end
structure OkH(t:LTerm)(m:Nat)(w:kJ):Prop where
 u:OkU m w.u
 asc:AscU w.u
 len:t.kids.length=2*w.tk.length
theorem OkH.mono{t:LTerm}{m m':Nat}{w:kJ}(h:OkH t m w)(hm:m≤m'):OkH t m' w:=⟨h.u.mono hm,h.asc,h.len⟩
section
variable {A:AF} {s:dK} {key value t:LTerm} {m:Nat}
theorem T0:∀{ws:List kJ} {b:Bool} {k:Nat},k<ws.length →
 jL A s key value t.kids (ws.take (k+1)) b=((jL A s key value t.kids (ws.take k) b).1++(kP A s key value t.kids (ws.getD k default) (ws.getD k default).tk.length (jL A s key value t.kids (ws.take k) b).2).1,(kP A s key value t.kids (ws.getD k default) (ws.getD k default).tk.length (jL A s key value t.kids (ws.take k) b).2).2)
 |w::ws,b,0,_=>by simp[jL]
 |w::ws,b,k+1,h=>by
  rw[aO,jL,T0 (by simpa using h),aO,jL,cM];rfl
 | [],_,_,h=>by simp at h
theorem aDd:∀{ws vs:List kJ} {b:Bool},jL A s key value t.kids (ws++vs) b=((jL A s key value t.kids ws b).1++(jL A s key value t.kids vs (jL A s key value t.kids ws b).2).1,(jL A s key value t.kids vs (jL A s key value t.kids ws b).2).2)
 | [],vs,b=>by simp[jL]
 |w::ws,vs,b=>by rw[aC,jL,aDd,jL,cM]
theorem aSq(hA:pA A){ws:List kJ}{b:Bool}(k:Nat):((jL A s key value t.kids (ws.take k) b).2=true→(jL A s key value t.kids ws b).2=true)∧(jL A s key value t.kids (ws.take k) b).1.length≤(jL A s key value t.kids ws b).1.length:=by
 have e:=aDd (A:=A) (s:=s) (key:=key) (value:=value) (t:=t) (ws:=ws.take k) (vs:=ws.drop k) (b:=b);rw[dU]at e;rw[e];refine⟨fun h=>?_,by dsimp only;rw[List.length_append];omega⟩;dsimp only;rw[h];exact aGz hA _
theorem aSr(hA:pA A){ws:List kJ}{b:Bool}(k:Nat)(h:(jL A s key value t.kids (ws.take k) b).2=true∨1000<(jL A s key value t.kids (ws.take k) b).1.length):(oK A s t.kids key value ws b).2=true:=by
 obtain⟨h1,h2⟩:=aSq (s:=s) (key:=key) (value:=value) (t:=t) (ws:=ws) (b:=b) hA k;rw[oK];split
 ·rfl
 ·rcases h with h|h
  ·exact h1 h
  ·omega
theorem bAw(hA:pA A){ws:List kJ}:(oK A s t.kids key value ws true).2=true:=by
 rw[oK];split
 ·rfl
 ·exact aGz hA _
theorem S8(hA:pA A){p:LTerm}{r:List kJ×Bool}{k:Nat}(h:(nV A s t.kids p k r).2=true):∀j,(nV A s t.kids p (k+j) r).2=true
 |0=>h
 |j+1=>by
  rw[show k+(j+1)=k+j+1 by omega,nV,S8 hA h j];exact bAw hA
theorem aSt(hA:AOk A value)(hB:aPj A)(ht:OkN t){w:kJ}{i:Nat}{b:Bool}(hw:OkH t m w)(hi:i<w.tk.length)(hx:w.tk.getD i false=false):(∀x∈(P7 A s key value t.kids w i b).1,OkH t (m+1+nodesT value) x):=by
 obtain⟨a1,a2,_⟩:=left_at hw.len hi hx;have hk:=bVr hi hx;have hl:=xM hw.len;have hO:=(aVm (s:=s) (key:=key) (k:=cntF i w.tk) (b:=b) hA (aPt hw.u hw.len) ht (by show 2*cntF i w.tk+1<(leftOf t.kids w.tk).length;omega)).1;have hC:=aMb (s:=s) (key:=key) (value:=value) (k:=cntF i w.tk) (b:=b) hB (w:=jG t.kids w) hw.asc;intro x hx;rw[P7]at hx;obtain⟨v,hv,rfl⟩:=dX.1 hx;exact⟨(hO v hv).u,hC v hv,by dsimp only;rw[List.length_set];exact hw.len⟩
theorem J8(hA:AOk A value)(hB:aPj A)(ht:OkN t){w:kJ}{b:Bool}(hw:OkH t m w):∀i,i≤w.tk.length→(∀x∈(kP A s key value t.kids w i b).1,OkH t (m+1+nodesT value) x)
 |0,_=>fun x hx=>by cases hx
 |i + 1,hi=>by
  rw[kP];cases hx:w.tk.getD i false with
  |true=>rw[if_pos rfl];exact J8 hA hB ht hw i (by omega)
  |false=>
   rw[if_neg (by simp)];intro x hx2;rcases cQ.1 hx2 with h|h
   ·exact J8 hA hB ht hw i (by omega) x h
   ·exact aSt hA hB ht hw (by omega) hx x h
theorem aDc(hA:AOk A value)(hB:aPj A)(ht:OkN t):∀{ws:List kJ} {b:Bool},(∀w∈ws,OkH t m w)→(∀x∈(jL A s key value t.kids ws b).1,OkH t (m+1+nodesT value) x)
 | [],b,h=>fun x hx=>by cases hx
 |w::ws,b,h=>by
  rw[jL];intro x hx;rcases cQ.1 hx with h1|h1
  ·exact J8 hA hB ht (h w (by simp)) _ (bV _) x h1
  ·exact aDc hA hB ht (fun v hv=>h v (by simp[hv])) x h1
theorem aSo(hA:AOk A value)(hB:aPj A)(ht:OkN t){ws:List kJ}{b:Bool}(h:∀w∈ws,OkH t m w):(∀x∈(oK A s t.kids key value ws b).1,OkH t (m+1+nodesT value) x)∧(oK A s t.kids key value ws b).1.length≤1000:=by
 rw[oK];split
 ·exact⟨fun x hx=>(by cases hx),by simp⟩
 ·exact⟨aDc hA hB ht h,by omega⟩
theorem aNt{ws:List kJ}{b:Bool}(h:∀w∈ws,OkH t m w):((oK A s t.kids key value ws b).1.map (jG t.kids),(oK A s t.kids key value ws b).2)=qF A s key value (ws.map (jG t.kids)) b:=by
 have e:=aDb (A:=A) (s:=s) (key:=key) (value:=value) (ks:=t.kids) (ws:=ws) (b:=b) (fun w hw=>(h w hw).len);have e1:(jL A s key value t.kids ws b).1.length=(rA A s key value (ws.map (jG t.kids)) b).1.length:=by rw[← e];simp
 rw[oK,qF,← e1];split
 ·rfl
 ·exact e
theorem aKb(hB:aPj A)(ht:OkN t){p:LTerm}(hA:∀q∈p.kids,AOk A q){r:List kJ×Bool}(h:∀w∈r.1,OkH t m w)(hl:r.1.length≤1000):∀k,2*k≤p.kids.length→(∀x∈(nV A s t.kids p k r).1,OkH t (m+nodesL (p.kids.take (2*k))) x)∧(nV A s t.kids p k r).1.length≤1000∧((nV A s t.kids p k r).1.map (jG t.kids),(nV A s t.kids p k r).2)=oY A s p k (r.1.map (jG t.kids),r.2)
 |0,_=>⟨fun x hx=>(h x hx).mono (by omega),hl,rfl⟩
 |k+1,hk=>by
  obtain⟨a1,a2,a3⟩:=aKb hB ht hA h hl k (by omega);have e:=yX (l:=p.kids) (k:=k) (by omega);have hn:1≤nodesT (p.kids.getD (2*k) default):=by rw[eW];omega
  have hv:=hA _ (cS (d:=default) (k:=2*k+1) (l:=p.kids) (by omega));obtain⟨b1,b2⟩:=aSo (s:=s) (key:=p.kids.getD (2*k) default) (b:=(nV A s t.kids p k r).2) hv hB ht a1;rw[nV,oY,← a3];exact⟨fun x hx=>(b1 x hx).mono (by omega),b2,aNt a1⟩
end
theorem cAk{P:Program}{G:Glob}{f:FuncId}{A:List AV}{r:AV}(c:Ctr P G f A r):Ctr P G f A .u:=
 ⟨c.1,c.2.1,fun F w vs a b d e=>(c.2.2 F w vs a b d e).mono (fun e w' ⟨v,F',bs,h1,h2,h3,h4,h5,h6,h7,h8⟩=>⟨v,F',[],h1,h2,h3,h4,h5,⟨rfl,.u v⟩,fL,by simp⟩)⟩
theorem aVy(l:List kJ): aFx Tryz.prog G0 261 [bEg l] (bEg l) (decide (1000<l.length)) vX:=by
 refine kT (rx:=false) (th:=fun _=>none) dE Tryz.func261 rfl (by kernel_rfl) (by kernel_rfl) (ac:=?_) ?_ g0 ?_;rotate_left
 ·simp only[strip,kV,eR,kU,RX.off,ckF,ckX,zOf,exd,vOf,aH,aG,bH,bG,aK,bA,aS,aK,bT,bY,dP,fQ,bD,bM,aE,aC,eB,anyPre,Region.binds,aA,aB,aI,if_true,if_false,aY,aW,aR,aT,aZ,aQ,aH,aG,List.append_nil];rfl
 ·simp -implicitDefEqProofs (disch:=omega) only[Tryz.f261,go_sem,List.replicate,simprocAttr,bEg];by_cases h:(1000:Int)<((l.length:Nat):Int)
  ·have h':1000<l.length:=by omega
   simp -implicitDefEqProofs (disch:=omega) only[zt h,go_sem,simprocAttr];(repeat'(first|refine gT ?_ ?_|refine gF ?_ ?_|refine gC ?_ ?_|refine bE (by omega) ?_|(intro hr;have hc:=hr;(try simp only[zdz]at hc);simp -implicitDefEqProofs (disch:=omega) only[hr,zt h,go_sem,simprocAttr];(try clear hr))));simp -implicitDefEqProofs only[Tryz.underlying138,go_sem];exact zt h'
  ·have h':¬1000<l.length:=by omega
   simp -implicitDefEqProofs (disch:=omega) only[zf h,go_sem,simprocAttr];(repeat'(first|refine gT ?_ ?_|refine gF ?_ ?_|refine gC ?_ ?_|refine bE (by omega) ?_|(intro hr;have hc:=hr;(try simp only[zdz]at hc);simp -implicitDefEqProofs (disch:=omega) only[hr,zf h,go_sem,simprocAttr];(try clear hr))));exact⟨zf h',.inl ⟨rfl,bKt l⟩⟩
theorem bTd(l:List kJ):aFx Tryz.prog G0 261 [bEg l] .u (decide (1000<l.length)) vX:=⟨fun h=>cAk ((aVy l).1 h),(aVy l).2⟩
theorem S0{t:LTerm}{so:Str}(h:nK t so=true):t.rest=[]∨∃r,t.rest=[r]∧r.kind=6:=by
 simp only[nK,cB,aD,decide_eq_true_eq]at h;rcases h with h|⟨⟨⟨⟨h1,h2⟩,_⟩,_⟩,_⟩
 ·exact .inl (List.eq_nil_of_length_eq_zero h)
 ·match hr:t.rest with
  | [r]=>rw[hr]at h2;exact .inr ⟨r,rfl,h2⟩
  | []=>rw[hr]at h1;cases h1
  |_::_::_=>rw[hr]at h1;simp at h1
theorem bJz{p:LTerm}(h:OkN p)(hk:p.kind=7∨p.kind=8):p.rest=[]∨∃r,p.rest=[r]∧r.kind=6:=by
 have e:=(eN.1 h.2).1;rw[nodeB]at e;rcases hk with hk|hk
 ·simp only[hk,(by decide:¬(7:Int)=1),(by decide:¬(7:Int)=2),(by decide:¬(7:Int)=3),(by decide:¬(7:Int)=4),(by decide:¬(7:Int)=5),(by decide:¬(7:Int)=6),if_false,if_true,aD]at e;exact S0 e.1
 ·simp only[hk,(by decide:¬(8:Int)=1),(by decide:¬(8:Int)=2),(by decide:¬(8:Int)=3),(by decide:¬(8:Int)=4),(by decide:¬(8:Int)=5),(by decide:¬(8:Int)=6),(by decide:¬(8:Int)=7),if_false,if_true,aD]at e;exact S0 e.1.1
theorem K7:∀{ks:List LTerm} {tk:List Bool} {e:Nat},ks.length=2*tk.length→e<tk.length →
 leftOf (ks.take (2*(e+1))) (tk.take (e+1))=leftOf (ks.take (2*e)) (tk.take e)++(if tk.getD e false=true then []else [ks.getD (2*e) default,ks.getD (2*e+1) default])
 |a::b::ks,x::tk,0,hl,he=>by
  simp only[aO,bS,Nat.mul_zero,eF,aYn,gO,dF];cases x<;>simp[leftOf]
 |a::b::ks,x::tk,e+1,hl,he=>by
  have ih:=K7 (ks:=ks) (tk:=tk) (e:=e) (by simp at hl;omega) (by simpa using he);have e1:2*(e+1+1)=2*(e+1)+1+1:=by omega
  have e2:2*(e+1)=2*e+1+1:=by omega
  rw[e1,aO,aO,aO,leftOf,ih];rw[e2,aO,aO,aO,leftOf];simp only[dF];split<;>simp
 | [a],x::tk,_,hl,_=>by simp at hl;omega
 | [],x::tk,_,hl,_=>by simp at hl
 |_,[],_,_,he=>by simp at he
theorem aDr{ks:List LTerm}{tk:List Bool}(hl:ks.length=2*tk.length):leftOf (ks.take (2*tk.length)) (tk.take tk.length)=leftOf ks tk:=by
 rw[← hl,fH,fH]
theorem qG:∀{ks:List LTerm} {tk:List Bool},(leftOf ks tk).length≤ks.length
 |a::b::l,x::tk=>by
  have:=qG (ks:=l) (tk:=tk);rw[leftOf];split
  ·simp only[bF];omega
  ·simp only[bF];omega
 | [],_=>by simp[leftOf]
 | [a],_=>by simp[leftOf]
 |a::b::l,[]=>by simp[leftOf]
theorem bFw{s:dK}{p:LTerm}{ks:List LTerm}:∀{l:List kJ},(l.flatMap fun w=>B7 s p (jG ks w)).length≤l.length
 | []=>by simp
 |w::l=>by
  have h1:=bBt (s:=s) (p:=p) (w:=jG ks w);have h2:=bFw (s:=s) (p:=p) (ks:=ks) (l:=l);rw[List.flatMap_cons,List.length_append,bF];omega
theorem aVp{l:List AV}(h:persL l=true):l.all aOi=true:=by
 rw[bC];intro a ha;obtain⟨j,hj⟩:=dB.1 ha;have:=iL h j a hj;cases a<;>first|rfl|exact this
theorem eX{z:List AV}:List.replicate 2 z=[z,z]:=rfl
theorem bKv{M:Nat}:persL (List.replicate M (AV.b false))=true:=by
 induction M with
 |zero=>rfl
 |succ M ih=>rw[fT,persL,ih];rfl
attribute [go_sem] bKv
@[simp] theorem cFm{A:AF}{s:dK}{ks:List LTerm}{p:LTerm}{r:List kJ×Bool}:nV A s ks p 0 r=r:=rfl
theorem bQk(s : dK)(n:Nat)(p t:LTerm)(l:List LSub)(m:Nat)(hm:Small s)(hA:∀q∈p.kids,bPc s n q)(hp:OkN p)(hp8:p.kind=8)(hpl1:p.kids.length≤1000000)(ht:OkN t)(ht8:t.kind=8)(hpl:∀x∈t.kids,jW s x=true)(hnk:∀x∈t.kids,nodesT x≤1000000)(htl:t.kids.length≤1000000)(hu:E2 m l)(ha:nJ l)(hl:l.length≤1000)(hmm:m+nodesT p≤1000000): aFx Tryz.prog G0 225 [.agg [bQ s],avw l,elT p,elT t] (avw (lQ (fM s n) s p t l false).1) (lQ (fM s n) s p t l false).2 vX:=by
 refine kT (rx:=true) (th:=fun i=>if i=5 then some ⟨none,[],false,false,true,[],[],1000⟩else if i=7 then some ⟨none,[],false,false,true,[],[],1000⟩else if i=14 then some ⟨none,[],false,false,true,[],[],1000⟩else if i=17 then some ⟨none,[],false,false,true,[],[],1000⟩else if i=27 then some ⟨none,[],false,false,true,[],[],1000⟩else if i=31 then some ⟨none,[],false,false,true,[],[],1000⟩else none) dE Tryz.func225 rfl (by kernel_rfl) (by kernel_rfl) (ac:=?_) ?_ g0 ?_;rotate_left
 ·simp only[strip,kV,eR,kU,RX.off,ckF,ckX,zOf,exd,vOf,aH,aG,bH,bG,aK,bA,aS,aK,bT,bY,dP,fQ,bD,bM,aE,aC,eB,anyPre,Region.binds,aA,aB,aI,if_true,if_false,aY,aW,aR,aT,aZ,aQ,aH,aG,List.append_nil,aLq,vQ,rR,rC,cU,cD,cG,aK,bH,bG,dD,beq_self_eq_true,fY,Nat.reduceBEq,qK,pH,qH,jX,aHu,fD,gE,bT,cX,Z2,Z1,↓reduceIte,Nat.reduceEqDiff,Nat.reduceBEq,mJ,nP,oH,splitK,vY,D9,aG,fD,gE,aA,aB,bA,aR,aS,bH,bG];rfl
 ·simp -implicitDefEqProofs (disch:=omega) only[Tryz.f225,go_sem,List.replicate,simprocAttr,avw,elT,aL];have hte:t.kids.length=2*(t.kids.length / 2):=by have:=ht.even ht8;omega
  have hdw:IntKind.i64.wrap (((t.kids.length:Nat):Int).tdiv 2)=((t.kids.length / 2:Nat):Int):=by
   rw[show((t.kids.length:Nat):Int).tdiv 2=((t.kids.length / 2:Nat):Int)from rfl,wrap64 (by omega) (by omega)]
  generalize hM:t.kids.length / 2=M at *
  have hMl:M≤1000000:=by omega
  refine dV (fun(q:Nat×AV×List AObj)=>(rp 9 .k (.v (q.2.1)::.k::.j::(rp 16 .k (.v (.i .i64 (q.1:Nat))::(rp 14 .j (rp 110 .k []))))))) (fun q=>(.box false [bQ s]::.box false (tmC p)::.box false (tmC t)::q.2.2)) (fun q=>q.1≤l.length∧jU 2 3 q.2.2 q.2.1 (((l.take q.1).map fun u=>(⟨u,List.replicate M false⟩:kJ)).flatMap uB) ((l.take q.1).map fun u=>(⟨u,List.replicate M false⟩:kJ)).length) (fun q=>l.length-q.1) ((0,.e0,[])) ⟨bX _,jN⟩ rfl (by simp[iS]) ?_;rintro⟨k,out,g⟩ j ⟨hk,ho⟩;dsimp only at hk ho;by_cases hlt:k<l.length
  ·have hki:(k:Int)<((l.length:Nat):Int):=by omega
   simp -implicitDefEqProofs (disch:=omega) only[zt hki,go_sem,simprocAttr];repeat refine bE (by omega) ?_
   apply aAx 7 38 (by simp only[strip,kV,eR,kU,RX.off,ckF,ckX,zOf,exd,vOf,aH,aG,bH,bG,aK,bA,aS,aK,bT,bY,dP,fQ,bD,bM,aE,aC,eB,anyPre,Region.binds,aA,aB,aI,if_true,if_false,aY,aW,aR,aT,aZ,aQ,aH,aG,List.append_nil,aO,bS,aV,bK,Nat.reduceAdd];rfl) (by simp only[strip,kV,eR,kU,RX.off,ckF,ckX,zOf,exd,vOf,aH,aG,bH,bG,aK,bA,aS,aK,bT,bY,dP,fQ,bD,bM,aE,aC,eB,anyPre,Region.binds,aA,aB,aI,if_true,if_false,aY,aW,aR,aT,aZ,aQ,aH,aG,List.append_nil,aO,bS,aV,bK,Nat.reduceAdd];rfl)
   ·intro K hK;simp -implicitDefEqProofs (disch:=omega) only[avu,hdw,go_sem,simprocAttr];refine⟨by omega,?_⟩;exact hK
   obtain⟨k1,k3⟩:=Z4 (pre:=[.box false [bQ s],.box false (tmC p),.box false (tmC t)]) (g:=g++[.arr false 1 (List.replicate M (.b false))]) (i:=g.length) (n:=M) (fz:=false) (sz:=1) (cells:=List.replicate M (.b false)) (by simp) (by simp) bKv;rw[vW]at k3;simp only[aC,aE,bF,bZ,bQ,eF,Nat.reduceAdd]at k1 k3;simp -implicitDefEqProofs only[dF,gO,kX,mZ];rw[k1,k3];have hX:(l.take (k+1)).map (fun u=>(⟨u,List.replicate M false⟩:kJ))=(l.take k).map (fun u=>(⟨u,List.replicate M false⟩:kJ))++[⟨l.getD k default,List.replicate M false⟩]:=by
    rw[fI (d:=default) hlt,cL];rfl
   have hbig:((l.take k).map fun u=>(⟨u,List.replicate M false⟩:kJ)).length≤1000:=by rw[eD,cN];omega
   have hlX:(l.take (k+1)).length=((l.take k).map fun u=>(⟨u,List.replicate M false⟩:kJ)).length+1:=by simp only[eD,cN];omega
   simp -implicitDefEqProofs (disch:=omega) only[pZ,aJ,aM,List.append_nil,bKv,go_sem,simprocAttr];refine fN (pre:=[.box false [bQ s],.box false (tmC p),.box false (tmC t)]) (g:=g++[.arr true 1 (List.replicate M (.b false))]) (more:=[.arr false 2 ([.sl ((l.getD k default).flatMap prT) (l.getD k default).length,.sl (List.replicate M (.b false)) M])]) (news:=[.sl ((l.getD k default).flatMap prT) (l.getD k default).length,.sl (List.replicate M (.b false)) M]) (m:=1) ((ho).more _) rfl (by simp -implicitDefEqProofs (disch:=omega) only[go_sem,simprocAttr]) bDa aZc aZo bDy rfl (by decide) (by simp -implicitDefEqProofs (disch:=omega) only[go_sem,simprocAttr]) (by simp -implicitDefEqProofs (disch:=omega) only[go_sem,simprocAttr]) ⟨by omega,by omega⟩ ?_;intro out' g' ho' _;simp -implicitDefEqProofs (disch:=omega) only[go_sem,simprocAttr];refine⟨(k+1,out',g'),⟨by dsimp only;omega,?_⟩,by dsimp only;omega,rfl,by simp⟩;dsimp only;rw[hX,List.flatMap_append,hlX,List.flatMap_cons,List.flatMap_nil,List.append_nil,uB,List.length_replicate,List.map_replicate];exact ho'
  ·have hki : ¬(k:Int)<((l.length:Nat):Int):=by omega
   rw[bB (by omega)]at ho;simp -implicitDefEqProofs (disch:=omega) only[zf hki,go_sem,simprocAttr];apply aAx 0 9 (by simp only[strip,kV,eR,kU,RX.off,ckF,ckX,zOf,exd,vOf,aH,aG,bH,bG,aK,bA,aS,aK,bT,bY,dP,fQ,bD,bM,aE,aC,eB,anyPre,Region.binds,aA,aB,aI,if_true,if_false,aY,aW,aR,aT,aZ,aQ,aH,aG,List.append_nil,aO,bS,aV,bK,Nat.reduceAdd];rfl) (by simp only[strip,kV,eR,kU,RX.off,ckF,ckX,zOf,exd,vOf,aH,aG,bH,bG,aK,bA,aS,aK,bT,bY,dP,fQ,bD,bM,aE,aC,eB,anyPre,Region.binds,aA,aB,aI,if_true,if_false,aY,aW,aR,aT,aZ,aQ,aH,aG,List.append_nil,aO,bS,aV,bK,Nat.reduceAdd];rfl)
   ·intro K hK;exact hK
   obtain⟨k1,g',k2,k3⟩:=rB (pre:=[.box false [bQ s],.box false (tmC p),.box false (tmC t)]) ho uG;simp only[aC,aE,bQ]at k1 k3;simp -implicitDefEqProofs only[aHc,dF,gO,kX,mZ];rw[k1,k3];have hW0:∀w∈l.map (fun u=>(⟨u,List.replicate M false⟩:kJ)),OkH t m w:=by
    intro w hw;obtain⟨u,hu',rfl⟩:=dX.1 hw;exact⟨hu u hu',ha u hu',by dsimp only;rw[List.length_replicate];exact hte⟩
   have hpe:=hp.even hp8;have hno:=eW p;have htab:=fun k hk=>aKb (A:=fM s n) (s:=s) (p:=p) (t:=t) (r:=(l.map (fun u=>(⟨u,List.replicate M false⟩:kJ)),false)) (m:=m) (zR n) ht (fun q _=>tQ n q) hW0 (by rw[eD];exact hl) k hk;have hmono:=fun k=>S8 (A:=fM s n) (s:=s) (t:=t) (p:=p) (r:=(l.map (fun u=>(⟨u,List.replicate M false⟩:kJ)),false)) (aIr n) (k:=k);have hTe:lQ (fM s n) s p t l false=sW (nV (fM s n) s t.kids p (p.kids.length / 2) (l.map (fun u=>(⟨u,List.replicate M false⟩:kJ)),false)).2 ((nV (fM s n) s t.kids p (p.kids.length / 2) (l.map (fun u=>(⟨u,List.replicate M false⟩:kJ)),false)).1.flatMap fun w=>B7 s p (jG t.kids w)):=by
    have e:=(htab (p.kids.length / 2) (by omega)).2.2;have e0:(l.map (fun u=>(⟨u,List.replicate M false⟩:kJ))).map (jG t.kids)=l.map (mS.mk · t.kids):=by
     rw[List.map_map];refine jC fun u _=>?_;show jG t.kids ⟨u,List.replicate M false⟩=_;rw[jG,aKn hte]
    rw[lQ,← e0,← e];dsimp only;rw[List.flatMap_map]
   have hpan:(nV (fM s n) s t.kids p (p.kids.length / 2) (l.map (fun u=>(⟨u,List.replicate M false⟩:kJ)),false)).2=true→(lQ (fM s n) s p t l false).2=true:=fun h=>by rw[hTe,h];exact G6
   have hW0l:(l.map (fun u=>(⟨u,List.replicate M false⟩:kJ))).length=l.length:=eD ..;generalize l.map (fun u=>(⟨u,List.replicate M false⟩:kJ))=W0 at *
   generalize hTb:lQ (fM s n) s p t l false=TB at *
   simp -implicitDefEqProofs (disch:=omega) only[go_sem,simprocAttr];refine dV (fun(q:Nat×List AObj)=>(rp 9 .k (.v (.sl ((nV (fM s n) s t.kids p q.1 (W0,false)).1.flatMap uB) (nV (fM s n) s t.kids p q.1 (W0,false)).1.length)::.k::.k::.v (.i .i64 (2*q.1:Nat))::.j::.k::.j::(rp 27 .k (rp 34 .j (rp 76 .k [])))))) (fun q=>(.box false [bQ s]::.box false (tmC p)::.box false (tmC t)::q.2)) (fun q=>2*q.1≤p.kids.length∧(nV (fM s n) s t.kids p q.1 (W0,false)).2=false) (fun q=>p.kids.length-2*q.1) ((0,g')) ⟨bX _,rfl⟩ rfl (by simp[iS]) ?_;rintro⟨i,g2⟩ j2 ⟨hi,hb⟩;dsimp only at hi hb;by_cases hit:2*i<p.kids.length
   ·have hii:((2*i:Nat):Int)<((p.kids.length:Nat):Int):=by omega
    have hii':2*i+1<p.kids.length:=by omega
    obtain⟨hb1,hb2,hb3⟩:=htab i hi;have hn2:=yX (l:=p.kids) (k:=i) hii';have hn3:=iU (l:=p.kids) (k:=2*(i+1));have hn4:1≤nodesT (p.kids.getD (2*i) default):=by rw[eW];omega
    have hsucc:nV (fM s n) s t.kids p (i+1) (W0,false)=oK (fM s n) s t.kids (p.kids.getD (2*i) default) (p.kids.getD (2*i+1) default) (nV (fM s n) s t.kids p i (W0,false)).1 false:=by rw[nV,hb]
    have hpan2:(oK (fM s n) s t.kids (p.kids.getD (2*i) default) (p.kids.getD (2*i+1) default) (nV (fM s n) s t.kids p i (W0,false)).1 false).2=true→TB.2=true:=fun h=>hpan (by
     have:=hmono (i+1) (by rw[hsucc];exact h) (p.kids.length / 2-(i+1));rwa[show i+1+(p.kids.length / 2-(i+1))=p.kids.length / 2 by omega]at this)
    have hkO:=(hp.kid (cS (d:=default) hit)).1;have hvA:=hA _ (cS (d:=default) hii');generalize (nV (fM s n) s t.kids p i (W0,false)).1=W at *
    simp -implicitDefEqProofs (disch:=omega) only[zt hii,go_sem,simprocAttr];refine dV (fun(q:Nat×AV×List AObj)=>(rp 13 .k (.v (q.2.1)::.k::.j::(rp 36 .k (.v (.i .i64 (q.1:Nat))::(rp 23 .j (rp 77 .k []))))))) (fun q=>(.box false [bQ s]::.box false (tmC p)::.box false (tmC t)::q.2.2)) (fun q=>q.1≤W.length∧(jL (fM s n) s (p.kids.getD (2*i) default) (p.kids.getD (2*i+1) default) t.kids (W.take q.1) false).2=false∧(jL (fM s n) s (p.kids.getD (2*i) default) (p.kids.getD (2*i+1) default) t.kids (W.take q.1) false).1.length≤1000∧jU 2 3 q.2.2 q.2.1 ((jL (fM s n) s (p.kids.getD (2*i) default) (p.kids.getD (2*i+1) default) t.kids (W.take q.1) false).1.flatMap uB) (jL (fM s n) s (p.kids.getD (2*i) default) (p.kids.getD (2*i+1) default) t.kids (W.take q.1) false).1.length) (fun q=>W.length-q.1) ((0,.e0,g2)) ⟨bX _,rfl,bX _,jN⟩ rfl (by simp[iS]) ?_;rintro⟨c,out3,g3⟩ j4 ⟨hc,hcb,hcl,ho3⟩;dsimp only at hc hcb hcl ho3;by_cases hct:c<W.length
    ·have hci:(c:Int)<((W.length:Nat):Int):=by omega
     have hw:=hb1 _ (cS (d:=default) hct);have ce:=bSq s n (p.kids.getD (2*i) default) (p.kids.getD (2*i+1) default) t (W.getD c default) (m+nodesL (p.kids.take (2*i))) hm hvA ht hpl hnk htl hkO hw.u hw.asc hw.len (by omega);have hE:=T0 (A:=fM s n) (s:=s) (key:=p.kids.getD (2*i) default) (value:=p.kids.getD (2*i+1) default) (t:=t) (b:=false) hct;have hpn:=aSr (A:=fM s n) (s:=s) (key:=p.kids.getD (2*i) default) (value:=p.kids.getD (2*i+1) default) (t:=t) (ws:=W) (b:=false) (aIr n) (c+1);have hNl:=aDa (A:=fM s n) (s:=s) (key:=p.kids.getD (2*i) default) (value:=p.kids.getD (2*i+1) default) (t:=t) (b:=false) (tQ n _) hw.u hw.len ht (bV (W.getD c default).tk.length);have hwl:=hw.len;rw[hcb]at hE;rw[hE]at hpn;dsimp only at hpn;generalize hN:kP (fM s n) s (p.kids.getD (2*i) default) (p.kids.getD (2*i+1) default) t.kids (W.getD c default) (W.getD c default).tk.length false=N at *
     generalize hEc:jL (fM s n) s (p.kids.getD (2*i) default) (p.kids.getD (2*i+1) default) t.kids (W.take c) false=E at *
     simp -implicitDefEqProofs (disch:=omega) only[zt hci,uB,avu,go_sem,simprocAttr];repeat refine bE (by omega) ?_
     refine aXd (rx:=.off) (N:=⟨0,[]⟩) dE 15 0 56 13 _ (by kernel_rfl) rfl rfl rfl rfl rfl (al:=?_) (al2:=?_) ?_ ?_ (fun v e e' h k=>k) ?_;rotate_left 2
     ·simp only[strip,kV,eR,kU,RX.off,ckF,ckX,zOf,exd,vOf,aH,aG,bH,bG,aK,bA,aS,aK,bT,bY,dP,fQ,bD,bM,aE,aC,eB,anyPre,Region.binds,aA,aB,aI,if_true,if_false,aY,aW,aR,aT,aZ,aQ,aH,aG,List.append_nil,aO,bS,aV,bK,Nat.reduceAdd,aO,bS];rfl
     ·simp only[strip,kV,eR,kU,RX.off,ckF,ckX,zOf,exd,vOf,aH,aG,bH,bG,aK,bA,aS,aK,bT,bY,dP,fQ,bD,bM,aE,aC,eB,anyPre,Region.binds,aA,aB,aI,if_true,if_false,aY,aW,aR,aT,aZ,aQ,aH,aG,List.append_nil,aO,bS,aV,bK,Nat.reduceAdd,aV,bK];rfl
     simp -implicitDefEqProofs (disch:=omega) only[go_sem,simprocAttr];repeat refine bE (by omega) ?_
     refine vH ce ?_ (fun hb'=>⟨hpan2 (hpn (.inl hb')),rfl⟩) (fun hb'=>?_)
     ·simp -implicitDefEqProofs (disch:=omega) only[elT,aL,uB,avu,bQ,go_sem,simprocAttr]
     rw[show ∀H,mat (bEg N.1) H=(bEg N.1,H)from fun H=>rfl];simp -implicitDefEqProofs (disch:=omega) only[bEg,go_sem,simprocAttr];have ho4:=ho3.more [.box false [.sl ((W.getD c default).u.flatMap prT) (W.getD c default).u.length,.sl ((W.getD c default).tk.map .b) (W.getD c default).tk.length]];refine fN (more:=[]) (pre:=[.box false [.box (eZ s) 0],.box false (tmC p),.box false (tmC t)]) (news:=N.1.flatMap uB) (m:=N.1.length) ho4 rfl (by simp) bDa aZc aZo bDy rfl (by decide) (by simp -implicitDefEqProofs (disch:=omega) only[go_sem,simprocAttr]) (by simp -implicitDefEqProofs (disch:=omega) only[go_sem,simprocAttr]) ⟨by omega,by omega⟩ ?_;intro out' g' ho' hkeep;have hcE:(jL (fM s n) s (p.kids.getD (2*i) default) (p.kids.getD (2*i+1) default) t.kids (W.take (c+1)) false).1.length=E.1.length+N.1.length:=by rw[hE,List.length_append]
     rw[← List.flatMap_append,← List.length_append]at ho';have cl:=bTd (E.1++N.1);obtain⟨k1,_,_,_⟩:=rB (pre:=[.box false [bQ s],.box false (tmC p),.box false (tmC t)]) ho' uG;simp only[aC,aE,bQ]at k1;simp -implicitDefEqProofs (disch:=omega) only[go_sem,simprocAttr];refine vH cl ?_ (fun hm=>⟨hpan2 (hpn (.inr (by simpa using hm))),rfl⟩) (fun hm=>?_)
     ·rw[aQ,aZ,k1];rfl
     rw[show ∀H,mat .u H=(.u,H)from fun H=>rfl,gM,if_pos (show flat .u=true from rfl)];have hle:(E.1++N.1).length≤1000:=by simpa using hm
     simp -implicitDefEqProofs (disch:=omega) only[go_sem,simprocAttr];refine⟨(c+1,out',g'),⟨by dsimp only;omega,by dsimp only;rw[hE];exact hb',by dsimp only;rw[hE];exact hle,?_⟩,by dsimp only;omega,rfl,by simp⟩;dsimp only;rw[hE];exact ho'
    ·have hci:¬(c:Int)<((W.length:Nat):Int):=by omega
     simp -implicitDefEqProofs (disch:=omega) only[zf hci,go_sem,simprocAttr];rw[bB (by omega)]at ho3 hcb hcl;have hpE:oK (fM s n) s t.kids (p.kids.getD (2*i) default) (p.kids.getD (2*i+1) default) W false=jL (fM s n) s (p.kids.getD (2*i) default) (p.kids.getD (2*i+1) default) t.kids W false:=by rw[oK,if_neg (by omega)]
     rw[hpE]at hsucc;apply aAx 0 13 (by simp only[strip,kV,eR,kU,RX.off,ckF,ckX,zOf,exd,vOf,aH,aG,bH,bG,aK,bA,aS,aK,bT,bY,dP,fQ,bD,bM,aE,aC,eB,anyPre,Region.binds,aA,aB,aI,if_true,if_false,aY,aW,aR,aT,aZ,aQ,aH,aG,List.append_nil,aO,bS,aV,bK,Nat.reduceAdd];rfl) (by simp only[strip,kV,eR,kU,RX.off,ckF,ckX,zOf,exd,vOf,aH,aG,bH,bG,aK,bA,aS,aK,bT,bY,dP,fQ,bD,bM,aE,aC,eB,anyPre,Region.binds,aA,aB,aI,if_true,if_false,aY,aW,aR,aT,aZ,aQ,aH,aG,List.append_nil,aO,bS,aV,bK,Nat.reduceAdd];rfl)
     ·intro K hK;exact hK
     obtain⟨k1,g5,k2,k3⟩:=rB (pre:=[.box false [bQ s],.box false (tmC p),.box false (tmC t)]) ho3 uG;simp only[aC,aE,bQ]at k1 k3;simp -implicitDefEqProofs only[aHc,dF,gO,kX,mZ];rw[k1,k3];simp -implicitDefEqProofs (disch:=omega) only[go_sem,simprocAttr];refine⟨(i+1,g5),⟨by dsimp only;omega,by dsimp only;rw[hsucc];exact hcb⟩,by dsimp only;omega,rfl,?_⟩;dsimp only;rw[hsucc];exact⟨rfl,rfl⟩
   ·have hii:¬((2*i:Nat):Int)<((p.kids.length:Nat):Int):=by omega
    obtain rfl:i=p.kids.length / 2:=by omega
    obtain⟨hb1,hb2,hb3⟩:=htab _ hi;simp -implicitDefEqProofs (disch:=omega) only[zf hii,go_sem,simprocAttr];rw[hb]at hTe;generalize (nV (fM s n) s t.kids p (p.kids.length / 2) (W0,false)).1=W at *
    refine dV (fun(q:Nat×AV×List AObj)=>(rp 16 .k (.v (q.2.1)::.k::.j::.j::.j::.j::.k::.j::.j::.j::(rp 53 .k (.v (.i .i64 (q.1:Nat))::(rp 71 .j [.k,.k])))))) (fun q=>(.box false [bQ s]::.box false (tmC p)::.box false (tmC t)::q.2.2)) (fun q=>q.1≤W.length∧jU 1 3 q.2.2 q.2.1 (((W.take q.1).flatMap fun w=>B7 s p (jG t.kids w)).map avu) ((W.take q.1).flatMap fun w=>B7 s p (jG t.kids w)).length) (fun q=>W.length-q.1) ((0,.e0,g2)) ⟨bX _,jN⟩ rfl (by simp[iS]) ?_;rintro⟨c,out3,g3⟩ j4 ⟨hc,ho3⟩;dsimp only at hc ho3;by_cases hct:c<W.length
    ·have hci:(c:Int)<((W.length:Nat):Int):=by omega
     have hw:=hb1 _ (cS (d:=default) hct);have hwl:=hw.len;have hsc:=pI (f:=fun w=>B7 s p (jG t.kids w)) (d:=default) hct;simp -implicitDefEqProofs (disch:=omega) only[zt hci,uB,avu,go_sem,simprocAttr];repeat refine bE (by omega) ?_
     generalize W.getD c default=w at *
     refine dV (fun(q:Nat×AV×List AObj)=>(rp 20 .k (.j::.j::(rp 65 .k (.v (.i .i64 (q.1:Nat))::(rp 25 .j (rp 40 .k []))))))) (fun q=>(.box false [bQ s]::.box false (tmC p)::.box false (tmC t)::(g3++.box false [.sl (w.u.flatMap prT) w.u.length,.sl (w.tk.map .b) w.tk.length]::.box false [.i .i64 8,.i .i64 0,.s [],.s [],q.2.1,.e0]::q.2.2))) (fun q=>q.1≤w.tk.length∧jU 6 (g3.length+5) q.2.2 q.2.1 ((leftOf (t.kids.take (2*q.1)) (w.tk.take q.1)).flatMap aU) (leftOf (t.kids.take (2*q.1)) (w.tk.take q.1)).length) (fun q=>w.tk.length-q.1) ((0,.e0,[])) ⟨bX _,jN⟩ rfl (by simp[iS]) ?_;rintro⟨e,ks,gm⟩ j5 ⟨he,hok⟩;dsimp only at he hok;by_cases het:e<w.tk.length
     ·have hei:(e:Int)<((w.tk.length:Nat):Int):=by omega
      have hls:=K7 hwl het;have h2e:((2:Int)*(e:Int)).toNat=2*e:=by omega
      have h2e':((2:Int)*(e:Int)+1).toNat=2*e+1:=by omega
      cases hx:w.tk.getD e false with
      |true=>
       rw[hx,if_pos rfl,List.append_nil]at hls;simp -implicitDefEqProofs (disch:=omega) only[zt hei,hx,go_sem,simprocAttr];repeat refine bE (by omega) ?_
       refine⟨(e+1,ks,gm),⟨by dsimp only;omega,by dsimp only;rw[hls];exact hok⟩,by dsimp only;omega,rfl,by simp⟩
      |false=>
       rw[hx,if_neg (by simp)]at hls;simp -implicitDefEqProofs (disch:=omega) only[zt hei,hx,go_sem,simprocAttr];repeat refine bE (by omega) ?_
       refine bEe (rx:=⟨true,false,true,[],[]⟩) (N:=⟨g3.length+5,[]⟩) dE 18 (by kernel_rfl) (al:=?_) (al2:=?_) ?_ ?_ ?_;rotate_left 2
       ·simp only[strip,kV,eR,kU,RX.off,ckF,ckX,zOf,exd,vOf,aH,aG,bH,bG,aK,bA,aS,aK,bT,bY,dP,fQ,bD,bM,aE,aC,eB,anyPre,Region.binds,aA,aB,aI,if_true,if_false,aY,aW,aR,aT,aZ,aQ,aH,aG,List.append_nil,aO,bS,aV,bK,Nat.reduceAdd,aLq,vQ,rR,rC,cU,cD,cG,dD,beq_self_eq_true,fY,Nat.reduceBEq,qK,pH,qH,jX,aHu,fD,gE,cX,vY,D9];rfl
       ·simp only[strip,kV,eR,kU,RX.off,ckF,ckX,zOf,exd,vOf,aH,aG,bH,bG,aK,bA,aS,aK,bT,bY,dP,fQ,bD,bM,aE,aC,eB,anyPre,Region.binds,aA,aB,aI,if_true,if_false,aY,aW,aR,aT,aZ,aQ,aH,aG,List.append_nil,aO,bS,aV,bK,Nat.reduceAdd,aV,bK];rfl
       have hnr:sT ⟨g3.length+5,[]⟩ ks:=by
        rcases hok with⟨rfl,_,_⟩|⟨i0,rfl,_,_⟩
        ·trivial
        ·show g3.length+5≤i0+(g3.length+5);omega
       have hkl:=qG (ks:=t.kids.take (2*e)) (tk:=w.tk.take e);rw[cN]at hkl;have n1:(g3.length+1+1+1+1<g3.length+5)=True:=eq_true (by omega);simp -implicitDefEqProofs (disch:=omega) only[h2e,h2e',eX,n1,aJ,aM,List.append_nil,go_sem,simprocAttr];repeat refine bE (by omega) ?_
       refine bE hnr ?_;refine fN (pre:=[.box false [.box (eZ s) 0],.box false (tmC p),.box false (tmC t)]++(g3++[.box false [.sl (w.u.flatMap prT) w.u.length,.sl (w.tk.map .b) w.tk.length],.box false [.i .i64 8,.i .i64 0,.s [],.s [],ks,.e0]])) (g:=gm) (more:=[.arr false 6 ([.i .i64 ((t.kids.getD (2*e) default)).kind,.i .i64 ((t.kids.getD (2*e) default)).n,.s ((t.kids.getD (2*e) default)).text,.s ((t.kids.getD (2*e) default)).sort,.sl (((t.kids.getD (2*e) default)).kids.flatMap aU) ((t.kids.getD (2*e) default)).kids.length,.sl (((t.kids.getD (2*e) default)).rest.flatMap aU) ((t.kids.getD (2*e) default)).rest.length]++[.i .i64 ((t.kids.getD (2*e+1) default)).kind,.i .i64 ((t.kids.getD (2*e+1) default)).n,.s ((t.kids.getD (2*e+1) default)).text,.s ((t.kids.getD (2*e+1) default)).sort,.sl (((t.kids.getD (2*e+1) default)).kids.flatMap aU) ((t.kids.getD (2*e+1) default)).kids.length,.sl (((t.kids.getD (2*e+1) default)).rest.flatMap aU) ((t.kids.getD (2*e+1) default)).rest.length])]) (news:=[.i .i64 ((t.kids.getD (2*e) default)).kind,.i .i64 ((t.kids.getD (2*e) default)).n,.s ((t.kids.getD (2*e) default)).text,.s ((t.kids.getD (2*e) default)).sort,.sl (((t.kids.getD (2*e) default)).kids.flatMap aU) ((t.kids.getD (2*e) default)).kids.length,.sl (((t.kids.getD (2*e) default)).rest.flatMap aU) ((t.kids.getD (2*e) default)).rest.length]++[.i .i64 ((t.kids.getD (2*e+1) default)).kind,.i .i64 ((t.kids.getD (2*e+1) default)).n,.s ((t.kids.getD (2*e+1) default)).text,.s ((t.kids.getD (2*e+1) default)).sort,.sl (((t.kids.getD (2*e+1) default)).kids.flatMap aU) ((t.kids.getD (2*e+1) default)).kids.length,.sl (((t.kids.getD (2*e+1) default)).rest.flatMap aU) ((t.kids.getD (2*e+1) default)).rest.length]) (m:=2) hok (by simp) ?_ bHb bFe bFj bIc rfl (by decide) ?_ ?_ ⟨by omega,by omega⟩ ?_
       ·simp only[aC,aE,cM]
       ·simp -implicitDefEqProofs (disch:=omega) only[go_sem,simprocAttr]
       ·simp -implicitDefEqProofs (disch:=omega) only[go_sem,simprocAttr]
       intro out' g' ho' _;rcases ho' with⟨_,_,h3⟩|⟨i1,rfl,hi1,hl1⟩
       ·omega
       simp -implicitDefEqProofs (disch:=omega) only[go_sem,simprocAttr];have hlen:(leftOf (t.kids.take (2*(e+1))) (w.tk.take (e+1))).length=(leftOf (t.kids.take (2*e)) (w.tk.take e)).length+2:=by rw[hls,List.length_append];rfl
       have hcel:(leftOf (t.kids.take (2*(e+1))) (w.tk.take (e+1))).flatMap aU=(leftOf (t.kids.take (2*e)) (w.tk.take e)).flatMap aU++([.i .i64 ((t.kids.getD (2*e) default)).kind,.i .i64 ((t.kids.getD (2*e) default)).n,.s ((t.kids.getD (2*e) default)).text,.s ((t.kids.getD (2*e) default)).sort,.sl (((t.kids.getD (2*e) default)).kids.flatMap aU) ((t.kids.getD (2*e) default)).kids.length,.sl (((t.kids.getD (2*e) default)).rest.flatMap aU) ((t.kids.getD (2*e) default)).rest.length]++[.i .i64 ((t.kids.getD (2*e+1) default)).kind,.i .i64 ((t.kids.getD (2*e+1) default)).n,.s ((t.kids.getD (2*e+1) default)).text,.s ((t.kids.getD (2*e+1) default)).sort,.sl (((t.kids.getD (2*e+1) default)).kids.flatMap aU) ((t.kids.getD (2*e+1) default)).kids.length,.sl (((t.kids.getD (2*e+1) default)).rest.flatMap aU) ((t.kids.getD (2*e+1) default)).rest.length]):=by
        rw[hls,List.flatMap_append,List.flatMap_cons,List.flatMap_cons,List.flatMap_nil,List.append_nil,aL,aL];rfl
       refine⟨(e+1,.hs (i1+(g3.length+5)) 0 ((leftOf (t.kids.take (2*e)) (w.tk.take e)).length+2) false,g'),⟨by dsimp only;omega,.inr ⟨i1,by dsimp only;rw[hlen],?_,?_⟩⟩,by dsimp only;omega,rfl,?_⟩
       ·dsimp only;rw[hcel];exact hi1
       ·dsimp only;rw[hcel,hlen];exact hl1
       ·simp
     ·have hei:¬(e:Int)<((w.tk.length:Nat):Int):=by omega
      obtain rfl:e=w.tk.length:=by omega
      rw[aDr hwl]at hok;have hfl:=bFw (s:=s) (p:=p) (ks:=t.kids) (l:=W.take c);rw[cN]at hfl;have hWl:W.length≤1000:=hb2;generalize hLe:leftOf t.kids w.tk=L at *
      rcases bJz hp (.inr hp8)with hr|⟨r,hr,hr6⟩
      ·have hrl:p.rest.length=0:=by rw[hr];rfl
       have hri:decide (((p.rest.length:Nat):Int)=0)=true:=zt (by omega);have hr0:decide ((0:Int)<((p.rest.length:Nat):Int))=false:=zf (by omega);have hEnd:B7 s p (jG t.kids w)=if L.length=0 then [w.u]else []:=by rw[B7,if_neg (by omega),jG,hLe]
       by_cases hL:L.length=0
       ·rw[if_pos hL]at hEnd
        have hLi:((L.length:Nat):Int)=0:=by omega
        rcases hok with⟨rfl,hk2,hk3⟩|⟨i0,rfl,hk2,hk3⟩
        ·simp -implicitDefEqProofs (disch:=omega) only[hri,zf hei,zt hLi,go_sem,simprocAttr];refine fN (pre:=[.box false [.box (eZ s) 0],.box false (tmC p),.box false (tmC t)]) (g:=g3++(.box false [.sl (w.u.flatMap prT) w.u.length,.sl (w.tk.map .b) w.tk.length]::.box false [.i .i64 8,.i .i64 0,.s [],.s [],.e0,.e0]::gm)) (more:=[.arr false 1 [.sl (w.u.flatMap prT) (List.length w.u)]]) (news:=[.sl (w.u.flatMap prT) (List.length w.u)]) (m:=1) (ho3.more _) rfl ?_ bSr bPo bQn bWa rfl (by decide) ?_ ?_ ⟨by omega,by omega⟩ ?_
         ·simp only[aC,aE,cM]
         ·simp -implicitDefEqProofs (disch:=omega) only[go_sem,simprocAttr]
         ·simp -implicitDefEqProofs (disch:=omega) only[go_sem,simprocAttr]
         intro out' g' ho' _;simp -implicitDefEqProofs (disch:=omega) only[go_sem,simprocAttr];refine V7 (al:=?_) ?_ ?_;rotate_left
         ·simp only[strip,kV,eR,kU,RX.off,ckF,ckX,zOf,exd,vOf,aH,aG,bH,bG,aK,bA,aS,aK,bT,bY,dP,fQ,bD,bM,aE,aC,eB,anyPre,Region.binds,aA,aB,aI,if_true,if_false,aY,aW,aR,aT,aZ,aQ,aH,aG,List.append_nil,aO,bS,aV,bK,Nat.reduceAdd];rfl
         simp -implicitDefEqProofs (disch:=omega) only[go_sem,simprocAttr];refine dV (fun(q:Unit)=>(rp 16 .k (.v (out')::(rp 6 .k (.j::.j::.j::(rp 105 .k (.v (.i .i64 0)::(rp 18 .j [.k,.k,.k])))))))) (fun q=>(.box false [.box (eZ s) 0]::.box false (tmC p)::.box false (tmC t)::g')) (fun q=>True) (fun q=>0) (()) trivial rfl (by simp[iS]) ?_;rintro⟨⟩ j7 -
         simp -implicitDefEqProofs (disch:=omega) only[hr0,go_sem,simprocAttr];refine⟨(c+1,out',g'),⟨by dsimp only;omega,?_⟩,by dsimp only;omega,rfl,by simp⟩;dsimp only;rw[hsc,hEnd,cL,List.length_append];exact ho'
        ·have hgi:(.box false [.box (eZ s) 0]::.box false (tmC p)::.box false (tmC t)::(g3++.box false [.sl (w.u.flatMap prT) w.u.length,.sl (w.tk.map .b) w.tk.length]::.box false [.i .i64 8,.i .i64 0,.s [],.s [],(.hs (i0+(g3.length+5)) 0 L.length false),.e0]::gm))[i0+(g3.length+5)]? = some (.arr false 6 (L.flatMap aU)):=by
          rw[show .box false [.box (eZ s) 0]::.box false (tmC p)::.box false (tmC t)::(g3++.box false [.sl (w.u.flatMap prT) w.u.length,.sl (w.tk.map .b) w.tk.length]::.box false [.i .i64 8,.i .i64 0,.s [],.s [],(.hs (i0+(g3.length+5)) 0 L.length false),.e0]::gm)=([.box false [.box (eZ s) 0],.box false (tmC p),.box false (tmC t)]++(g3++[.box false [.sl (w.u.flatMap prT) w.u.length,.sl (w.tk.map .b) w.tk.length],.box false [.i .i64 8,.i .i64 0,.s [],.s [],(.hs (i0+(g3.length+5)) 0 L.length false),.e0]]):List AObj)++gm by simp,aX (by simp only[List.length_append,bF,bZ];omega),List.length_append,List.length_append];simp only[bF,bZ,eF,Nat.reduceAdd];rw[show i0+(g3.length+5)-(3+(g3.length+2))=i0 by omega];exact hk2
         simp -implicitDefEqProofs (disch:=omega) only[hri,zf hei,zt hLi,hgi,go_sem,simprocAttr];refine fN (pre:=[.box false [.box (eZ s) 0],.box false (tmC p),.box false (tmC t)]) (g:=g3++(.box false [.sl (w.u.flatMap prT) w.u.length,.sl (w.tk.map .b) w.tk.length]::.box false [.i .i64 8,.i .i64 0,.s [],.s [],(.hs (i0+(g3.length+5)) 0 L.length false),.e0]::gm)) (more:=[.arr false 1 [.sl (w.u.flatMap prT) (List.length w.u)]]) (news:=[.sl (w.u.flatMap prT) (List.length w.u)]) (m:=1) (ho3.more _) rfl ?_ bSr bPo bQn bWa rfl (by decide) ?_ ?_ ⟨by omega,by omega⟩ ?_
         ·simp only[aC,aE,cM]
         ·simp -implicitDefEqProofs (disch:=omega) only[go_sem,simprocAttr]
         ·simp -implicitDefEqProofs (disch:=omega) only[go_sem,simprocAttr]
         intro out' g' ho' _;simp -implicitDefEqProofs (disch:=omega) only[go_sem,simprocAttr];refine V7 (al:=?_) ?_ ?_;rotate_left
         ·simp only[strip,kV,eR,kU,RX.off,ckF,ckX,zOf,exd,vOf,aH,aG,bH,bG,aK,bA,aS,aK,bT,bY,dP,fQ,bD,bM,aE,aC,eB,anyPre,Region.binds,aA,aB,aI,if_true,if_false,aY,aW,aR,aT,aZ,aQ,aH,aG,List.append_nil,aO,bS,aV,bK,Nat.reduceAdd];rfl
         simp -implicitDefEqProofs (disch:=omega) only[go_sem,simprocAttr];refine dV (fun(q:Unit)=>(rp 16 .k (.v (out')::(rp 6 .k (.j::.j::.j::(rp 105 .k (.v (.i .i64 0)::(rp 18 .j [.k,.k,.k])))))))) (fun q=>(.box false [.box (eZ s) 0]::.box false (tmC p)::.box false (tmC t)::g')) (fun q=>True) (fun q=>0) (()) trivial rfl (by simp[iS]) ?_;rintro⟨⟩ j7 -
         simp -implicitDefEqProofs (disch:=omega) only[hr0,go_sem,simprocAttr];refine⟨(c+1,out',g'),⟨by dsimp only;omega,?_⟩,by dsimp only;omega,rfl,by simp⟩;dsimp only;rw[hsc,hEnd,cL,List.length_append];exact ho'
       ·rw[if_neg hL]at hEnd
        have hLi:¬((L.length:Nat):Int)=0:=by omega
        rcases hok with⟨rfl,hk2,hk3⟩|⟨i0,rfl,hk2,hk3⟩
        ·omega
        ·have hgi:(.box false [.box (eZ s) 0]::.box false (tmC p)::.box false (tmC t)::(g3++.box false [.sl (w.u.flatMap prT) w.u.length,.sl (w.tk.map .b) w.tk.length]::.box false [.i .i64 8,.i .i64 0,.s [],.s [],(.hs (i0+(g3.length+5)) 0 L.length false),.e0]::gm))[i0+(g3.length+5)]? = some (.arr false 6 (L.flatMap aU)):=by
          rw[show .box false [.box (eZ s) 0]::.box false (tmC p)::.box false (tmC t)::(g3++.box false [.sl (w.u.flatMap prT) w.u.length,.sl (w.tk.map .b) w.tk.length]::.box false [.i .i64 8,.i .i64 0,.s [],.s [],(.hs (i0+(g3.length+5)) 0 L.length false),.e0]::gm)=([.box false [.box (eZ s) 0],.box false (tmC p),.box false (tmC t)]++(g3++[.box false [.sl (w.u.flatMap prT) w.u.length,.sl (w.tk.map .b) w.tk.length],.box false [.i .i64 8,.i .i64 0,.s [],.s [],(.hs (i0+(g3.length+5)) 0 L.length false),.e0]]):List AObj)++gm by simp,aX (by simp only[List.length_append,bF,bZ];omega),List.length_append,List.length_append];simp only[bF,bZ,eF,Nat.reduceAdd];rw[show i0+(g3.length+5)-(3+(g3.length+2))=i0 by omega];exact hk2
         simp -implicitDefEqProofs (disch:=omega) only[hri,zf hei,zf hLi,hgi,go_sem,simprocAttr];refine V7 (al:=?_) ?_ ?_;rotate_left
         ·simp only[strip,kV,eR,kU,RX.off,ckF,ckX,zOf,exd,vOf,aH,aG,bH,bG,aK,bA,aS,aK,bT,bY,dP,fQ,bD,bM,aE,aC,eB,anyPre,Region.binds,aA,aB,aI,if_true,if_false,aY,aW,aR,aT,aZ,aQ,aH,aG,List.append_nil,aO,bS,aV,bK,Nat.reduceAdd];rfl
         simp -implicitDefEqProofs (disch:=omega) only[go_sem,simprocAttr];refine dV (fun(q:Unit)=>(rp 16 .k (.v (out3)::(rp 6 .k (.j::.j::.j::(rp 105 .k (.v (.i .i64 0)::(rp 18 .j [.k,.k,.k])))))))) (fun q=>(.box false [.box (eZ s) 0]::.box false (tmC p)::.box false (tmC t)::(g3++.box false [.sl (w.u.flatMap prT) w.u.length,.sl (w.tk.map .b) w.tk.length]::.box false [.i .i64 8,.i .i64 0,.s [],.s [],(.hs (i0+(g3.length+5)) 0 L.length false),.e0]::gm))) (fun q=>True) (fun q=>0) (()) trivial rfl (by simp[iS]) ?_;rintro⟨⟩ j7 -
         simp -implicitDefEqProofs (disch:=omega) only[hr0,go_sem,simprocAttr];refine⟨(c+1,out3,(g3++.box false [.sl (w.u.flatMap prT) w.u.length,.sl (w.tk.map .b) w.tk.length]::.box false [.i .i64 8,.i .i64 0,.s [],.s [],(.hs (i0+(g3.length+5)) 0 L.length false),.e0]::gm)),⟨by dsimp only;omega,?_⟩,by dsimp only;omega,rfl,by simp⟩;dsimp only;rw[hsc,hEnd,List.append_nil];exact ho3.more _
      ·have hrl:p.rest.length=1:=by rw[hr];rfl
       have hri:decide (((p.rest.length:Nat):Int)=0)=false:=zf (by omega);have hn9:=iU (l:=p.kids) (k:=2*(p.kids.length / 2));have hrk:(p.rest.getD 0 default).kind=6:=by rw[hr];exact hr6
       have hro:OkT (p.rest.getD 0 default):=hp.1.rst _ (cS (by omega));have hlo:OkT (.mk 8 0 [] [] L []):=aDg (fun x hx=>(ht.kid (E8 (hLe▸hx))).1) (by rw[← hLe];exact jI qG ht.1.kids);have hEnd:B7 s p (jG t.kids w)=if(xO s (p.rest.getD 0 default) (.mk 8 0 [] [] L []) w.u).2=true then [(xO s (p.rest.getD 0 default) (.mk 8 0 [] [] L []) w.u).1]else []:=by
        rw[B7,if_pos (by omega),← aDs,iJ,if_pos hrk,jG,hLe]
       have cb:=bHg s w.u (p.rest.getD 0 default) (.mk 8 0 [] [] L []) hm hw.asc (hw.u.mono (by omega)) hro hlo;generalize xO s (p.rest.getD 0 default) (.mk 8 0 [] [] L []) w.u=F at *
       obtain⟨v,fl⟩:=F;dsimp only at hEnd cb;simp -implicitDefEqProofs (disch:=omega) only[hri,zf hei,go_sem,simprocAttr];refine bOh (aPy (b:=g3.length+4) (k:=4) (i:=19) (cells:=[.i .i64 8,.i .i64 0,.s [],.s [],ks,.e0]) (x:=ks) ?_ rfl rfl ?_ ?_)
       ·simp -implicitDefEqProofs (disch:=omega) only[go_sem,simprocAttr]
       ·rcases hok with⟨rfl,_,_⟩|⟨i0,rfl,hk2,_⟩
        ·rw[yU rfl];simp
        ·have hgi:(.box false [.box (eZ s) 0]::.box false (tmC p)::.box false (tmC t)::(g3++.box false [.sl (w.u.flatMap prT) w.u.length,.sl (w.tk.map .b) w.tk.length]::.box false [.i .i64 8,.i .i64 0,.s [],.s [],(.hs (i0+(g3.length+5)) 0 L.length false),.e0]::gm))[i0+(g3.length+5)]? = some (.arr false 6 (L.flatMap aU)):=by
          rw[show .box false [.box (eZ s) 0]::.box false (tmC p)::.box false (tmC t)::(g3++.box false [.sl (w.u.flatMap prT) w.u.length,.sl (w.tk.map .b) w.tk.length]::.box false [.i .i64 8,.i .i64 0,.s [],.s [],(.hs (i0+(g3.length+5)) 0 L.length false),.e0]::gm)=([.box false [.box (eZ s) 0],.box false (tmC p),.box false (tmC t)]++(g3++[.box false [.sl (w.u.flatMap prT) w.u.length,.sl (w.tk.map .b) w.tk.length],.box false [.i .i64 8,.i .i64 0,.s [],.s [],(.hs (i0+(g3.length+5)) 0 L.length false),.e0]]):List AObj)++gm by simp,aX (by simp only[List.length_append,bF,bZ];omega),List.length_append,List.length_append];simp only[bF,bZ,eF,Nat.reduceAdd];rw[show i0+(g3.length+5)-(3+(g3.length+2))=i0 by omega];exact hk2
         have hall:(L.flatMap aU).all aOi=true:=aVp gW;simp -implicitDefEqProofs (disch:=omega) only[E4,hsQ,hgi,hall,aP,go_sem,simprocAttr];omega
       obtain⟨k1,g4,_,k3⟩:=rB (pre:=[.box false [.box (eZ s) 0],.box false (tmC p),.box false (tmC t)]++(g3++[.box false [.sl (w.u.flatMap prT) w.u.length,.sl (w.tk.map .b) w.tk.length],.box false [.i .i64 8,.i .i64 0,.s [],.s [],ks,.e0]])) (g:=gm) (by simpa using hok) gW;simp only[aC,aE,cM]at k1 k3;rw[k1,k3];simp -implicitDefEqProofs (disch:=omega) only[go_sem,simprocAttr];refine V7 (al:=?_) ?_ ?_;rotate_left
       ·simp only[strip,kV,eR,kU,RX.off,ckF,ckX,zOf,exd,vOf,aH,aG,bH,bG,aK,bA,aS,aK,bT,bY,dP,fQ,bD,bM,aE,aC,eB,anyPre,Region.binds,aA,aB,aI,if_true,if_false,aY,aW,aR,aT,aZ,aQ,aH,aG,List.append_nil,aO,bS,aV,bK,Nat.reduceAdd];rfl
       simp -implicitDefEqProofs (disch:=omega) only[go_sem,simprocAttr];refine dV (fun(q:Nat×AV×List AObj)=>(rp 16 .k (.v (q.2.1)::(rp 6 .k (.j::.j::.j::(rp 105 .k (.v (.i .i64 (q.1:Nat))::(rp 18 .j [.k,.k,.k])))))))) (fun q=>(.box false [.box (eZ s) 0]::.box false (tmC p)::.box false (tmC t)::q.2.2)) (fun q=>(q.1=0∧q.2.1=out3∧q.2.2=g3++.box false [.sl (w.u.flatMap prT) w.u.length,.sl (w.tk.map .b) w.tk.length]::.box false [.i .i64 8,.i .i64 0,.s [],.s [],.sl (L.flatMap aU) L.length,.e0]::g4)∨(q.1=1∧jU 1 3 q.2.2 q.2.1 (((W.take (c+1)).flatMap fun w=>B7 s p (jG t.kids w)).map avu) ((W.take (c+1)).flatMap fun w=>B7 s p (jG t.kids w)).length)) (fun q=>1-q.1) ((0,out3,_)) (.inl ⟨rfl,rfl,rfl⟩) rfl (by simp[iS]) ?_;rintro⟨x,out4,g6⟩ j7 hq;dsimp only at hq;rcases hq with⟨rfl,rfl,rfl⟩|⟨rfl,ho6⟩
       ·have hr1:decide ((0:Int)<((p.rest.length:Nat):Int))=true:=zt (by omega);simp -implicitDefEqProofs (disch:=omega) only[hr1,go_sem,simprocAttr];repeat refine bE (by omega) ?_
        refine bJ cb ?_ ?_
        ·simp -implicitDefEqProofs (disch:=omega) only[elT,aL,avu,bQ,avt,List.flatMap_nil,bZ,go_sem,simprocAttr];trace_state
        cases fl with
        |true=>
         simp -implicitDefEqProofs (disch:=omega) only[avu,go_sem,simprocAttr];rw[if_pos rfl]at hEnd;refine fN (pre:=[.box false [.box (eZ s) 0],.box false (tmC p),.box false (tmC t)]) (g:=g3++(.box false [.sl (w.u.flatMap prT) w.u.length,.sl (w.tk.map .b) w.tk.length]::.box false [.i .i64 8,.i .i64 0,.s [],.s [],.sl (L.flatMap aU) L.length,.e0]::g4)) (more:=[.box false (tmC ((p.rest.getD 0 default))),.arr false 1 [.sl (v.flatMap prT) (List.length v)]]) (news:=[.sl (v.flatMap prT) (List.length v)]) (m:=1) (ho3.more _) rfl ?_ bSr bPo bQn bWa rfl (by decide) ?_ ?_ ⟨by omega,by omega⟩ ?_
         ·simp only[aC,aE,cM]
         ·simp -implicitDefEqProofs (disch:=omega) only[go_sem,simprocAttr]
         ·simp -implicitDefEqProofs (disch:=omega) only[go_sem,simprocAttr]
         intro out' g' ho' _;simp -implicitDefEqProofs (disch:=omega) only[go_sem,simprocAttr];refine⟨(1,out',g'),.inr ⟨rfl,?_⟩,by dsimp only;omega,rfl,by simp⟩;dsimp only;rw[hsc,hEnd,cL,List.length_append];exact ho'
        |false=>
         simp -implicitDefEqProofs (disch:=omega) only[avu,go_sem,simprocAttr];rw[if_neg (by simp)]at hEnd;refine⟨(1,out4,_),.inr ⟨rfl,?_⟩,by dsimp only;omega,rfl,by simp⟩;dsimp only;rw[hsc,hEnd,List.append_nil];exact ho3.more _
       ·have hr1:decide (((1:Nat):Int)<((p.rest.length:Nat):Int))=false:=zf (by omega);have hr2:decide ((1:Int)<((p.rest.length:Nat):Int))=false:=hr1;simp -implicitDefEqProofs (disch:=omega) only[hr1,hr2,go_sem,simprocAttr];refine⟨(c+1,out4,g6),⟨by dsimp only;omega,by dsimp only;exact ho6⟩,by dsimp only;omega,rfl,by simp⟩
    ·have hci:¬(c:Int)<((W.length:Nat):Int):=by omega
     rw[bB (by omega)]at ho3;simp -implicitDefEqProofs (disch:=omega) only[zf hci,go_sem,simprocAttr];rw[sW]at hTe;have cl:=bHf (W.flatMap fun w=>B7 s p (jG t.kids w));obtain⟨k1,_,_,_⟩:=rB (pre:=[.box false [bQ s],.box false (tmC p),.box false (tmC t)]) ho3 J1;simp only[aC,aE,bQ]at k1;refine vH cl ?_ (fun hm=>⟨by rw[hTe,if_pos (of_decide_eq_true hm)],rfl⟩) (fun hm=>?_)
     ·rw[aQ,aZ,k1];rfl
     generalize gM (avw (W.flatMap fun w=>B7 s p (jG t.kids w))) _ _=H;rw[show ∀H,mat (avw (W.flatMap fun w=>B7 s p (jG t.kids w))) H=(avw (W.flatMap fun w=>B7 s p (jG t.kids w)),H)from fun H=>rfl];simp -implicitDefEqProofs (disch:=omega) only[go_sem,simprocAttr];rw[hTe,if_neg (of_decide_eq_false hm)];exact⟨rfl,.inl ⟨rfl,sQ _⟩⟩
end Go.Proofs.YtdjcggcjlphdoaaGreatDoor
