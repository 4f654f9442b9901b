/-
  Functions of the chapter, as plain functions of what they are given; no condition.
-/
import Derived.Test.YtdjcggcjlphdoaaGreatDoorVdP12
import Derived.Test.YtdjcggcjlphdoaaGreatDoorVoP24
import Derived.Test.YtdjcggcjlphdoaaGreatDoorVcP13
import Derived.Test.YtdjcggcjlphdoaaGreatDoorVaP14
set_option maxRecDepth 100000
set_option linter.unusedSimpArgs false
set_option linter.unusedVariables false
set_option maxHeartbeats 4000000
namespace Go.Proofs.YtdjcggcjlphdoaaGreatDoor
open Go Go.Vo
open Nat (reduceAdd reduceSub reduceMul reduceLeDiff reduceLT reduceEqDiff)
open Int (reduceNeg)
def tmA(u:LSub):AV:=.mapv ((u.map (·.1)).map .s) ((u.map (·.2)).map elT)
theorem N1:∀{l:List LTerm},persL (l.map elT)=true
 | []=>rfl
 |t::l=>by rw[aK,persL,N1,elT,pers,wJ];rfl
theorem bNv(u:LSub):pers (tmA u)=true:=by
 rw[tmA,pers,mA,N1];rfl
theorem aLv(u:LSub):pers (.mapv ((u.map (·.1)).map .s) ((u.map (·.2)).map elT))=true:=bNv u
theorem aEx{u:LSub}{x:Str}(h:mOf u x=none):((u.map (·.1)).findIdx? fun y=>decide (x=y))=none:=by
 rw[fW];intro y hy;obtain⟨p,hp,rfl⟩:=dS.1 hy;unfold mOf at h;rw[Option.map_eq_none_iff,J0]at h;have:=h p hp;simp only[decide_eq_true_eq]at this;simp;exact fun e=>this e.symm
theorem aEw{u:LSub}{x:Str}{t:LTerm}(h:mOf u x=some t):∃j,((u.map (·.1)).findIdx? fun z=>decide (x=z))=some j∧((u.map (·.2)).map elT)[j]? = some (.agg (tmC t)):=by
 induction u with
 |nil=>simp[mOf]at h
 |cons p m ih=>
  unfold mOf at h;rw[nY]at h;by_cases hx:p.1=x
  ·rw[zt hx]at h;simp only[dO,aB]at h;exact⟨0,by simp[jB,hx],by simp[h,elT,aW,avt]⟩
  ·rw[zf hx]at h;obtain⟨j,h1,h2⟩:=ih h;refine⟨j+1,?_,by simpa using h2⟩;rw[aK,jB,zf (fun e=>hx e.symm),h1];rfl
theorem aZd(x:Value)(w:World):(callFunc 250 #[x]).run Tryz.prog w=((Extern.MapsClone.clone #[x]).run Tryz.prog w).andThen fun v w'=>.ok (.value v) w':=
 run_callFunc_extern Tryz.func250 (by kernel_rfl) (by kernel_rfl) (by kernel_rfl) (by rfl) _ _
theorem bXe(u:LSub)(h:List AObj): ACalls Tryz.prog G0 202 [tmA u] h (fun r h'=>r=.mp h.length∧h'=h++[.map false ((u.map (·.1)).map .s) ((u.map (·.2)).map elT)]):=by
 refine oO (rx:=true) (th:=fun i=>if i=1 then some ⟨none,[],false,false,true,[],[],1000⟩else if i=3 then some ⟨none,[],false,false,true,[],[],1000⟩else none) cZ Tryz.func202 ?_
 ·simp -implicitDefEqProofs (disch:=omega) only[Tryz.f202,go_sem,List.replicate,simprocAttr,tmA];refine pN 1 1 (by simp only[strip,lI,eS,lH,RX.off,ckF,ckX,zOf,exd,vOf,aD,aC,bD,bC,aF,bA,aM,aF,bS,bY,dR,fT,bB,bI,aJ,aH,dZ,anyPre,Region.binds,aN,aS,aE,if_true,if_false,aX,aU,aI,aO,aZ,aK,aD,aC,List.append_nil,aL,bR,aT,bG,Nat.reduceAdd];rfl) (by simp only[strip,lI,eS,lH,RX.off,ckF,ckX,zOf,exd,vOf,aD,aC,bD,bC,aF,bA,aM,aF,bS,bY,dR,fT,bB,bI,aJ,aH,dZ,anyPre,Region.binds,aN,aS,aE,if_true,if_false,aX,aU,aI,aO,aZ,aK,aD,aC,List.append_nil,aL,bR,aT,bG,Nat.reduceAdd];rfl) ?_;simp -implicitDefEqProofs (disch:=omega) only[go_sem,simprocAttr];intro X w a g r;refine aEr (T:=104) (j:=3) (m:=tmA u) (ks:=(u.map (·.1)).map .s) (vs:=(u.map (·.2)).map elT) rfl rfl bTo rfl (.inl rfl) ?_ g r;simp -implicitDefEqProofs (disch:=omega) only[go_sem,simprocAttr];clear r g X w a;refine pN 1 3 (by simp only[strip,lI,eS,lH,RX.off,ckF,ckX,zOf,exd,vOf,aD,aC,bD,bC,aF,bA,aM,aF,bS,bY,dR,fT,bB,bI,aJ,aH,dZ,anyPre,Region.binds,aN,aS,aE,if_true,if_false,aX,aU,aI,aO,aZ,aK,aD,aC,List.append_nil,aL,bR,aT,bG,Nat.reduceAdd];rfl) (by simp only[strip,lI,eS,lH,RX.off,ckF,ckX,zOf,exd,vOf,aD,aC,bD,bC,aF,bA,aM,aF,bS,bY,dR,fT,bB,bI,aJ,aH,dZ,anyPre,Region.binds,aN,aS,aE,if_true,if_false,aX,aU,aI,aO,aZ,aK,aD,aC,List.append_nil,aL,bR,aT,bG,Nat.reduceAdd];rfl) ?_;simp -implicitDefEqProofs (disch:=omega) only[go_sem,simprocAttr];intro X w a g r;refine aJs (T:=104) (j:=5) (d1:=6) (d2:=7) (m:=tmA u) (ks:=(u.map (·.1)).map .s) (vs:=(u.map (·.2)).map elT) rfl rfl rfl rfl rfl rfl rfl rfl aZd bTo rfl (.inl rfl) (by simp) (by simp) ?_ g r;clear r g X w a;simp -implicitDefEqProofs (disch:=omega) only[go_sem,simprocAttr]
theorem rR{h:List AObj}:∀{l:List AV},persL l=true→l.map (gZ dep h)=l
 | [],_=>rfl
 |a::l,hl=>by
  rw[persL,aA]at hl;rw[aK,rR hl.2,gE,if_pos hl.1]
def bTi(s:dX)(u:LSub)(p q:LTerm):Option LSub:=
 if nQ s (qM s q) p.sort=true then(if p.text=[95]then some u else match mOf u p.text with
  |some o=>if o=q then some u else none
  |none=>some (u++[(p.text,q)]))else none
theorem bOy{u:LSub}{x:Str}{t:LTerm}(hu:∀p∈u,OkT p.2)(h:mOf u x=some t):OkT t:=by
 unfold mOf at h;obtain⟨p,hp,rfl⟩:=dG.1 h;exact hu p (lN hp)
def cGm(o:Option LSub)(B:LSub→Bool):Bool:=match o with
 |some v=>B v
 |none=>false
theorem bXm(s:dX)(u:LSub)(p q:LTerm)(f:Nat)(fi ca:List AV)(B:LSub→Bool)(hm:Small s)(hu:∀x∈u,OkT x.2)(op:OkT p)(oq:OkT q)(hf:persL fi=true)(hc:persL ca=true)(hY:∀v,bTi s u p q=some v→CT f (fi++tmA v::ca) (.b (B v))): CT 134 [.agg [cM s],tmA u,elT p,elT q,.fn f fi ca] (.b (cGm (bTi s u p q) B)):=by
 refine eG cZ Tryz.func134 g0 ?_
 ·simp -implicitDefEqProofs (disch:=omega) only[Tryz.f134,go_sem,List.replicate,simprocAttr,tmA,elT,aW];have c2:=aGa s q;have c3:=aQw s (qM s q) p.sort hm;simp only[cM]at c2 c3;rw[bTi];by_cases hat:nQ s (qM s q) p.sort=true
  ·rw[if_pos hat]
   rw[bTi,if_pos hat]at hY;rw[hat]at c3;by_cases hw:p.text=[95]
   ·rw[if_pos hw]at hY ⊢;have cY:=hY u rfl;(refine zy2 (zA2 aN (zt hw)) c2 c3 ?_;repeat' first|exact trivial|refine zJ ?_ ?_|refine zH fun hc=>?_);refine dA cY (by rw[cG,aK,rR hf,rR hc,gE,if_pos (aLv u)];rfl) ?_;refine zg ?_;exact bV rfl rfl
   ·rw[if_neg hw]at hY ⊢
    cases ho:mOf u p.text with
    |some o=>
     rw[ho]at hY;dsimp only at hY ⊢;obtain⟨j,k1,k2⟩:=aEw ho;have c5:=aFy o q (bOy hu ho) oq;by_cases hoq:o=q
     ·rw[zt hoq]at c5;rw[if_pos hoq]at hY ⊢;have cY:=hY u rfl;(refine zy3 (zA2 aN (zA2 (zf hw) (zA2 @nD.eq_1 (zA2 @aMt (zA2 @k1 @k2))))) c2 c3 c5 ?_;repeat' first|exact trivial|refine zJ ?_ ?_|refine zH fun hc=>?_);refine dA cY (by rw[cG,aK,rR hf,rR hc,gE,if_pos (aLv u)];rfl) ?_;refine zg ?_;exact bV rfl rfl
     ·rw[zf hoq]at c5;rw[if_neg hoq];(refine zy3 (zA2 aN (zA2 (zf hw) (zA2 @nD.eq_1 (zA2 @aMt (zA2 @k1 @k2))))) c2 c3 c5 ?_;repeat' first|exact trivial|refine zJ ?_ ?_|refine zH fun hc=>?_);all_goals exact bV rfl rfl
    |none=>
     rw[ho]at hY;dsimp only at hY ⊢;have k1:=aEx ho;have cY:=hY _ rfl;(refine zy2 (zA2 aN (zA2 (zf hw) (zA2 @nD.eq_1 (zA2 @aMt @k1)))) c2 c3 ?_;repeat' first|exact trivial|refine zJ ?_ ?_|refine zH fun hc=>?_);have c6:=fun h=>bXe u h;simp only[tmA]at c6;refine fM (c6 _) ?_;rintro r h' ⟨rfl,rfl⟩;refine zh (zA2 @nD.eq_1 (zA2 @aMt @k1)) ?_;refine dA cY ?_ ?_
     ·rw[cG,aK,rR hf,rR hc];refine zh @N1 ?_;simp[tmA,elT,aW,avt]
     refine zg ?_;exact bV rfl rfl
  ·rw[if_neg hat];rw[dD.2 hat]at c3;(refine zy2 aS c2 c3 ?_;repeat' first|exact trivial|refine zJ ?_ ?_|refine zH fun hc=>?_);all_goals exact bV rfl rfl
abbrev xH:Value:=.iface 138 (.agg #[])
def nT(l:List LSub):Prop:=∀u∈l,AscU u
def aRx(A:AF):Prop:=∀p t l b,nT l→nT (A p t l b).1
theorem qQ:nT []:=fun u hu=>by cases hu
theorem aOc{b:Bool}{l:List LSub}(h:nT l):nT (uM b l).1:=by
 rw[uM];split
 ·exact qQ
 ·exact h
theorem I6{s:dX}{v t:LTerm}{u:LSub}(h:AscU u):nT (oK s v t u):=by
 rw[oK];split
 ·split
  ·intro x hx;rw[aV.1 hx];exact h
  ·split
   ·split
    ·intro x hx;rw[aV.1 hx];exact h
    ·exact qQ
   ·rename_i hn;intro x hx;rw[aV.1 hx];exact bRw h hn
 ·exact qQ
theorem bAe{s:dX}{p t:LTerm}{u:LSub}(h:AscU u):nT (iT s p t u):=by
 rw[iT];split
 ·exact I6 h
 ·split
  ·intro x hx;rw[aV.1 hx];exact h
  ·exact qQ
theorem aOe{α:Type}{f:α→List LSub}{l:List α}(h:∀x∈l,nT (f x)):nT (l.flatMap f):=fun u hu=>by
 obtain⟨x,hx,h2⟩:=dV.1 hu;exact h x hx u h2
theorem aOi{s:dX}{p t:LTerm}{l:List LSub}{b:Bool}(h:nT l):nT (G3 s p t l b).1:=aOc (aOe fun u hu=>bAe (h u hu))
section
variable {A:AF} {s:dX} {key value:LTerm}
theorem uX(hA:aRx A):∀{ps ts:List LTerm} {l:List LSub} {b:Bool},nT l→nT (kG A ps ts l b).1
 | [],ts,l,b,h=>by rw[A7];exact h
 |p::ps,[],l,b,h=>h
 |p::ps,t::ts,l,b,h=>by rw[kG];exact uX hA (hA _ _ _ _ h)
def aHe(l:List nJ):Prop:=∀w∈l,AscU w.u
theorem bAc{w:nJ}{k:Nat}(h:AscU w.u):nT (mG s key w k):=by
 rw[mG];split
 ·exact I6 h
 ·split
  ·intro x hx;rw[aV.1 hx];exact h
  ·exact qQ
theorem aOh(hA:aRx A){w:nJ}{k:Nat}{b:Bool}(h:AscU w.u):aHe (uN A s key value w k b).1:=by
 intro x hx;rw[uN]at hx;obtain⟨u,hu,rfl⟩:=dS.1 hx;exact hA _ _ _ _ (bAc h) u hu
theorem aOf(hA:aRx A){w:nJ}(h:AscU w.u){b:Bool}:∀k,aHe (pF A s key value w k b).1
 |0=>fun x hx=>by cases hx
 |k+1=>by
  rw[pF];intro x hx;rcases bM.1 hx with h1|h1
  ·exact aOf hA h k x h1
  ·exact aOh hA h x h1
theorem aOg(hA:aRx A):∀{ws:List nJ} {b:Bool},aHe ws→aHe (rY A s key value ws b).1
 | [],b,h=>fun x hx=>by cases hx
 |w::ws,b,h=>by
  rw[rY];intro x hx;rcases bM.1 hx with h1|h1
  ·exact aOf hA (h w (by simp)) _ x h1
  ·exact aOg hA (fun w hw=>h w (by simp[hw])) x h1
theorem bAd(hA:aRx A){ws:List nJ}{b:Bool}(h:aHe ws):aHe (qZ A s key value ws b).1:=by
 rw[qZ];split
 ·exact fun x hx=>by cases hx
 ·exact aOg hA h
theorem aOd(hA:aRx A){p:LTerm}{r:List nJ×Bool}(h:aHe r.1):∀k,aHe (pT A s p k r).1
 |0=>h
 |k+1=>by rw[pT];exact bAd hA (aOd hA h k)
theorem bRp{p:LTerm}{w:nJ}(h:AscU w.u):nT (G2 s p w):=by
 rw[G2];split
 ·exact I6 h
 ·split
  ·intro x hx;rw[aV.1 hx];exact h
  ·exact qQ
theorem bAb(hA:aRx A){p t:LTerm}{l:List LSub}{b:Bool}(h:nT l):nT (mF A s p t l b).1:=by
 rw[mF];refine aOc (aOe fun w hw=>bRp (aOd hA (fun x hx=>?_) _ w hw));obtain⟨u,hu,rfl⟩:=dS.1 hx;exact h u hu
end
theorem xM{s:dX}:∀n,aRx (fJ s n)
 |0=>fun p t l b h=>qQ
 |n + 1=>fun p t l b h=>by
  have hA:=xM (s:=s) n;rw[fJ];split
  ·split
   ·exact uX hA h
   ·exact qQ
  split
  ·split
   ·split
    ·exact aOi (uX hA h)
    ·exact uX hA h
   ·exact qQ
  split
  ·split
   ·exact bAb hA h
   ·exact qQ
  exact aOi h
theorem bKj(l:List LSub): aHj Tryz.prog G0 169 [avw l] (avw l) (decide (1000<l.length)) xH:=by
 refine lG (rx:=false) (th:=fun _=>none) cZ Tryz.func169 rfl (by kernel_rfl) (by kernel_rfl) (ac:=?_) ?_ g0 ?_;rotate_left
 ·simp only[strip,lI,eS,lH,RX.off,ckF,ckX,zOf,exd,vOf,aD,aC,bD,bC,aF,bA,aM,aF,bS,bY,dR,fT,bB,bI,aJ,aH,dZ,anyPre,Region.binds,aN,aS,aE,if_true,if_false,aX,aU,aI,aO,aZ,aK,aD,aC,List.append_nil];rfl
 ·simp -implicitDefEqProofs (disch:=omega) only[Tryz.f169,go_sem,List.replicate,simprocAttr,avw];by_cases h:(1000:Int)<((l.length:Nat):Int)
  ·have h':1000<l.length:=by omega
   refine zh (zt h) ?_;(refine zx0 (zt h) ?_;repeat' first|exact trivial|refine zJ ?_ ?_|refine zH fun hc=>?_);simp -implicitDefEqProofs only[Tryz.underlying138,go_sem];exact zt h'
  ·have h':¬1000<l.length:=by omega
   refine zh (zf h) ?_;(refine zx0 (zf h) ?_;repeat' first|exact trivial|refine zJ ?_ ?_|refine zH fun hc=>?_);exact⟨zf h',.inl ⟨rfl,uG l⟩⟩
theorem bGd{s:dX}{p t:LTerm}{u:LSub}{b:Bool}(h:(yV s p t u).2=b):iT s p t u=if b=true then [(yV s p t u).1]else []:=by rw[aFa,h]
theorem aBl(s:dX)(l:List LSub)(p t:LTerm)(m:Nat)(hm:Small s)(hl:l.length≤1000)(hu:F3 m l)(ha:nT l)(hmm:m≤1000000)(op:OkT p)(ot:OkT t)(h5:¬p.kind=5)(h7:¬p.kind=7)(h8:¬p.kind=8): CT 103 [.agg [cM s],avw l,elT p,elT t] (avw (l.flatMap (iT s p t))):=by
 refine eG cZ Tryz.func103 g0 ?_
 ·simp -implicitDefEqProofs (disch:=omega) only[Tryz.f103,go_sem,List.replicate,simprocAttr,avw,elT,aW];refine zh (zA2 (zf h5) (zA2 (zf h7) (zf h8))) ?_;refine dF (fun(q:Nat×AV×List AObj)=>(rp 9 .k (.v (q.2.1)::.k::.j::.j::.j::(rp 20 .k (.v (.i .i64 (q.1:Nat))::(rp 17 .j [.k,.k])))))) (fun q=>(.box false [cM s]::.box false (tmC p)::.box false (tmC t)::q.2.2)) (fun q=>q.1≤l.length∧jI 1 3 q.2.2 q.2.1 (((l.take q.1).flatMap (iT s p t)).map avu) ((l.take q.1).flatMap (iT s p t)).length) (fun q=>l.length-q.1) ((0,.e0,[])) ⟨bJ _,kX⟩ rfl (by simp[hZ]) ?_;rintro⟨k,out,g⟩ j ⟨hk,ho⟩;dsimp only at hk ho;by_cases hlt:k<l.length
  ·have hki:(k:Int)<((l.length:Nat):Int):=by omega
   have hmm':=cT (d:=default) hlt;have hfl:=rF (s:=s) (p:=p) (t:=t) (l:=l.take k);rw[List.length_take]at hfl;have hsucc:=qJ (f:=iT s p t) (d:=default) hlt;have hum:=(hu _ hmm').mono hmm;have cb:=bKk s (l.getD k default) p t hm (ha _ hmm') hum op ot;generalize hL:yV s p t (l.getD k default)=L at *
   obtain⟨v,fl⟩:=L;have e1:=bGd (s:=s) (p:=p) (t:=t) (u:=l.getD k default) (b:=fl) (by rw[hL]);rw[hL]at e1;cases fl with
   |true=>
    refine zh (zA2 (zt hki) @avu.eq_1) ?_;(refine zy1 (zA2 (zt hki) @avu.eq_1) cb ?_;repeat' first|exact trivial|refine zJ ?_ ?_|refine zH fun hc=>?_);refine gM (pre:=[_,_,_]) (news:=[.sl (v.flatMap prT) (List.length v)]) (m:=1) ho rfl rfl bWl bSp bTz cAf rfl (by decide) (by simp -implicitDefEqProofs (disch:=omega) only[go_sem,simprocAttr]) (by simp -implicitDefEqProofs (disch:=omega) only[go_sem,simprocAttr]) ⟨by omega,by omega⟩ ?_;intro out' g' ho' _;refine zg ?_;refine⟨(k+1,out',g'),⟨by dsimp only;omega,?_⟩,by dsimp only;omega,rfl,by simp⟩;dsimp only;rw[hsucc,e1,cG,List.length_append];exact ho'
   |false=>
    refine zh (zA2 (zt hki) @avu.eq_1) ?_;(refine zy1 (zA2 (zt hki) @avu.eq_1) cb ?_;repeat' first|exact trivial|refine zJ ?_ ?_|refine zH fun hc=>?_);refine⟨(k+1,out,g),⟨by dsimp only;omega,?_⟩,by dsimp only;omega,rfl,by simp⟩;dsimp only;rw[hsucc,e1,if_neg (by simp),List.append_nil];exact ho
  ·have hki:¬(k:Int)<((l.length:Nat):Int):=by omega
   rw[bE (by omega)]at ho;have hfl:=rF (s:=s) (p:=p) (t:=t) (l:=l);have ct:=(bKj (l.flatMap (iT s p t))).1 (zf (by omega));refine zh (zf hki) ?_;obtain⟨k1,g',k2,k3⟩:=rZ (pre:=[.box false [cM s],.box false (tmC p),.box false (tmC t)]) ho M8;simp only[aH,aJ,cM]at k1;refine dA ct (by rw[aK,aZ,k1];rfl) ?_;generalize gU (avw (l.flatMap (iT s p t))) _ _=H;rw[show ∀H,mat (avw (l.flatMap (iT s p t))) H=(avw (l.flatMap (iT s p t)),H)from fun H=>rfl];refine zg ?_;trace_state;exact .inl ⟨rfl,uG _⟩
theorem B4:∀{l:List Bool},persL (l.map AV.b)=true
 | []=>rfl
 |b::l=>by rw[aK,persL,B4];rfl
attribute [go_sem] B4
theorem bKg(l:List Bool)(hl:l.length≤1000000): CT 204 [.sl (l.map .b) l.length] (.own 1 (l.map .b) l.length):=by
 refine bQ cZ Tryz.func204 g0 ?_
 ·skip;have b1:(l.length≤140737488355328)=True:=eq_true (by omega);refine bJh (fun h=>?_) ?_
  ·have:l=[]:=List.eq_nil_of_length_eq_zero h;subst this;refine zg ?_;(refine zs0 ?_;repeat' first|exact trivial|refine zJ ?_ ?_|refine zH fun hc=>?_);all_goals exact .inr ⟨⟨rfl,rfl⟩,fI,fun i hi=>by cases hi⟩
  ·refine zh b1 ?_;(refine zx0 b1 ?_;repeat' first|exact trivial|refine zJ ?_ ?_|refine zH fun hc=>?_);trace_state;exact .inr ⟨⟨rfl,rfl,_,rfl,by simp,by rw[bG,bE (by simp)],B4⟩,by simp[dJ],by simp[dJ,kH]⟩
def vK(w:kU):List AV:=[avu w.u,.sl (w.tk.map .b) w.tk.length]
def bHl(l:List kU):AV:=.sl (l.flatMap vK) l.length
theorem aSt(w:kU):(vK w).length=2:=rfl
theorem aUp(w:kU):persL (vK w)=true:=by rw[vK,persL,bJa,aI,persL,aA];exact⟨B4,rfl⟩
theorem vQ{l:List kU}:persL (l.flatMap vK)=true:=nA fun x _=>aUp x
theorem aDb{l:List kU}:(l.flatMap vK).length=l.length*2:=sF aSt l
theorem bLz{l:List kU}{k:Nat}(h:k<l.length):((l.flatMap vK).drop (k*2)).take 2=vK (l.getD k default):=by
 rw[vZ aSt];simp[h,List.getD]
theorem cFr{l:List Bool}{k:Nat}(h:k<l.length):(l.map AV.b)[k]? = some (.b (l.getD k false)):=by
 rw[eV,bL h,fN,bL h];rfl
attribute [go_sem] bLz aDb vQ aUp cFr
theorem bNu(l:List kU):pers (bHl l)=true:=vQ
def bSf(s:dX)(n:Nat)(p:LTerm):Prop:=
 ∀(t:LTerm) (l:List LSub) (m:Nat),OkN t→gI s t=true→nodesT t≤1000000→F3 m l→nT l→l.length≤1000→m+nodesT p≤1000000 →
  aHj Tryz.prog G0 103 [.agg [cM s],avw l,elT p,elT t] (avw (fJ s n p t l false).1) (fJ s n p t l false).2 xH
theorem I0:∀{ks:List LTerm} {tk:List Bool} {x:LTerm},x∈leftOf ks tk→x∈ks
 |a :: b::l,y::tk,x,h=>by
  rw[leftOf]at h;split at h
  ·exact cJ _ (cJ _ (I0 h))
  ·rcases cH.1 h with rfl|h
   ·simp
   ·rcases cH.1 h with rfl|h
    ·simp
    ·exact cJ _ (cJ _ (I0 h))
 | [],_,x,h=>by simp[leftOf]at h
 | [a],_,x,h=>by simp[leftOf]at h
 |a::b::l,[],x,h=>by simp[leftOf]at h
theorem aSh{t:LTerm}{m:Nat}{w:kU}(hu:OkU m w.u)(hl:t.kids.length=2*w.tk.length):OkW t m (jQ t.kids w):=by
 have h1:=yT hl;have h2:=aYz (k:=w.tk.length) (tk:=w.tk);refine⟨hu,?_,fun x hx=>I0 hx,?_⟩
 ·show(leftOf t.kids w.tk).length % 2=0;omega
 ·show(leftOf t.kids w.tk).length≤_;omega
theorem bZx{i:Nat}{tk:List Bool}(hi:i<tk.length)(hx:tk.getD i false=false):cntF i tk+1≤cntF tk.length tk:=by
 have h1:=zN hi;rw[hx,if_neg (by simp)]at h1;have mono:∀j,i+1+j≤tk.length→cntF (i+1) tk≤cntF (i+1+j) tk:=by
  intro j;induction j with
  |zero=>intro _;exact bK _
  |succ j ih=>intro hj;have:=zN (k:=i+1+j) (tk:=tk) (by omega);have:=ih (by omega);rw[show i+1+(j+1)=i+1+j+1 by omega];omega
 have:=mono (tk.length-(i+1)) (by omega);rw[show i+1+(tk.length-(i+1))=tk.length by omega]at this;omega
section
variable {A:AF} {s:dX} {key value t:LTerm}
theorem aEe{m:Nat}{w:kU}{b:Bool}(hA:AOk A value)(hu:OkU m w.u)(hl:t.kids.length=2*w.tk.length)(ht:OkN t){i:Nat}(hi:i≤w.tk.length):(kZ A s key value t.kids w i b).1.length≤w.tk.length*1000:=by
 have e:=N7 (A:=A) (s:=s) (key:=key) (value:=value) (b:=b) hl hi;have hw:=aSh hu hl;have h1:=yT hl;have mono:cntF i w.tk≤cntF w.tk.length w.tk:=by
  have m1:∀j,i+j≤w.tk.length→cntF i w.tk≤cntF (i+j) w.tk:=by
   intro j;induction j with
   |zero=>intro _;exact bK _
   |succ j ih=>intro hj;have:=zN (k:=i+j) (tk:=w.tk) (by omega);have:=ih (by omega);rw[show i+(j+1)=i+j+1 by omega];omega
  have:=m1 (w.tk.length-i) (by omega);rwa[show i+(w.tk.length-i)=w.tk.length by omega]at this
 have h2:=(aJo (s:=s) (key:=key) hA hw ht (cntF i w.tk) b (by show 2*cntF i w.tk≤(leftOf t.kids w.tk).length;omega)).2;rw[← e]at h2;simp only[dP]at h2;have:=aYz (k:=w.tk.length) (tk:=w.tk);have h3:cntF i w.tk*1000≤w.tk.length*1000:=by omega
 omega
theorem W7(hA:pU A){w:kU}{b:Bool}{i:Nat}(h:(kZ A s key value t.kids w i b).2=true):∀j,(kZ A s key value t.kids w (i+j) b).2=true
 |0=>h
 |j + 1=>by
  have ih:=W7 hA h j;rw[show i+(j+1)=i+j+1 by omega,kZ];split
  ·exact ih
  ·show(uN A s key value _ _ _).2=true;rw[ih];exact hA _ _ _
theorem aUy(hA:pU A){w:kU}{b:Bool}{i:Nat}(hi:i≤w.tk.length)(h:(kZ A s key value t.kids w i b).2=true):(kZ A s key value t.kids w w.tk.length b).2=true:=by
 have:=W7 hA h (w.tk.length-i);rwa[show i+(w.tk.length-i)=w.tk.length by omega]at this
theorem bDv{w:kU}{i:Nat}{b:Bool}(hl:t.kids.length=2*w.tk.length)(hi:i<w.tk.length)(hx:w.tk.getD i false=false){l0:List LSub}
 (h0:l0=match T5 key w.u with|none=>oK s key (t.kids.getD (2*i) default) w.u|some a=>if a=t.kids.getD (2*i) default then [w.u]else []) :
 S9 A s key value t.kids w i b=((A value (t.kids.getD (2*i+1) default) l0 b).1.map fun v=>⟨v,w.tk.set i true⟩,(A value (t.kids.getD (2*i+1) default) l0 b).2):=by
 obtain⟨a1,a2,_⟩:=left_at hl hi hx;have hs:mG s key (jQ t.kids w) (cntF i w.tk)=l0:=by
  rw[h0];cases hK:T5 key w.u with
  |none=>rw[aPj (w:=jQ t.kids w) hK];dsimp only[jQ];rw[a1]
  |some a=>rw[aPi (w:=jQ t.kids w) hK];simp only[jQ,a1]
 rw[S9,uN,hs];dsimp only[jQ];rw[a2,wP];rfl
end
theorem I1{pre g:List AObj}{i n sz:Nat}{fz:Bool}{cells:List AV}(hi:g[i]? = some (.arr fz sz cells))(hl:cells.length=n*sz)(hp:persL cells=true) :
 gZ dep (pre++g) (.hs (i+pre.length) 0 n false)=.sl cells n∧Vo.freeze (eH dep (pre++g) (.hs (i+pre.length) 0 n false)) (pre++g)=pre++g.modify i AObj.fz:=by
 have hlt:=bP hi;have hg:(pre++g)[i+pre.length]? = some (.arr fz sz cells):=by
  rw[aR (by omega)];simpa using hi
 have hd:(cells.drop 0).take (n*sz)=cells:=by rw[bG,bE (by omega)]
 have he:cells.all aNj=true:=by
  rw[bF];intro a ha;obtain⟨j,hj⟩:=cW.1 ha;have:=iN hp j a hj;cases a<;>first|rfl|exact this
 refine⟨?_,?_⟩
 ·simp only[gE,pers,rQ,hg,hd,hp,if_true,aE,if_false];rw[if_pos (by omega)]
 ·rw[yI,hg];simp only[hsQ,he,if_true,Vo.freeze];apply oP;intro j;by_cases hj:j<pre.length
  ·rw[gQ,aG hj,aG hj];have:¬i+pre.length=j:=by omega
   simp[this]
  ·rw[gQ,aR (by omega),aR (by omega),gQ];have:(i+pre.length=j)=(i=j-pre.length):=propext ⟨fun h=>by omega,fun h=>by omega⟩;simp only[this]
theorem xG{g:List AObj}{x:AObj}:(g++[x]).modify g.length AObj.fz=g++[x.fz]:=by
 apply oP;intro j;rw[gQ];rcases U5 j g.length with h|h|h
 ·rw[aG h,aG h];have:¬g.length=j:=by omega
  simp[this]
 ·subst h;simp
 ·rw[iQ (by simp;omega),iQ (by simp;omega)];rfl
theorem aDg{tk:List Bool}{i:Nat}(h:i<tk.length):(tk.take i).map AV.b++.b true::(tk.drop (i+1)).map AV.b=(tk.set i true).map .b:=by
 rw[sQ,if_pos h];simp
theorem bWk(s : dX)(n:Nat)(key value t:LTerm)(w:kU)(m:Nat)(hm:Small s)(hA:bSf s n value)(ht:OkN t)(hpl:∀x∈t.kids,gI s x=true)(hnk:∀x∈t.kids,nodesT x≤1000000)(htl:t.kids.length≤1000000)(hkk:OkT key)(hu:OkU m w.u)(ha:AscU w.u)(hl:t.kids.length=2*w.tk.length)(hmm:m+1+nodesT value≤1000000): aHj Tryz.prog G0 260 [.agg [cM s],.agg (vK w),elT key,elT value,elT t] (bHl (kZ (fJ s n) s key value t.kids w w.tk.length false).1) (kZ (fJ s n) s key value t.kids w w.tk.length false).2 xH:=by
 refine lG (rx:=true) (th:=fun i=>if i=16 then some ⟨none,[],false,false,true,[],[],1000⟩else if i=21 then some ⟨none,[],false,false,true,[],[],1000⟩else none) cZ Tryz.func260 rfl (by kernel_rfl) (by kernel_rfl) (ac:=?_) ?_ g0 ?_;rotate_left
 ·simp only[strip,lI,eS,lH,RX.off,ckF,ckX,zOf,exd,vOf,aD,aC,bD,bC,aF,bA,aM,aF,bS,bY,dR,fT,bB,bI,aJ,aH,dZ,anyPre,Region.binds,aN,aS,aE,if_true,if_false,aX,aU,aI,aO,aZ,aK,aD,aC,List.append_nil,aNu,xE,sV,sB,cR,bT,bZ,aF,bD,bC,cU,beq_self_eq_true,fZ,Nat.reduceBEq,rC,qI,rA,kK,aJf,fC,gJ,bS,eZ,aAv,aAu,↓reduceIte,Nat.reduceEqDiff,Nat.reduceBEq,mY,oC,oX,splitK,xI,G6,aC,fC,gJ,aN,aS,bA,aI,aM,bD,bC];rfl
 ·simp -implicitDefEqProofs (disch:=omega) only[Tryz.f260,go_sem,List.replicate,simprocAttr,vK,avu,elT,aW];have c0:=aYo w.u key.text ha (by have:=hu.1;omega);refine bSy (rp 12 .k (.v (.b (T5 key w.u).isNone)::.j::(rp 12 .k (rp 10 .j (rp 65 .k []))))) (.box false [cM s]::.box false (vK w)::.box false (tmC key)::.box false (tmC value)::.box false (tmC t)::.box false [.i .i64 (((T5 key w.u).getD zT)).kind,.i .i64 (((T5 key w.u).getD zT)).n,.s (((T5 key w.u).getD zT)).text,.s (((T5 key w.u).getD zT)).sort,.sl ((((T5 key w.u).getD zT)).kids.flatMap aP) (((T5 key w.u).getD zT)).kids.length,.sl ((((T5 key w.u).getD zT)).rest.flatMap aP) (((T5 key w.u).getD zT)).rest.length]::[]) ?_ ?_
  ·by_cases h6:key.kind=6
   ·have hko:T5 key w.u=mOf w.u key.text:=if_pos h6;cases hO:mOf w.u key.text with
    |none=>
     rw[hO,T3,elT,aW]at c0;simp -implicitDefEqProofs (disch:=omega) only[zt h6,avu,hko,hO,vK,aX,aCp,go_sem,simprocAttr];(repeat'(first|refine gT ?_ ?_|refine gF ?_ ?_|refine gC ?_ ?_|((refine dA (c0) ?_ ?_;(focus(simp -implicitDefEqProofs (disch:=omega) only[zt h6,avu,hko,hO,vK,aX,aCp,zdB,go_sem,simprocAttr];done)));simp -implicitDefEqProofs (disch:=omega) only[zt h6,avu,hko,hO,vK,aX,aCp,go_sem,simprocAttr])|refine bX (by omega) ?_|(intro hr;have hc:=hr;(try simp only[zdz]at hc);simp -implicitDefEqProofs (disch:=omega) only[hr,zt h6,avu,hko,hO,vK,aX,aCp,go_sem,simprocAttr];(try clear hr))));all_goals rfl
    |some a=>
     rw[hO,T3,elT,aW]at c0;simp -implicitDefEqProofs (disch:=omega) only[zt h6,avu,hko,hO,vK,aU,gB,go_sem,simprocAttr];(repeat'(first|refine gT ?_ ?_|refine gF ?_ ?_|refine gC ?_ ?_|((refine dA (c0) ?_ ?_;(focus(simp -implicitDefEqProofs (disch:=omega) only[zt h6,avu,hko,hO,vK,aU,gB,zdB,go_sem,simprocAttr];done)));simp -implicitDefEqProofs (disch:=omega) only[zt h6,avu,hko,hO,vK,aU,gB,go_sem,simprocAttr])|refine bX (by omega) ?_|(intro hr;have hc:=hr;(try simp only[zdz]at hc);simp -implicitDefEqProofs (disch:=omega) only[hr,zt h6,avu,hko,hO,vK,aU,gB,go_sem,simprocAttr];(try clear hr))));all_goals rfl
   ·have hko:T5 key w.u=some key:=if_neg h6;simp -implicitDefEqProofs (disch:=omega) only[zf h6,hko,vK,avu,aU,gB,go_sem,simprocAttr]
  intro j2;simp -implicitDefEqProofs (disch:=omega) only[vK,avu,go_sem,simprocAttr];have hBo:∀a,T5 key w.u=some a→(T5 key w.u).getD zT=a:=fun a h=>by rw[h];rfl
  generalize (T5 key w.u).getD zT=B at *
  refine dF (fun(q:Nat×AV×List AObj)=>(rp 14 .k (.v (q.2.1)::.j::.j::.j::.j::.k::.j::.j::(rp 17 .k (.v (.i .i64 (q.1:Nat))::(rp 60 .j [.k])))))) (fun q=>(.box false [cM s]::.box false [.sl (w.u.flatMap prT) w.u.length,.sl (w.tk.map .b) w.tk.length]::.box false (tmC key)::.box false (tmC value)::.box false (tmC t)::.box false (tmC B)::q.2.2)) (fun q=>q.1≤w.tk.length∧(kZ (fJ s n) s key value t.kids w q.1 false).2=false∧jI 2 6 q.2.2 q.2.1 ((kZ (fJ s n) s key value t.kids w q.1 false).1.flatMap vK) (kZ (fJ s n) s key value t.kids w q.1 false).1.length) (fun q=>w.tk.length-q.1) ((0,.e0,[])) ⟨bJ _,rfl,kX⟩ rfl (by simp[hZ]) ?_;rintro⟨i,out,g⟩ j ⟨hi,hb,ho⟩;dsimp only at hi hb ho;by_cases hlt:i<w.tk.length
  ·have hii:(i:Int)<((w.tk.length:Nat):Int):=by omega
   have hit:2*i<t.kids.length:=by omega
   have hit':2*i+1<t.kids.length:=by omega
   have hm0:=cT (d:=default) hit;have hm1:=cT (d:=default) hit';have h2i:((2:Int)*(i:Int)).toNat=2*i:=by omega
   have h2i':((2:Int)*(i:Int)+1).toNat=2*i+1:=by omega
   have hNl:=aEe (A:=fJ s n) (s:=s) (key:=key) (value:=value) (b:=false) (sZ n value) hu hl ht hi;have hst:=aLc (s:=s) (key:=key) (aSh hu hl) ht (k:=cntF i w.tk);cases hx:w.tk.getD i false with
   |true=>
    have e:kZ (fJ s n) s key value t.kids w (i+1) false=kZ (fJ s n) s key value t.kids w i false:=by rw[kZ,if_pos hx]
    simp -implicitDefEqProofs (disch:=omega) only[zt hii,hx,go_sem,simprocAttr];repeat refine bX (by omega) ?_
    refine⟨(i+1,out,_),⟨by dsimp only;omega,by dsimp only;rw[e];exact hb,by dsimp only;rw[e];exact ho.more _⟩,by dsimp only;omega,rfl,?_⟩;simp
   |false =>
    have e:kZ (fJ s n) s key value t.kids w (i+1) false=((kZ (fJ s n) s key value t.kids w i false).1++(S9 (fJ s n) s key value t.kids w i false).1,(S9 (fJ s n) s key value t.kids w i false).2):=by
     rw[kZ,if_neg (by rw[hx];simp),hb]
    have hend:=fun h=>aUy (A:=fJ s n) (s:=s) (key:=key) (value:=value) (t:=t) (w:=w) (b:=false) (i:=i+1) (aKd n) (by omega) h;rw[e]at hend;have e1:=fun l0 h=>bDv (A:=fJ s n) (s:=s) (key:=key) (value:=value) (t:=t) (w:=w) (i:=i) (b:=false) hl hlt hx (l0:=l0) h;generalize hN:kZ (fJ s n) s key value t.kids w i false=N at *
    obtain⟨NL,bN⟩:=N;dsimp only at ho e hNl hb hend;subst hb;cases hK:T5 key w.u with
    |none=>
     have h6:key.kind=6:=by
      by_cases h:key.kind=6
      ·exact h
      ·rw[T5,if_neg h]at hK;cases hK
     have ck:=aBl s [w.u] key (t.kids.getD (2*i) default) m hm (by simp) (fun u h=>by rw[aV.1 h];exact hu) (fun u h=>by rw[aV.1 h];exact ha) (by omega) hkk (ht.kid hm0).1 (by omega) (by omega) (by omega);have hb0:[w.u].flatMap (iT s key (t.kids.getD (2*i) default))=oK s key (t.kids.getD (2*i) default) w.u:=by rw[List.flatMap_cons,List.flatMap_nil,List.append_nil,iT,if_pos h6]
     rw[hb0]at ck;simp only[hK];simp -implicitDefEqProofs (disch:=omega) only[zt hii,hx,h2i,aX,aN,go_sem,simprocAttr];repeat refine bX (by omega) ?_
     refine aBp (fun fz=>.box false [cM s]::.box false [.sl (w.u.flatMap prT) w.u.length,.sl (w.tk.map .b) w.tk.length]::.box false (tmC key)::.box false (tmC value)::.box false (tmC t)::.box false (tmC B)::(g++[.box false [.i .i64 ((t.kids.getD (2*i) default)).kind,.i .i64 ((t.kids.getD (2*i) default)).n,.s ((t.kids.getD (2*i) default)).text,.s ((t.kids.getD (2*i) default)).sort,.sl (((t.kids.getD (2*i) default)).kids.flatMap aP) ((t.kids.getD (2*i) default)).kids.length,.sl (((t.kids.getD (2*i) default)).rest.flatMap aP) ((t.kids.getD (2*i) default)).rest.length],.arr fz 1 [.sl (w.u.flatMap prT) w.u.length]])) (aYl xH ck) (fun H=>rfl) ?_ rfl ?_ (fun h=>by cases h) ?_
     ·simp -implicitDefEqProofs (disch:=omega) only[avw,avu,elT,aW,cM,go_sem,simprocAttr]
     ·simp -implicitDefEqProofs (disch:=omega) only[go_sem,simprocAttr]
     intro fz0 _;simp -implicitDefEqProofs (disch:=omega) only[avw,go_sem,simprocAttr];obtain⟨ok0,oa0,ol0⟩:F3 (m+1) (oK s key (t.kids.getD (2*i) default) w.u)∧nT (oK s key (t.kids.getD (2*i) default) w.u)∧(oK s key (t.kids.getD (2*i) default) w.u).length≤1000:=⟨aBs hu (ht.kid hm0).1,I6 ha,by have:=I5 (s:=s) (v:=key) (t:=t.kids.getD (2*i) default) (u:=w.u);omega⟩;have hP:=e1 (oK s key (t.kids.getD (2*i) default) w.u) (by rw[hK]);have cA:=hA (t.kids.getD (2*i+1) default) (oK s key (t.kids.getD (2*i) default) w.u) (m+1) (ht.kid hm1) (hpl _ hm1) (hnk _ hm1) ok0 oa0 ol0 hmm;have hRl:=(sZ (s:=s) n value (t.kids.getD (2*i+1) default) (oK s key (t.kids.getD (2*i) default) w.u) false (m+1) (ht.kid hm1) ok0 ol0).2;rw[hP]at e hend;dsimp only at e hend;generalize hR:fJ s n value (t.kids.getD (2*i+1) default) (oK s key (t.kids.getD (2*i) default) w.u) false=R at *
     refine aGq (rx:=.off) (N:=⟨0,[]⟩) cZ 10 2 82 (.int .i64 0) _ rfl (by kernel_rfl) rfl rfl rfl rfl (al:=?_) (al2:=?_) ?_ ?_ (fun v e e' h k=>k) ?_;rotate_left 2
     ·simp only[strip,lI,eS,lH,RX.off,ckF,ckX,zOf,exd,vOf,aD,aC,bD,bC,aF,bA,aM,aF,bS,bY,dR,fT,bB,bI,aJ,aH,dZ,anyPre,Region.binds,aN,aS,aE,if_true,if_false,aX,aU,aI,aO,aZ,aK,aD,aC,List.append_nil,aL,bR,aT,bG,Nat.reduceAdd];rfl
     ·simp only[strip,lI,eS,lH,RX.off,ckF,ckX,zOf,exd,vOf,aD,aC,bD,bC,aF,bA,aM,aF,bS,bY,dR,fT,bB,bI,aJ,aH,dZ,anyPre,Region.binds,aN,aS,aE,if_true,if_false,aX,aU,aI,aO,aZ,aK,aD,aC,List.append_nil,aL,bR,aT,bG,Nat.reduceAdd];rfl
     simp -implicitDefEqProofs (disch:=omega) only[h2i',go_sem,simprocAttr];repeat refine bX (by omega) ?_
     refine aBp (fun _=>.box false [cM s]::.box false [.sl (w.u.flatMap prT) w.u.length,.sl (w.tk.map .b) w.tk.length]::.box false (tmC key)::.box false (tmC value)::.box false (tmC t)::.box false (tmC B)::(g++[.box false [.i .i64 ((t.kids.getD (2*i) default)).kind,.i .i64 ((t.kids.getD (2*i) default)).n,.s ((t.kids.getD (2*i) default)).text,.s ((t.kids.getD (2*i) default)).sort,.sl (((t.kids.getD (2*i) default)).kids.flatMap aP) ((t.kids.getD (2*i) default)).kids.length,.sl (((t.kids.getD (2*i) default)).rest.flatMap aP) ((t.kids.getD (2*i) default)).rest.length],.arr fz0 1 [.sl (w.u.flatMap prT) w.u.length]])) cA (fun H=>rfl) ?_ rfl ?_ (fun hb=>⟨hend hb,rfl⟩) ?_
     ·simp -implicitDefEqProofs (disch:=omega) only[avw,avu,elT,aW,cM,go_sem,simprocAttr]
     ·simp -implicitDefEqProofs (disch:=omega) only[go_sem,simprocAttr]
     intro fz hb1;simp -implicitDefEqProofs (disch:=omega) only[avw,go_sem,simprocAttr];refine dF (fun(q:Nat×AV×List AObj)=>(rp 14 .k (.v (q.2.1)::(rp 5 .k (.j::.j::(rp 60 .k (.v (.i .i64 (q.1:Nat))::(rp 16 .j [.k,.k])))))))) (fun q=>(.box false [cM s]::.box false [.sl (w.u.flatMap prT) w.u.length,.sl (w.tk.map .b) w.tk.length]::.box false (tmC key)::.box false (tmC value)::.box false (tmC t)::.box false (tmC B)::q.2.2)) (fun q=>q.1≤R.1.length∧jI 2 6 q.2.2 q.2.1 ((NL++(R.1.take q.1).map fun v=>(⟨v,w.tk.set i true⟩:kU)).flatMap vK) (NL++(R.1.take q.1).map fun v=>(⟨v,w.tk.set i true⟩:kU)).length) (fun q=>R.1.length-q.1) ((0,out,_)) ⟨bJ _,by simpa using ho.more _⟩ rfl (by simp[hZ]) ?_;rintro⟨c,out3,g3⟩ j4 ⟨hc5,ho3⟩;dsimp only at hc5 ho3;by_cases hct:c<R.1.length
     ·have hci:(c:Int)<((R.1.length:Nat):Int):=by omega
      have hX:NL++(R.1.take (c+1)).map (fun v=>(⟨v,w.tk.set i true⟩:kU))=(NL++(R.1.take c).map fun v=>(⟨v,w.tk.set i true⟩:kU))++[⟨R.1.getD c default,w.tk.set i true⟩]:=by
       rw[fO (d:=default) hct,cG];simp only[bU,aK,aZ]
      have hbig:(NL++(R.1.take c).map fun v=>(⟨v,w.tk.set i true⟩:kU)).length≤2000000000000:=by
       rw[List.length_append,dP,List.length_take];omega
      have hlX:NL.length+(List.take (c+1) R.1).length=(NL++(R.1.take c).map fun v=>(⟨v,w.tk.set i true⟩:kU)).length+1:=by
       simp only[List.length_append,dP,List.length_take];omega
      have cc:=bKg w.tk (by omega);simp -implicitDefEqProofs (disch:=omega) only[zt hci,avu,go_sem,simprocAttr];repeat refine bX (by omega) ?_
      refine dA cc ?_ ?_
      ·simp -implicitDefEqProofs (disch:=omega) only[go_sem,simprocAttr]
      simp -implicitDefEqProofs (disch:=omega) only[go_sem,simprocAttr];repeat refine bX (by omega) ?_
      rw[aDg hlt];refine aZt 21 rfl ?_;obtain⟨k1,k3⟩:=I1 (pre:=[.box false [cM s],.box false [.sl (w.u.flatMap prT) w.u.length,.sl (w.tk.map .b) w.tk.length],.box false (tmC key),.box false (tmC value),.box false (tmC t),.box false (tmC B)]) (g:=g3++[.arr false 1 ((w.tk.set i true).map .b)]) (i:=g3.length) (n:=w.tk.length) (fz:=false) (sz:=1) (cells:=(w.tk.set i true).map .b) (by simp) (by simp) B4;rw[xG]at k3;simp only[aH,aJ,aQ,cB,cM,dM,Nat.reduceAdd]at k1 k3;rw[k1,k3];refine Z6 (al:=?_) ?_ ?_;rotate_left
      ·simp only[strip,lI,eS,lH,RX.off,ckF,ckX,zOf,exd,vOf,aD,aC,bD,bC,aF,bA,aM,aF,bS,bY,dR,fT,bB,bI,aJ,aH,dZ,anyPre,Region.binds,aN,aS,aE,if_true,if_false,aX,aU,aI,aO,aZ,aK,aD,aC,List.append_nil,aL,bR,aT,bG,Nat.reduceAdd];rfl
      simp -implicitDefEqProofs (disch:=omega) only[List.set,tE,fB,fP,List.append_nil,go_sem,simprocAttr];refine gM (pre:=[.box false [cM s],.box false [.sl (w.u.flatMap prT) w.u.length,.sl (w.tk.map .b) w.tk.length],.box false (tmC key),.box false (tmC value),.box false (tmC t),.box false (tmC B)]) (g:=g3++[.arr true 1 ((w.tk.set i true).map .b)]) (more:=[.arr false 2 ([.sl ((R.1.getD c default).flatMap prT) (R.1.getD c default).length,.sl ((w.tk.set i true).map .b) w.tk.length])]) (news:=[.sl ((R.1.getD c default).flatMap prT) (R.1.getD c default).length,.sl ((w.tk.set i true).map .b) w.tk.length]) (m:=1) ((ho3).more _) rfl (by simp -implicitDefEqProofs (disch:=omega) only[go_sem,simprocAttr]) bGc bBm bCc bHc rfl (by decide) (by simp -implicitDefEqProofs (disch:=omega) only[go_sem,simprocAttr]) (by simp -implicitDefEqProofs (disch:=omega) only[go_sem,simprocAttr]) ⟨by omega,by omega⟩ ?_;intro out' g' ho' _;simp -implicitDefEqProofs (disch:=omega) only[go_sem,simprocAttr];refine⟨(c+1,out',g'),⟨by dsimp only;omega,?_⟩,by dsimp only;omega,rfl,by simp⟩;dsimp only;rw[hX,List.flatMap_append,hlX,List.flatMap_cons,List.flatMap_nil,List.append_nil,vK,List.length_set];exact ho'
     ·have hci:¬(c:Int)<((R.1.length:Nat):Int):=by omega
      rw[bE (by omega)]at ho3;simp -implicitDefEqProofs (disch:=omega) only[zf hci,go_sem,simprocAttr];refine⟨(i+1,out3,g3),⟨by dsimp only;omega,by dsimp only;rw[e];exact hb1,by dsimp only;rw[e];exact ho3⟩,by dsimp only;omega,rfl,?_⟩;simp
    |some a=>
     have haK:OkT a:=by
      rw[T5]at hK;split at hK
      ·exact bJl hu hK
      ·cases hK;exact hkk
     have c3:=aFy B (t.kids.getD (2*i) default) (hBo a hK▸haK) (ht.kid hm0).1;obtain rfl:=hBo a hK;simp only[hK];by_cases hc:B=t.kids.getD (2*i) default
     ·rw[zt hc]at c3
      simp -implicitDefEqProofs (disch:=omega) only[zt hii,hx,h2i,aU,aS,go_sem,simprocAttr];repeat refine bX (by omega) ?_
      refine dA c3 ?_ ?_
      ·simp -implicitDefEqProofs (disch:=omega) only[elT,aW,go_sem,simprocAttr]
      simp -implicitDefEqProofs (disch:=omega) only[go_sem,simprocAttr];obtain⟨ok0,oa0,ol0⟩:F3 (m+1) ([w.u])∧nT ([w.u])∧([w.u]).length≤1000:=⟨fun u h=>by rw[aV.1 h];exact hu.mono (by omega),fun u h=>by rw[aV.1 h];exact ha,by simp⟩;have hP:=e1 ([w.u]) (by rw[hK];simp only[if_pos hc]);have cA:=hA (t.kids.getD (2*i+1) default) ([w.u]) (m+1) (ht.kid hm1) (hpl _ hm1) (hnk _ hm1) ok0 oa0 ol0 hmm;have hRl:=(sZ (s:=s) n value (t.kids.getD (2*i+1) default) ([w.u]) false (m+1) (ht.kid hm1) ok0 ol0).2;rw[hP]at e hend;dsimp only at e hend;generalize hR:fJ s n value (t.kids.getD (2*i+1) default) ([w.u]) false=R at *
      refine aGq (rx:=.off) (N:=⟨0,[]⟩) cZ 10 2 82 (.int .i64 0) _ rfl (by kernel_rfl) rfl rfl rfl rfl (al:=?_) (al2:=?_) ?_ ?_ (fun v e e' h k=>k) ?_;rotate_left 2
      ·simp only[strip,lI,eS,lH,RX.off,ckF,ckX,zOf,exd,vOf,aD,aC,bD,bC,aF,bA,aM,aF,bS,bY,dR,fT,bB,bI,aJ,aH,dZ,anyPre,Region.binds,aN,aS,aE,if_true,if_false,aX,aU,aI,aO,aZ,aK,aD,aC,List.append_nil,aL,bR,aT,bG,Nat.reduceAdd];rfl
      ·simp only[strip,lI,eS,lH,RX.off,ckF,ckX,zOf,exd,vOf,aD,aC,bD,bC,aF,bA,aM,aF,bS,bY,dR,fT,bB,bI,aJ,aH,dZ,anyPre,Region.binds,aN,aS,aE,if_true,if_false,aX,aU,aI,aO,aZ,aK,aD,aC,List.append_nil,aL,bR,aT,bG,Nat.reduceAdd];rfl
      simp -implicitDefEqProofs (disch:=omega) only[h2i',go_sem,simprocAttr];repeat refine bX (by omega) ?_
      refine aBp (fun fz=>.box false [cM s]::.box false [.sl (w.u.flatMap prT) w.u.length,.sl (w.tk.map .b) w.tk.length]::.box false (tmC key)::.box false (tmC value)::.box false (tmC t)::.box false (tmC B)::(g++[.box false [.i .i64 ((t.kids.getD (2*i) default)).kind,.i .i64 ((t.kids.getD (2*i) default)).n,.s ((t.kids.getD (2*i) default)).text,.s ((t.kids.getD (2*i) default)).sort,.sl (((t.kids.getD (2*i) default)).kids.flatMap aP) ((t.kids.getD (2*i) default)).kids.length,.sl (((t.kids.getD (2*i) default)).rest.flatMap aP) ((t.kids.getD (2*i) default)).rest.length],.arr fz 1 [.sl (w.u.flatMap prT) w.u.length]])) cA (fun H=>rfl) ?_ rfl ?_ (fun hb=>⟨hend hb,rfl⟩) ?_
      ·simp -implicitDefEqProofs (disch:=omega) only[avw,avu,elT,aW,cM,go_sem,simprocAttr]
      ·simp -implicitDefEqProofs (disch:=omega) only[go_sem,simprocAttr]
      intro fz hb1;simp -implicitDefEqProofs (disch:=omega) only[avw,go_sem,simprocAttr];refine dF (fun(q:Nat×AV×List AObj)=>(rp 14 .k (.v (q.2.1)::(rp 5 .k (.j::.j::(rp 60 .k (.v (.i .i64 (q.1:Nat))::(rp 16 .j [.k,.k])))))))) (fun q=>(.box false [cM s]::.box false [.sl (w.u.flatMap prT) w.u.length,.sl (w.tk.map .b) w.tk.length]::.box false (tmC key)::.box false (tmC value)::.box false (tmC t)::.box false (tmC B)::q.2.2)) (fun q=>q.1≤R.1.length∧jI 2 6 q.2.2 q.2.1 ((NL++(R.1.take q.1).map fun v=>(⟨v,w.tk.set i true⟩:kU)).flatMap vK) (NL++(R.1.take q.1).map fun v=>(⟨v,w.tk.set i true⟩:kU)).length) (fun q=>R.1.length-q.1) ((0,out,_)) ⟨bJ _,by simpa using ho.more _⟩ rfl (by simp[hZ]) ?_;rintro⟨c,out3,g3⟩ j4 ⟨hc5,ho3⟩;dsimp only at hc5 ho3;by_cases hct:c<R.1.length
      ·have hci:(c:Int)<((R.1.length:Nat):Int):=by omega
       have hX:NL++(R.1.take (c+1)).map (fun v=>(⟨v,w.tk.set i true⟩:kU))=(NL++(R.1.take c).map fun v=>(⟨v,w.tk.set i true⟩:kU))++[⟨R.1.getD c default,w.tk.set i true⟩]:=by
        rw[fO (d:=default) hct,cG];simp only[bU,aK,aZ]
       have hbig:(NL++(R.1.take c).map fun v=>(⟨v,w.tk.set i true⟩:kU)).length≤2000000000000:=by
        rw[List.length_append,dP,List.length_take];omega
       have hlX:NL.length+(List.take (c+1) R.1).length=(NL++(R.1.take c).map fun v=>(⟨v,w.tk.set i true⟩:kU)).length+1:=by
        simp only[List.length_append,dP,List.length_take];omega
       have cc:=bKg w.tk (by omega);simp -implicitDefEqProofs (disch:=omega) only[zt hci,avu,go_sem,simprocAttr];repeat refine bX (by omega) ?_
       refine dA cc ?_ ?_
       ·simp -implicitDefEqProofs (disch:=omega) only[go_sem,simprocAttr]
       simp -implicitDefEqProofs (disch:=omega) only[go_sem,simprocAttr];repeat refine bX (by omega) ?_
       rw[aDg hlt];refine aZt 21 rfl ?_;obtain⟨k1,k3⟩:=I1 (pre:=[.box false [cM s],.box false [.sl (w.u.flatMap prT) w.u.length,.sl (w.tk.map .b) w.tk.length],.box false (tmC key),.box false (tmC value),.box false (tmC t),.box false (tmC B)]) (g:=g3++[.arr false 1 ((w.tk.set i true).map .b)]) (i:=g3.length) (n:=w.tk.length) (fz:=false) (sz:=1) (cells:=(w.tk.set i true).map .b) (by simp) (by simp) B4;rw[xG]at k3;simp only[aH,aJ,aQ,cB,cM,dM,Nat.reduceAdd]at k1 k3;rw[k1,k3];refine Z6 (al:=?_) ?_ ?_;rotate_left
       ·simp only[strip,lI,eS,lH,RX.off,ckF,ckX,zOf,exd,vOf,aD,aC,bD,bC,aF,bA,aM,aF,bS,bY,dR,fT,bB,bI,aJ,aH,dZ,anyPre,Region.binds,aN,aS,aE,if_true,if_false,aX,aU,aI,aO,aZ,aK,aD,aC,List.append_nil,aL,bR,aT,bG,Nat.reduceAdd];rfl
       simp -implicitDefEqProofs (disch:=omega) only[List.set,tE,fB,fP,List.append_nil,go_sem,simprocAttr];refine gM (pre:=[.box false [cM s],.box false [.sl (w.u.flatMap prT) w.u.length,.sl (w.tk.map .b) w.tk.length],.box false (tmC key),.box false (tmC value),.box false (tmC t),.box false (tmC B)]) (g:=g3++[.arr true 1 ((w.tk.set i true).map .b)]) (more:=[.arr false 2 ([.sl ((R.1.getD c default).flatMap prT) (R.1.getD c default).length,.sl ((w.tk.set i true).map .b) w.tk.length])]) (news:=[.sl ((R.1.getD c default).flatMap prT) (R.1.getD c default).length,.sl ((w.tk.set i true).map .b) w.tk.length]) (m:=1) ((ho3).more _) rfl (by simp -implicitDefEqProofs (disch:=omega) only[go_sem,simprocAttr]) bGc bBm bCc bHc rfl (by decide) (by simp -implicitDefEqProofs (disch:=omega) only[go_sem,simprocAttr]) (by simp -implicitDefEqProofs (disch:=omega) only[go_sem,simprocAttr]) ⟨by omega,by omega⟩ ?_;intro out' g' ho' _;simp -implicitDefEqProofs (disch:=omega) only[go_sem,simprocAttr];refine⟨(c+1,out',g'),⟨by dsimp only;omega,?_⟩,by dsimp only;omega,rfl,by simp⟩;dsimp only;rw[hX,List.flatMap_append,hlX,List.flatMap_cons,List.flatMap_nil,List.append_nil,vK,List.length_set];exact ho'
      ·have hci:¬(c:Int)<((R.1.length:Nat):Int):=by omega
       rw[bE (by omega)]at ho3;simp -implicitDefEqProofs (disch:=omega) only[zf hci,go_sem,simprocAttr];refine⟨(i+1,out3,g3),⟨by dsimp only;omega,by dsimp only;rw[e];exact hb1,by dsimp only;rw[e];exact ho3⟩,by dsimp only;omega,rfl,?_⟩;simp
     ·rw[zf hc]at c3;have hP:=e1 [] (by rw[hK];simp only[if_neg hc]);rw[hP,aOr n]at e;dsimp only at e;rw[aZ,List.append_nil]at e;simp -implicitDefEqProofs (disch:=omega) only[zt hii,hx,h2i,aU,aS,go_sem,simprocAttr];repeat refine bX (by omega) ?_
      refine dA c3 ?_ ?_
      ·simp -implicitDefEqProofs (disch:=omega) only[elT,aW,go_sem,simprocAttr]
      simp -implicitDefEqProofs (disch:=omega) only[go_sem,simprocAttr];refine⟨(i+1,out,_),⟨by dsimp only;omega,by dsimp only;rw[e],by dsimp only;rw[e];exact ho.more _⟩,by dsimp only;omega,rfl,?_⟩;simp
  ·have hii:¬(i:Int)<((w.tk.length:Nat):Int):=by omega
   obtain rfl:i=w.tk.length:=by omega
   have hf:=bJy (pre:=[.box false [cM s],.box false [.sl (w.u.flatMap prT) w.u.length,.sl (w.tk.map .b) w.tk.length],.box false (tmC key),.box false (tmC value),.box false (tmC t),.box false (tmC B)]) ho vQ;simp -implicitDefEqProofs (disch:=omega) only[zf hii,go_sem,simprocAttr];exact⟨hb,hf⟩
section
variable (A:AF) (s:dX)
def oZ(ks:List LTerm)(key value:LTerm)(ws:List kU)(b:Bool):List kU×Bool:=if 1000<(jX A s key value ks ws b).1.length then([],true)else jX A s key value ks ws b
def oI(ks:List LTerm)(p:LTerm):Nat→List kU×Bool→List kU×Bool
 |0,r=>r
 |k+1,r=>oZ A s ks (p.kids.getD (2*k) default) (p.kids.getD (2*k+1) default) (oI ks p k r).1 (oI ks p k r).2
end
structure OkH(t:LTerm)(m:Nat)(w:kU):Prop where
 u:OkU m w.u
 asc:AscU w.u
 len:t.kids.length=2*w.tk.length
theorem OkH.mono{t:LTerm}{m m':Nat}{w:kU}(h:OkH t m w)(hm:m≤m'):OkH t m' w:=⟨h.u.mono hm,h.asc,h.len⟩
section
variable {A:AF} {s:dX} {key value t:LTerm} {m:Nat}
theorem W8:∀{ws:List kU} {b:Bool} {k:Nat},k<ws.length →
 jX A s key value t.kids (ws.take (k+1)) b=((jX A s key value t.kids (ws.take k) b).1++(kZ A s key value t.kids (ws.getD k default) (ws.getD k default).tk.length (jX A s key value t.kids (ws.take k) b).2).1,(kZ A s key value t.kids (ws.getD k default) (ws.getD k default).tk.length (jX A s key value t.kids (ws.take k) b).2).2)
 |w::ws,b,0,_=>by simp[jX]
 |w::ws,b,k+1,h=>by
  rw[aL,jX,W8 (by simpa using h),aL,jX,bU];rfl
 | [],_,_,h=>by simp at h
theorem aEh:∀{ws vs:List kU} {b:Bool},jX A s key value t.kids (ws++vs) b=((jX A s key value t.kids ws b).1++(jX A s key value t.kids vs (jX A s key value t.kids ws b).2).1,(jX A s key value t.kids vs (jX A s key value t.kids ws b).2).2)
 | [],vs,b=>by simp[jX]
 |w::ws,vs,b=>by rw[aH,jX,aEh,jX,bU]
theorem aUz(hA:pU A){ws:List kU}{b:Bool}(k:Nat):((jX A s key value t.kids (ws.take k) b).2=true→(jX A s key value t.kids ws b).2=true)∧(jX A s key value t.kids (ws.take k) b).1.length≤(jX A s key value t.kids ws b).1.length:=by
 have e:=aEh (A:=A) (s:=s) (key:=key) (value:=value) (t:=t) (ws:=ws.take k) (vs:=ws.drop k) (b:=b);rw[cI]at e;rw[e];refine⟨fun h=>?_,by dsimp only;rw[List.length_append];omega⟩;dsimp only;rw[h];exact aIj hA _
theorem aVa(hA:pU A){ws:List kU}{b:Bool}(k:Nat)(h:(jX A s key value t.kids (ws.take k) b).2=true∨1000<(jX A s key value t.kids (ws.take k) b).1.length):(oZ A s t.kids key value ws b).2=true:=by
 obtain⟨h1,h2⟩:=aUz (s:=s) (key:=key) (value:=value) (t:=t) (ws:=ws) (b:=b) hA k;rw[oZ];split
 ·rfl
 ·rcases h with h|h
  ·exact h1 h
  ·omega
theorem bDu(hA:pU A){ws:List kU}:(oZ A s t.kids key value ws true).2=true:=by
 rw[oZ];split
 ·rfl
 ·exact aIj hA _
theorem W6(hA:pU A){p:LTerm}{r:List kU×Bool}{k:Nat}(h:(oI A s t.kids p k r).2=true):∀j,(oI A s t.kids p (k+j) r).2=true
 |0=>h
 |j+1=>by
  rw[show k+(j+1)=k+j+1 by omega,oI,W6 hA h j];exact bDu hA
theorem aVc(hA:AOk A value)(hB:aRx A)(ht:OkN t){w:kU}{i:Nat}{b:Bool}(hw:OkH t m w)(hi:i<w.tk.length)(hx:w.tk.getD i false=false):(∀x∈(S9 A s key value t.kids w i b).1,OkH t (m+1+nodesT value) x):=by
 obtain⟨a1,a2,_⟩:=left_at hw.len hi hx;have hk:=bZx hi hx;have hl:=yT hw.len;have hO:=(aXy (s:=s) (key:=key) (k:=cntF i w.tk) (b:=b) hA (aSh hw.u hw.len) ht (by show 2*cntF i w.tk+1<(leftOf t.kids w.tk).length;omega)).1;have hC:=aOh (s:=s) (key:=key) (value:=value) (k:=cntF i w.tk) (b:=b) hB (w:=jQ t.kids w) hw.asc;intro x hx;rw[S9]at hx;obtain⟨v,hv,rfl⟩:=dS.1 hx;exact⟨(hO v hv).u,hC v hv,by dsimp only;rw[List.length_set];exact hw.len⟩
theorem N8(hA:AOk A value)(hB:aRx A)(ht:OkN t){w:kU}{b:Bool}(hw:OkH t m w):∀i,i≤w.tk.length→(∀x∈(kZ A s key value t.kids w i b).1,OkH t (m+1+nodesT value) x)
 |0,_=>fun x hx=>by cases hx
 |i + 1,hi=>by
  rw[kZ];cases hx:w.tk.getD i false with
  |true=>rw[if_pos rfl];exact N8 hA hB ht hw i (by omega)
  |false=>
   rw[if_neg (by simp)];intro x hx2;rcases bM.1 hx2 with h|h
   ·exact N8 hA hB ht hw i (by omega) x h
   ·exact aVc hA hB ht hw (by omega) hx x h
theorem aEg(hA:AOk A value)(hB:aRx A)(ht:OkN t):∀{ws:List kU} {b:Bool},(∀w∈ws,OkH t m w)→(∀x∈(jX A s key value t.kids ws b).1,OkH t (m+1+nodesT value) x)
 | [],b,h=>fun x hx=>by cases hx
 |w::ws,b,h=>by
  rw[jX];intro x hx;rcases bM.1 hx with h1|h1
  ·exact N8 hA hB ht (h w (by simp)) _ (bK _) x h1
  ·exact aEg hA hB ht (fun v hv=>h v (by simp[hv])) x h1
theorem aUx(hA:AOk A value)(hB:aRx A)(ht:OkN t){ws:List kU}{b:Bool}(h:∀w∈ws,OkH t m w):(∀x∈(oZ A s t.kids key value ws b).1,OkH t (m+1+nodesT value) x)∧(oZ A s t.kids key value ws b).1.length≤1000:=by
 rw[oZ];split
 ·exact⟨fun x hx=>(by cases hx),by simp⟩
 ·exact⟨aEg hA hB ht h,by omega⟩
theorem aQb{ws:List kU}{b:Bool}(h:∀w∈ws,OkH t m w):((oZ A s t.kids key value ws b).1.map (jQ t.kids),(oZ A s t.kids key value ws b).2)=qZ A s key value (ws.map (jQ t.kids)) b:=by
 have e:=aEf (A:=A) (s:=s) (key:=key) (value:=value) (ks:=t.kids) (ws:=ws) (b:=b) (fun w hw=>(h w hw).len);have e1:(jX A s key value t.kids ws b).1.length=(rY A s key value (ws.map (jQ t.kids)) b).1.length:=by rw[← e];simp
 rw[oZ,qZ,← e1];split
 ·rfl
 ·exact e
theorem aLy(hB:aRx A)(ht:OkN t){p:LTerm}(hA:∀q∈p.kids,AOk A q){r:List kU×Bool}(h:∀w∈r.1,OkH t m w)(hl:r.1.length≤1000):∀k,2*k≤p.kids.length→(∀x∈(oI A s t.kids p k r).1,OkH t (m+nodesL (p.kids.take (2*k))) x)∧(oI A s t.kids p k r).1.length≤1000∧((oI A s t.kids p k r).1.map (jQ t.kids),(oI A s t.kids p k r).2)=pT A s p k (r.1.map (jQ t.kids),r.2)
 |0,_=>⟨fun x hx=>(h x hx).mono (by omega),hl,rfl⟩
 |k+1,hk=>by
  obtain⟨a1,a2,a3⟩:=aLy hB ht hA h hl k (by omega);have e:=B5 (l:=p.kids) (k:=k) (by omega);have hn:1≤nodesT (p.kids.getD (2*k) default):=by rw[iO];omega
  have hv:=hA _ (cT (d:=default) (k:=2*k+1) (l:=p.kids) (by omega));obtain⟨b1,b2⟩:=aUx (s:=s) (key:=p.kids.getD (2*k) default) (b:=(oI A s t.kids p k r).2) hv hB ht a1;rw[oI,pT,← a3];exact⟨fun x hx=>(b1 x hx).mono (by omega),b2,aQb a1⟩
end
theorem cEx{P:Program}{G:Glob}{f:FuncId}{A:List AV}{r:AV}(c:Ctr P G f A r):Ctr P G f A .u:=
 ⟨c.1,c.2.1,fun F w vs a b d e=>(c.2.2 F w vs a b d e).mono (fun e w' ⟨v,F',bs,h1,h2,h3,h4,h5,h6,h7,h8⟩=>⟨v,F',[],h1,h2,h3,h4,h5,⟨rfl,.u v⟩,fI,by simp⟩)⟩
theorem aYn(l:List kU): aHj Tryz.prog G0 261 [bHl l] (bHl l) (decide (1000<l.length)) xH:=by
 refine lG (rx:=false) (th:=fun _=>none) cZ Tryz.func261 rfl (by kernel_rfl) (by kernel_rfl) (ac:=?_) ?_ g0 ?_;rotate_left
 ·simp only[strip,lI,eS,lH,RX.off,ckF,ckX,zOf,exd,vOf,aD,aC,bD,bC,aF,bA,aM,aF,bS,bY,dR,fT,bB,bI,aJ,aH,dZ,anyPre,Region.binds,aN,aS,aE,if_true,if_false,aX,aU,aI,aO,aZ,aK,aD,aC,List.append_nil];rfl
 ·simp -implicitDefEqProofs (disch:=omega) only[Tryz.f261,go_sem,List.replicate,simprocAttr,bHl];by_cases h:(1000:Int)<((l.length:Nat):Int)
  ·have h':1000<l.length:=by omega
   simp -implicitDefEqProofs (disch:=omega) only[zt h,go_sem,simprocAttr];(repeat'(first|refine gT ?_ ?_|refine gF ?_ ?_|refine gC ?_ ?_|refine bX (by omega) ?_|(intro hr;have hc:=hr;(try simp only[zdz]at hc);simp -implicitDefEqProofs (disch:=omega) only[hr,zt h,go_sem,simprocAttr];(try clear hr))));simp -implicitDefEqProofs only[Tryz.underlying138,go_sem];exact zt h'
  ·have h':¬1000<l.length:=by omega
   simp -implicitDefEqProofs (disch:=omega) only[zf h,go_sem,simprocAttr];(repeat'(first|refine gT ?_ ?_|refine gF ?_ ?_|refine gC ?_ ?_|refine bX (by omega) ?_|(intro hr;have hc:=hr;(try simp only[zdz]at hc);simp -implicitDefEqProofs (disch:=omega) only[hr,zf h,go_sem,simprocAttr];(try clear hr))));exact⟨zf h',.inl ⟨rfl,bNu l⟩⟩
theorem bXb(l:List kU):aHj Tryz.prog G0 261 [bHl l] .u (decide (1000<l.length)) xH:=⟨fun h=>cEx ((aYn l).1 h),(aYn l).2⟩
theorem V5{t:LTerm}{so:Str}(h:oH t so=true):t.rest=[]∨∃r,t.rest=[r]∧r.kind=6:=by
 simp only[oH,cC,aA,decide_eq_true_eq]at h;rcases h with h|⟨⟨⟨⟨h1,h2⟩,_⟩,_⟩,_⟩
 ·exact .inl (List.eq_nil_of_length_eq_zero h)
 ·match hr:t.rest with
  | [r]=>rw[hr]at h2;exact .inr ⟨r,rfl,h2⟩
  | []=>rw[hr]at h1;cases h1
  |_::_::_=>rw[hr]at h1;simp at h1
theorem bMx{p:LTerm}(h:OkN p)(hk:p.kind=7∨p.kind=8):p.rest=[]∨∃r,p.rest=[r]∧r.kind=6:=by
 have e:=(gS.1 h.2).1;rw[nodeB]at e;rcases hk with hk|hk
 ·simp only[hk,(by decide:¬(7:Int)=1),(by decide:¬(7:Int)=2),(by decide:¬(7:Int)=3),(by decide:¬(7:Int)=4),(by decide:¬(7:Int)=5),(by decide:¬(7:Int)=6),if_false,if_true,aA]at e;exact V5 e.1
 ·simp only[hk,(by decide:¬(8:Int)=1),(by decide:¬(8:Int)=2),(by decide:¬(8:Int)=3),(by decide:¬(8:Int)=4),(by decide:¬(8:Int)=5),(by decide:¬(8:Int)=6),(by decide:¬(8:Int)=7),if_false,if_true,aA]at e;exact V5 e.1.1
theorem aEz:∀{ks:List LTerm} {tk:List Bool} {e:Nat},ks.length=2*tk.length→e<tk.length →
 leftOf (ks.take (2*(e+1))) (tk.take (e+1))=leftOf (ks.take (2*e)) (tk.take e)++(if tk.getD e false=true then []else [ks.getD (2*e) default,ks.getD (2*e+1) default])
 |a::b::ks,x::tk,0,hl,he=>by
  simp only[aL,bR,Nat.mul_zero,dM,bBa,eM,dE];cases x<;>simp[leftOf]
 |a::b::ks,x::tk,e+1,hl,he=>by
  have ih:=aEz (ks:=ks) (tk:=tk) (e:=e) (by simp at hl;omega) (by simpa using he);have e1:2*(e+1+1)=2*(e+1)+1+1:=by omega
  have e2:2*(e+1)=2*e+1+1:=by omega
  rw[e1,aL,aL,aL,leftOf,ih];rw[e2,aL,aL,aL,leftOf];simp only[dE];split<;>simp
 | [a],x::tk,_,hl,_=>by simp at hl;omega
 | [],x::tk,_,hl,_=>by simp at hl
 |_,[],_,_,he=>by simp at he
theorem aWi{ks:List LTerm}{tk:List Bool}(hl:ks.length=2*tk.length):leftOf (ks.take (2*tk.length)) (tk.take tk.length)=leftOf ks tk:=by
 rw[← hl,gD,gD]
theorem O3:∀{ks:List LTerm} {tk:List Bool},(leftOf ks tk).length≤ks.length
 |a::b::l,x::tk=>by
  have:=O3 (ks:=l) (tk:=tk);rw[leftOf];split
  ·simp only[aQ];omega
  ·simp only[aQ];omega
 | [],_=>by simp[leftOf]
 | [a],_=>by simp[leftOf]
 |a::b::l,[]=>by simp[leftOf]
theorem bJb{s:dX}{p:LTerm}{ks:List LTerm}:∀{l:List kU},(l.flatMap fun w=>G2 s p (jQ ks w)).length≤l.length
 | []=>by simp
 |w::l=>by
  have h1:=bEt (s:=s) (p:=p) (w:=jQ ks w);have h2:=bJb (s:=s) (p:=p) (ks:=ks) (l:=l);rw[List.flatMap_cons,List.length_append,aQ];omega
theorem aYb{l:List AV}(h:persL l=true):l.all aNj=true:=by
 rw[bF];intro a ha;obtain⟨j,hj⟩:=cW.1 ha;have:=iN h j a hj;cases a<;>first|rfl|exact this
theorem bUi{z:List AV}:List.replicate 2 z=[z,z]:=rfl
theorem bNw{M:Nat}:persL (List.replicate M (AV.b false))=true:=by
 induction M with
 |zero=>rfl
 |succ M ih=>rw[gV,persL,ih];rfl
attribute [go_sem] bNw
@[simp] theorem cKc{A:AF}{s:dX}{ks:List LTerm}{p:LTerm}{r:List kU×Bool}:oI A s ks p 0 r=r:=rfl
theorem bTw(s : dX)(n:Nat)(p t:LTerm)(l:List LSub)(m:Nat)(hm:Small s)(hA:∀q∈p.kids,bSf s n q)(hp:OkN p)(hp8:p.kind=8)(hpl1:p.kids.length≤1000000)(ht:OkN t)(ht8:t.kind=8)(hpl:∀x∈t.kids,gI s x=true)(hnk:∀x∈t.kids,nodesT x≤1000000)(htl:t.kids.length≤1000000)(hu:F3 m l)(ha:nT l)(hl:l.length≤1000)(hmm:m+nodesT p≤1000000): aHj Tryz.prog G0 225 [.agg [cM s],avw l,elT p,elT t] (avw (mF (fJ s n) s p t l false).1) (mF (fJ s n) s p t l false).2 xH:=by
 refine lG (rx:=true) (th:=fun i=>if i=5 then some ⟨none,[],false,false,true,[],[],1000⟩else if i=7 then some ⟨none,[],false,false,true,[],[],1000⟩else if i=14 then some ⟨none,[],false,false,true,[],[],1000⟩else if i=17 then some ⟨none,[],false,false,true,[],[],1000⟩else if i=27 then some ⟨none,[],false,false,true,[],[],1000⟩else if i=31 then some ⟨none,[],false,false,true,[],[],1000⟩else none) cZ Tryz.func225 rfl (by kernel_rfl) (by kernel_rfl) (ac:=?_) ?_ g0 ?_;rotate_left
 ·simp only[strip,lI,eS,lH,RX.off,ckF,ckX,zOf,exd,vOf,aD,aC,bD,bC,aF,bA,aM,aF,bS,bY,dR,fT,bB,bI,aJ,aH,dZ,anyPre,Region.binds,aN,aS,aE,if_true,if_false,aX,aU,aI,aO,aZ,aK,aD,aC,List.append_nil,aNu,xE,sV,sB,cR,bT,bZ,aF,bD,bC,cU,beq_self_eq_true,fZ,Nat.reduceBEq,rC,qI,rA,kK,aJf,fC,gJ,bS,eZ,aAv,aAu,↓reduceIte,Nat.reduceEqDiff,Nat.reduceBEq,mY,oC,oX,splitK,xI,G6,aC,fC,gJ,aN,aS,bA,aI,aM,bD,bC];rfl
 ·simp -implicitDefEqProofs (disch:=omega) only[Tryz.f225,go_sem,List.replicate,simprocAttr,avw,elT,aW];have hte:t.kids.length=2*(t.kids.length / 2):=by have:=ht.even ht8;omega
  have hdw:IntKind.i64.wrap (((t.kids.length:Nat):Int).tdiv 2)=((t.kids.length / 2:Nat):Int):=by
   rw[show((t.kids.length:Nat):Int).tdiv 2=((t.kids.length / 2:Nat):Int)from rfl,wrap64 (by omega) (by omega)]
  generalize hM:t.kids.length / 2=M at *
  have hMl:M≤1000000:=by omega
  refine dF (fun(q:Nat×AV×List AObj)=>(rp 9 .k (.v (q.2.1)::.k::.j::(rp 16 .k (.v (.i .i64 (q.1:Nat))::(rp 14 .j (rp 110 .k []))))))) (fun q=>(.box false [cM s]::.box false (tmC p)::.box false (tmC t)::q.2.2)) (fun q=>q.1≤l.length∧jI 2 3 q.2.2 q.2.1 (((l.take q.1).map fun u=>(⟨u,List.replicate M false⟩:kU)).flatMap vK) ((l.take q.1).map fun u=>(⟨u,List.replicate M false⟩:kU)).length) (fun q=>l.length-q.1) ((0,.e0,[])) ⟨bJ _,kX⟩ rfl (by simp[hZ]) ?_;rintro⟨k,out,g⟩ j ⟨hk,ho⟩;dsimp only at hk ho;by_cases hlt:k<l.length
  ·have hki:(k:Int)<((l.length:Nat):Int):=by omega
   simp -implicitDefEqProofs (disch:=omega) only[zt hki,go_sem,simprocAttr];repeat refine bX (by omega) ?_
   apply aBx 7 38 (by simp only[strip,lI,eS,lH,RX.off,ckF,ckX,zOf,exd,vOf,aD,aC,bD,bC,aF,bA,aM,aF,bS,bY,dR,fT,bB,bI,aJ,aH,dZ,anyPre,Region.binds,aN,aS,aE,if_true,if_false,aX,aU,aI,aO,aZ,aK,aD,aC,List.append_nil,aL,bR,aT,bG,Nat.reduceAdd];rfl) (by simp only[strip,lI,eS,lH,RX.off,ckF,ckX,zOf,exd,vOf,aD,aC,bD,bC,aF,bA,aM,aF,bS,bY,dR,fT,bB,bI,aJ,aH,dZ,anyPre,Region.binds,aN,aS,aE,if_true,if_false,aX,aU,aI,aO,aZ,aK,aD,aC,List.append_nil,aL,bR,aT,bG,Nat.reduceAdd];rfl)
   ·intro K hK;simp -implicitDefEqProofs (disch:=omega) only[avu,hdw,go_sem,simprocAttr];refine⟨by omega,?_⟩;exact hK
   obtain⟨k1,k3⟩:=I1 (pre:=[.box false [cM s],.box false (tmC p),.box false (tmC t)]) (g:=g++[.arr false 1 (List.replicate M (.b false))]) (i:=g.length) (n:=M) (fz:=false) (sz:=1) (cells:=List.replicate M (.b false)) (by simp) (by simp) bNw;rw[xG]at k3;simp only[aH,aJ,aQ,cB,cM,dM,Nat.reduceAdd]at k1 k3;simp -implicitDefEqProofs only[dE,eM,iG,iF];rw[k1,k3];have hX:(l.take (k+1)).map (fun u=>(⟨u,List.replicate M false⟩:kU))=(l.take k).map (fun u=>(⟨u,List.replicate M false⟩:kU))++[⟨l.getD k default,List.replicate M false⟩]:=by
    rw[fO (d:=default) hlt,cG];rfl
   have hbig:((l.take k).map fun u=>(⟨u,List.replicate M false⟩:kU)).length≤1000:=by rw[dP,List.length_take];omega
   have hlX:(l.take (k+1)).length=((l.take k).map fun u=>(⟨u,List.replicate M false⟩:kU)).length+1:=by simp only[dP,List.length_take];omega
   simp -implicitDefEqProofs (disch:=omega) only[tE,fB,fP,List.append_nil,bNw,go_sem,simprocAttr];refine gM (pre:=[.box false [cM s],.box false (tmC p),.box false (tmC t)]) (g:=g++[.arr true 1 (List.replicate M (.b false))]) (more:=[.arr false 2 ([.sl ((l.getD k default).flatMap prT) (l.getD k default).length,.sl (List.replicate M (.b false)) M])]) (news:=[.sl ((l.getD k default).flatMap prT) (l.getD k default).length,.sl (List.replicate M (.b false)) M]) (m:=1) ((ho).more _) rfl (by simp -implicitDefEqProofs (disch:=omega) only[go_sem,simprocAttr]) bGc bBm bCc bHc rfl (by decide) (by simp -implicitDefEqProofs (disch:=omega) only[go_sem,simprocAttr]) (by simp -implicitDefEqProofs (disch:=omega) only[go_sem,simprocAttr]) ⟨by omega,by omega⟩ ?_;intro out' g' ho' _;simp -implicitDefEqProofs (disch:=omega) only[go_sem,simprocAttr];refine⟨(k+1,out',g'),⟨by dsimp only;omega,?_⟩,by dsimp only;omega,rfl,by simp⟩;dsimp only;rw[hX,List.flatMap_append,hlX,List.flatMap_cons,List.flatMap_nil,List.append_nil,vK,List.length_replicate,List.map_replicate];exact ho'
  ·have hki : ¬(k:Int)<((l.length:Nat):Int):=by omega
   rw[bE (by omega)]at ho;simp -implicitDefEqProofs (disch:=omega) only[zf hki,go_sem,simprocAttr];apply aBx 0 9 (by simp only[strip,lI,eS,lH,RX.off,ckF,ckX,zOf,exd,vOf,aD,aC,bD,bC,aF,bA,aM,aF,bS,bY,dR,fT,bB,bI,aJ,aH,dZ,anyPre,Region.binds,aN,aS,aE,if_true,if_false,aX,aU,aI,aO,aZ,aK,aD,aC,List.append_nil,aL,bR,aT,bG,Nat.reduceAdd];rfl) (by simp only[strip,lI,eS,lH,RX.off,ckF,ckX,zOf,exd,vOf,aD,aC,bD,bC,aF,bA,aM,aF,bS,bY,dR,fT,bB,bI,aJ,aH,dZ,anyPre,Region.binds,aN,aS,aE,if_true,if_false,aX,aU,aI,aO,aZ,aK,aD,aC,List.append_nil,aL,bR,aT,bG,Nat.reduceAdd];rfl)
   ·intro K hK;exact hK
   obtain⟨k1,g',k2,k3⟩:=rZ (pre:=[.box false [cM s],.box false (tmC p),.box false (tmC t)]) ho vQ;simp only[aH,aJ,cM]at k1 k3;simp -implicitDefEqProofs only[aIm,dE,eM,iG,iF];rw[k1,k3];have hW0:∀w∈l.map (fun u=>(⟨u,List.replicate M false⟩:kU)),OkH t m w:=by
    intro w hw;obtain⟨u,hu',rfl⟩:=dS.1 hw;exact⟨hu u hu',ha u hu',by dsimp only;rw[List.length_replicate];exact hte⟩
   have hpe:=hp.even hp8;have hno:=iO p;have htab:=fun k hk=>aLy (A:=fJ s n) (s:=s) (p:=p) (t:=t) (r:=(l.map (fun u=>(⟨u,List.replicate M false⟩:kU)),false)) (m:=m) (xM n) ht (fun q _=>sZ n q) hW0 (by rw[dP];exact hl) k hk;have hmono:=fun k=>W6 (A:=fJ s n) (s:=s) (t:=t) (p:=p) (r:=(l.map (fun u=>(⟨u,List.replicate M false⟩:kU)),false)) (aKd n) (k:=k);have hTe:mF (fJ s n) s p t l false=uM (oI (fJ s n) s t.kids p (p.kids.length / 2) (l.map (fun u=>(⟨u,List.replicate M false⟩:kU)),false)).2 ((oI (fJ s n) s t.kids p (p.kids.length / 2) (l.map (fun u=>(⟨u,List.replicate M false⟩:kU)),false)).1.flatMap fun w=>G2 s p (jQ t.kids w)):=by
    have e:=(htab (p.kids.length / 2) (by omega)).2.2;have e0:(l.map (fun u=>(⟨u,List.replicate M false⟩:kU))).map (jQ t.kids)=l.map (nJ.mk · t.kids):=by
     rw[wP];refine iP fun u _=>?_;show jQ t.kids ⟨u,List.replicate M false⟩=_;rw[jQ,aMo hte]
    rw[mF,← e0,← e];dsimp only;rw[List.flatMap_map]
   have hpan:(oI (fJ s n) s t.kids p (p.kids.length / 2) (l.map (fun u=>(⟨u,List.replicate M false⟩:kU)),false)).2=true→(mF (fJ s n) s p t l false).2=true:=fun h=>by rw[hTe,h];exact J8
   have hW0l:(l.map (fun u=>(⟨u,List.replicate M false⟩:kU))).length=l.length:=dP ..;generalize l.map (fun u=>(⟨u,List.replicate M false⟩:kU))=W0 at *
   generalize hTb:mF (fJ s n) s p t l false=TB at *
   simp -implicitDefEqProofs (disch:=omega) only[go_sem,simprocAttr];refine dF (fun(q:Nat×List AObj)=>(rp 9 .k (.v (.sl ((oI (fJ s n) s t.kids p q.1 (W0,false)).1.flatMap vK) (oI (fJ s n) s t.kids p q.1 (W0,false)).1.length)::.k::.k::.v (.i .i64 (2*q.1:Nat))::.j::.k::.j::(rp 27 .k (rp 34 .j (rp 76 .k [])))))) (fun q=>(.box false [cM s]::.box false (tmC p)::.box false (tmC t)::q.2)) (fun q=>2*q.1≤p.kids.length∧(oI (fJ s n) s t.kids p q.1 (W0,false)).2=false) (fun q=>p.kids.length-2*q.1) ((0,g')) ⟨bJ _,rfl⟩ rfl (by simp[hZ]) ?_;rintro⟨i,g2⟩ j2 ⟨hi,hb⟩;dsimp only at hi hb;by_cases hit:2*i<p.kids.length
   ·have hii:((2*i:Nat):Int)<((p.kids.length:Nat):Int):=by omega
    have hii':2*i+1<p.kids.length:=by omega
    obtain⟨hb1,hb2,hb3⟩:=htab i hi;have hn2:=B5 (l:=p.kids) (k:=i) hii';have hn3:=kJ (l:=p.kids) (k:=2*(i+1));have hn4:1≤nodesT (p.kids.getD (2*i) default):=by rw[iO];omega
    have hsucc:oI (fJ s n) s t.kids p (i+1) (W0,false)=oZ (fJ s n) s t.kids (p.kids.getD (2*i) default) (p.kids.getD (2*i+1) default) (oI (fJ s n) s t.kids p i (W0,false)).1 false:=by rw[oI,hb]
    have hpan2:(oZ (fJ s n) s t.kids (p.kids.getD (2*i) default) (p.kids.getD (2*i+1) default) (oI (fJ s n) s t.kids p i (W0,false)).1 false).2=true→TB.2=true:=fun h=>hpan (by
     have:=hmono (i+1) (by rw[hsucc];exact h) (p.kids.length / 2-(i+1));rwa[show i+1+(p.kids.length / 2-(i+1))=p.kids.length / 2 by omega]at this)
    have hkO:=(hp.kid (cT (d:=default) hit)).1;have hvA:=hA _ (cT (d:=default) hii');generalize (oI (fJ s n) s t.kids p i (W0,false)).1=W at *
    simp -implicitDefEqProofs (disch:=omega) only[zt hii,go_sem,simprocAttr];refine dF (fun(q:Nat×AV×List AObj)=>(rp 13 .k (.v (q.2.1)::.k::.j::(rp 36 .k (.v (.i .i64 (q.1:Nat))::(rp 23 .j (rp 77 .k []))))))) (fun q=>(.box false [cM s]::.box false (tmC p)::.box false (tmC t)::q.2.2)) (fun q=>q.1≤W.length∧(jX (fJ s n) s (p.kids.getD (2*i) default) (p.kids.getD (2*i+1) default) t.kids (W.take q.1) false).2=false∧(jX (fJ s n) s (p.kids.getD (2*i) default) (p.kids.getD (2*i+1) default) t.kids (W.take q.1) false).1.length≤1000∧jI 2 3 q.2.2 q.2.1 ((jX (fJ s n) s (p.kids.getD (2*i) default) (p.kids.getD (2*i+1) default) t.kids (W.take q.1) false).1.flatMap vK) (jX (fJ s n) s (p.kids.getD (2*i) default) (p.kids.getD (2*i+1) default) t.kids (W.take q.1) false).1.length) (fun q=>W.length-q.1) ((0,.e0,g2)) ⟨bJ _,rfl,bJ _,kX⟩ rfl (by simp[hZ]) ?_;rintro⟨c,out3,g3⟩ j4 ⟨hc,hcb,hcl,ho3⟩;dsimp only at hc hcb hcl ho3;by_cases hct:c<W.length
    ·have hci:(c:Int)<((W.length:Nat):Int):=by omega
     have hw:=hb1 _ (cT (d:=default) hct);have ce:=bWk s n (p.kids.getD (2*i) default) (p.kids.getD (2*i+1) default) t (W.getD c default) (m+nodesL (p.kids.take (2*i))) hm hvA ht hpl hnk htl hkO hw.u hw.asc hw.len (by omega);have hE:=W8 (A:=fJ s n) (s:=s) (key:=p.kids.getD (2*i) default) (value:=p.kids.getD (2*i+1) default) (t:=t) (b:=false) hct;have hpn:=aVa (A:=fJ s n) (s:=s) (key:=p.kids.getD (2*i) default) (value:=p.kids.getD (2*i+1) default) (t:=t) (ws:=W) (b:=false) (aKd n) (c+1);have hNl:=aEe (A:=fJ s n) (s:=s) (key:=p.kids.getD (2*i) default) (value:=p.kids.getD (2*i+1) default) (t:=t) (b:=false) (sZ n _) hw.u hw.len ht (bK (W.getD c default).tk.length);have hwl:=hw.len;rw[hcb]at hE;rw[hE]at hpn;dsimp only at hpn;generalize hN:kZ (fJ s n) s (p.kids.getD (2*i) default) (p.kids.getD (2*i+1) default) t.kids (W.getD c default) (W.getD c default).tk.length false=N at *
     generalize hEc:jX (fJ s n) s (p.kids.getD (2*i) default) (p.kids.getD (2*i+1) default) t.kids (W.take c) false=E at *
     simp -implicitDefEqProofs (disch:=omega) only[zt hci,vK,avu,go_sem,simprocAttr];repeat refine bX (by omega) ?_
     refine aZu (rx:=.off) (N:=⟨0,[]⟩) cZ 15 0 56 13 _ (by kernel_rfl) rfl rfl rfl rfl rfl (al:=?_) (al2:=?_) ?_ ?_ (fun v e e' h k=>k) ?_;rotate_left 2
     ·simp only[strip,lI,eS,lH,RX.off,ckF,ckX,zOf,exd,vOf,aD,aC,bD,bC,aF,bA,aM,aF,bS,bY,dR,fT,bB,bI,aJ,aH,dZ,anyPre,Region.binds,aN,aS,aE,if_true,if_false,aX,aU,aI,aO,aZ,aK,aD,aC,List.append_nil,aL,bR,aT,bG,Nat.reduceAdd,aL,bR];rfl
     ·simp only[strip,lI,eS,lH,RX.off,ckF,ckX,zOf,exd,vOf,aD,aC,bD,bC,aF,bA,aM,aF,bS,bY,dR,fT,bB,bI,aJ,aH,dZ,anyPre,Region.binds,aN,aS,aE,if_true,if_false,aX,aU,aI,aO,aZ,aK,aD,aC,List.append_nil,aL,bR,aT,bG,Nat.reduceAdd,aT,bG];rfl
     simp -implicitDefEqProofs (disch:=omega) only[go_sem,simprocAttr];repeat refine bX (by omega) ?_
     refine wV ce ?_ (fun hb'=>⟨hpan2 (hpn (.inl hb')),rfl⟩) (fun hb'=>?_)
     ·simp -implicitDefEqProofs (disch:=omega) only[elT,aW,vK,avu,cM,go_sem,simprocAttr]
     rw[show ∀H,mat (bHl N.1) H=(bHl N.1,H)from fun H=>rfl];simp -implicitDefEqProofs (disch:=omega) only[bHl,go_sem,simprocAttr];have ho4:=ho3.more [.box false [.sl ((W.getD c default).u.flatMap prT) (W.getD c default).u.length,.sl ((W.getD c default).tk.map .b) (W.getD c default).tk.length]];refine gM (more:=[]) (pre:=[.box false [.box (fF s) 0],.box false (tmC p),.box false (tmC t)]) (news:=N.1.flatMap vK) (m:=N.1.length) ho4 rfl (by simp) bGc bBm bCc bHc rfl (by decide) (by simp -implicitDefEqProofs (disch:=omega) only[go_sem,simprocAttr]) (by simp -implicitDefEqProofs (disch:=omega) only[go_sem,simprocAttr]) ⟨by omega,by omega⟩ ?_;intro out' g' ho' hkeep;have hcE:(jX (fJ s n) s (p.kids.getD (2*i) default) (p.kids.getD (2*i+1) default) t.kids (W.take (c+1)) false).1.length=E.1.length+N.1.length:=by rw[hE,List.length_append]
     rw[← List.flatMap_append,← List.length_append]at ho';have cl:=bXb (E.1++N.1);obtain⟨k1,_,_,_⟩:=rZ (pre:=[.box false [cM s],.box false (tmC p),.box false (tmC t)]) ho' vQ;simp only[aH,aJ,cM]at k1;simp -implicitDefEqProofs (disch:=omega) only[go_sem,simprocAttr];refine wV cl ?_ (fun hm=>⟨hpan2 (hpn (.inr (by simpa using hm))),rfl⟩) (fun hm=>?_)
     ·rw[aK,aZ,k1];rfl
     rw[show ∀H,mat .u H=(.u,H)from fun H=>rfl,gU,if_pos (show flat .u=true from rfl)];have hle:(E.1++N.1).length≤1000:=by simpa using hm
     simp -implicitDefEqProofs (disch:=omega) only[go_sem,simprocAttr];refine⟨(c+1,out',g'),⟨by dsimp only;omega,by dsimp only;rw[hE];exact hb',by dsimp only;rw[hE];exact hle,?_⟩,by dsimp only;omega,rfl,by simp⟩;dsimp only;rw[hE];exact ho'
    ·have hci:¬(c:Int)<((W.length:Nat):Int):=by omega
     simp -implicitDefEqProofs (disch:=omega) only[zf hci,go_sem,simprocAttr];rw[bE (by omega)]at ho3 hcb hcl;have hpE:oZ (fJ s n) s t.kids (p.kids.getD (2*i) default) (p.kids.getD (2*i+1) default) W false=jX (fJ s n) s (p.kids.getD (2*i) default) (p.kids.getD (2*i+1) default) t.kids W false:=by rw[oZ,if_neg (by omega)]
     rw[hpE]at hsucc;apply aBx 0 13 (by simp only[strip,lI,eS,lH,RX.off,ckF,ckX,zOf,exd,vOf,aD,aC,bD,bC,aF,bA,aM,aF,bS,bY,dR,fT,bB,bI,aJ,aH,dZ,anyPre,Region.binds,aN,aS,aE,if_true,if_false,aX,aU,aI,aO,aZ,aK,aD,aC,List.append_nil,aL,bR,aT,bG,Nat.reduceAdd];rfl) (by simp only[strip,lI,eS,lH,RX.off,ckF,ckX,zOf,exd,vOf,aD,aC,bD,bC,aF,bA,aM,aF,bS,bY,dR,fT,bB,bI,aJ,aH,dZ,anyPre,Region.binds,aN,aS,aE,if_true,if_false,aX,aU,aI,aO,aZ,aK,aD,aC,List.append_nil,aL,bR,aT,bG,Nat.reduceAdd];rfl)
     ·intro K hK;exact hK
     obtain⟨k1,g5,k2,k3⟩:=rZ (pre:=[.box false [cM s],.box false (tmC p),.box false (tmC t)]) ho3 vQ;simp only[aH,aJ,cM]at k1 k3;simp -implicitDefEqProofs only[aIm,dE,eM,iG,iF];rw[k1,k3];simp -implicitDefEqProofs (disch:=omega) only[go_sem,simprocAttr];refine⟨(i+1,g5),⟨by dsimp only;omega,by dsimp only;rw[hsucc];exact hcb⟩,by dsimp only;omega,rfl,?_⟩;dsimp only;rw[hsucc];exact⟨rfl,rfl⟩
   ·have hii:¬((2*i:Nat):Int)<((p.kids.length:Nat):Int):=by omega
    obtain rfl:i=p.kids.length / 2:=by omega
    obtain⟨hb1,hb2,hb3⟩:=htab _ hi;simp -implicitDefEqProofs (disch:=omega) only[zf hii,go_sem,simprocAttr];rw[hb]at hTe;generalize (oI (fJ s n) s t.kids p (p.kids.length / 2) (W0,false)).1=W at *
    refine dF (fun(q:Nat×AV×List AObj)=>(rp 16 .k (.v (q.2.1)::.k::.j::.j::.j::.j::.k::.j::.j::.j::(rp 53 .k (.v (.i .i64 (q.1:Nat))::(rp 71 .j [.k,.k])))))) (fun q=>(.box false [cM s]::.box false (tmC p)::.box false (tmC t)::q.2.2)) (fun q=>q.1≤W.length∧jI 1 3 q.2.2 q.2.1 (((W.take q.1).flatMap fun w=>G2 s p (jQ t.kids w)).map avu) ((W.take q.1).flatMap fun w=>G2 s p (jQ t.kids w)).length) (fun q=>W.length-q.1) ((0,.e0,g2)) ⟨bJ _,kX⟩ rfl (by simp[hZ]) ?_;rintro⟨c,out3,g3⟩ j4 ⟨hc,ho3⟩;dsimp only at hc ho3;by_cases hct:c<W.length
    ·have hci:(c:Int)<((W.length:Nat):Int):=by omega
     have hw:=hb1 _ (cT (d:=default) hct);have hwl:=hw.len;have hsc:=qJ (f:=fun w=>G2 s p (jQ t.kids w)) (d:=default) hct;simp -implicitDefEqProofs (disch:=omega) only[zt hci,vK,avu,go_sem,simprocAttr];repeat refine bX (by omega) ?_
     generalize W.getD c default=w at *
     refine dF (fun(q:Nat×AV×List AObj)=>(rp 20 .k (.j::.j::(rp 65 .k (.v (.i .i64 (q.1:Nat))::(rp 25 .j (rp 40 .k []))))))) (fun q=>(.box false [cM s]::.box false (tmC p)::.box false (tmC t)::(g3++.box false [.sl (w.u.flatMap prT) w.u.length,.sl (w.tk.map .b) w.tk.length]::.box false [.i .i64 8,.i .i64 0,.s [],.s [],q.2.1,.e0]::q.2.2))) (fun q=>q.1≤w.tk.length∧jI 6 (g3.length+5) q.2.2 q.2.1 ((leftOf (t.kids.take (2*q.1)) (w.tk.take q.1)).flatMap aP) (leftOf (t.kids.take (2*q.1)) (w.tk.take q.1)).length) (fun q=>w.tk.length-q.1) ((0,.e0,[])) ⟨bJ _,kX⟩ rfl (by simp[hZ]) ?_;rintro⟨e,ks,gm⟩ j5 ⟨he,hok⟩;dsimp only at he hok;by_cases het:e<w.tk.length
     ·have hei:(e:Int)<((w.tk.length:Nat):Int):=by omega
      have hls:=aEz hwl het;have h2e:((2:Int)*(e:Int)).toNat=2*e:=by omega
      have h2e':((2:Int)*(e:Int)+1).toNat=2*e+1:=by omega
      cases hx:w.tk.getD e false with
      |true=>
       rw[hx,if_pos rfl,List.append_nil]at hls;simp -implicitDefEqProofs (disch:=omega) only[zt hei,hx,go_sem,simprocAttr];repeat refine bX (by omega) ?_
       refine⟨(e+1,ks,gm),⟨by dsimp only;omega,by dsimp only;rw[hls];exact hok⟩,by dsimp only;omega,rfl,by simp⟩
      |false=>
       rw[hx,if_neg (by simp)]at hls;simp -implicitDefEqProofs (disch:=omega) only[zt hei,hx,go_sem,simprocAttr];repeat refine bX (by omega) ?_
       refine bHj (rx:=⟨true,false,true,[],[]⟩) (N:=⟨g3.length+5,[]⟩) cZ 18 (by kernel_rfl) (al:=?_) (al2:=?_) ?_ ?_ ?_;rotate_left 2
       ·simp only[strip,lI,eS,lH,RX.off,ckF,ckX,zOf,exd,vOf,aD,aC,bD,bC,aF,bA,aM,aF,bS,bY,dR,fT,bB,bI,aJ,aH,dZ,anyPre,Region.binds,aN,aS,aE,if_true,if_false,aX,aU,aI,aO,aZ,aK,aD,aC,List.append_nil,aL,bR,aT,bG,Nat.reduceAdd,aNu,xE,sV,sB,cR,bT,bZ,cU,beq_self_eq_true,fZ,Nat.reduceBEq,rC,qI,rA,kK,aJf,fC,gJ,eZ,xI,G6];rfl
       ·simp only[strip,lI,eS,lH,RX.off,ckF,ckX,zOf,exd,vOf,aD,aC,bD,bC,aF,bA,aM,aF,bS,bY,dR,fT,bB,bI,aJ,aH,dZ,anyPre,Region.binds,aN,aS,aE,if_true,if_false,aX,aU,aI,aO,aZ,aK,aD,aC,List.append_nil,aL,bR,aT,bG,Nat.reduceAdd,aT,bG];rfl
       have hnr:wU ⟨g3.length+5,[]⟩ ks:=by
        rcases hok with⟨rfl,_,_⟩|⟨i0,rfl,_,_⟩
        ·trivial
        ·show g3.length+5≤i0+(g3.length+5);omega
       have hkl:=O3 (ks:=t.kids.take (2*e)) (tk:=w.tk.take e);rw[List.length_take]at hkl;have n1:(g3.length+1+1+1+1<g3.length+5)=True:=eq_true (by omega);simp -implicitDefEqProofs (disch:=omega) only[h2e,h2e',bUi,n1,fB,fP,List.append_nil,go_sem,simprocAttr];repeat refine bX (by omega) ?_
       refine bX hnr ?_;refine gM (pre:=[.box false [.box (fF s) 0],.box false (tmC p),.box false (tmC t)]++(g3++[.box false [.sl (w.u.flatMap prT) w.u.length,.sl (w.tk.map .b) w.tk.length],.box false [.i .i64 8,.i .i64 0,.s [],.s [],ks,.e0]])) (g:=gm) (more:=[.arr false 6 ([.i .i64 ((t.kids.getD (2*e) default)).kind,.i .i64 ((t.kids.getD (2*e) default)).n,.s ((t.kids.getD (2*e) default)).text,.s ((t.kids.getD (2*e) default)).sort,.sl (((t.kids.getD (2*e) default)).kids.flatMap aP) ((t.kids.getD (2*e) default)).kids.length,.sl (((t.kids.getD (2*e) default)).rest.flatMap aP) ((t.kids.getD (2*e) default)).rest.length]++[.i .i64 ((t.kids.getD (2*e+1) default)).kind,.i .i64 ((t.kids.getD (2*e+1) default)).n,.s ((t.kids.getD (2*e+1) default)).text,.s ((t.kids.getD (2*e+1) default)).sort,.sl (((t.kids.getD (2*e+1) default)).kids.flatMap aP) ((t.kids.getD (2*e+1) default)).kids.length,.sl (((t.kids.getD (2*e+1) default)).rest.flatMap aP) ((t.kids.getD (2*e+1) default)).rest.length])]) (news:=[.i .i64 ((t.kids.getD (2*e) default)).kind,.i .i64 ((t.kids.getD (2*e) default)).n,.s ((t.kids.getD (2*e) default)).text,.s ((t.kids.getD (2*e) default)).sort,.sl (((t.kids.getD (2*e) default)).kids.flatMap aP) ((t.kids.getD (2*e) default)).kids.length,.sl (((t.kids.getD (2*e) default)).rest.flatMap aP) ((t.kids.getD (2*e) default)).rest.length]++[.i .i64 ((t.kids.getD (2*e+1) default)).kind,.i .i64 ((t.kids.getD (2*e+1) default)).n,.s ((t.kids.getD (2*e+1) default)).text,.s ((t.kids.getD (2*e+1) default)).sort,.sl (((t.kids.getD (2*e+1) default)).kids.flatMap aP) ((t.kids.getD (2*e+1) default)).kids.length,.sl (((t.kids.getD (2*e+1) default)).rest.flatMap aP) ((t.kids.getD (2*e+1) default)).rest.length]) (m:=2) hok (by simp) ?_ bWm bSq bUa cAg rfl (by decide) ?_ ?_ ⟨by omega,by omega⟩ ?_
       ·simp only[aH,aJ,bU]
       ·simp -implicitDefEqProofs (disch:=omega) only[go_sem,simprocAttr]
       ·simp -implicitDefEqProofs (disch:=omega) only[go_sem,simprocAttr]
       intro out' g' ho' _;rcases ho' with⟨_,_,h3⟩|⟨i1,rfl,hi1,hl1⟩
       ·omega
       simp -implicitDefEqProofs (disch:=omega) only[go_sem,simprocAttr];have hlen:(leftOf (t.kids.take (2*(e+1))) (w.tk.take (e+1))).length=(leftOf (t.kids.take (2*e)) (w.tk.take e)).length+2:=by rw[hls,List.length_append];rfl
       have hcel:(leftOf (t.kids.take (2*(e+1))) (w.tk.take (e+1))).flatMap aP=(leftOf (t.kids.take (2*e)) (w.tk.take e)).flatMap aP++([.i .i64 ((t.kids.getD (2*e) default)).kind,.i .i64 ((t.kids.getD (2*e) default)).n,.s ((t.kids.getD (2*e) default)).text,.s ((t.kids.getD (2*e) default)).sort,.sl (((t.kids.getD (2*e) default)).kids.flatMap aP) ((t.kids.getD (2*e) default)).kids.length,.sl (((t.kids.getD (2*e) default)).rest.flatMap aP) ((t.kids.getD (2*e) default)).rest.length]++[.i .i64 ((t.kids.getD (2*e+1) default)).kind,.i .i64 ((t.kids.getD (2*e+1) default)).n,.s ((t.kids.getD (2*e+1) default)).text,.s ((t.kids.getD (2*e+1) default)).sort,.sl (((t.kids.getD (2*e+1) default)).kids.flatMap aP) ((t.kids.getD (2*e+1) default)).kids.length,.sl (((t.kids.getD (2*e+1) default)).rest.flatMap aP) ((t.kids.getD (2*e+1) default)).rest.length]):=by
        rw[hls,List.flatMap_append,List.flatMap_cons,List.flatMap_cons,List.flatMap_nil,List.append_nil,aW,aW];rfl
       refine⟨(e+1,.hs (i1+(g3.length+5)) 0 ((leftOf (t.kids.take (2*e)) (w.tk.take e)).length+2) false,g'),⟨by dsimp only;omega,.inr ⟨i1,by dsimp only;rw[hlen],?_,?_⟩⟩,by dsimp only;omega,rfl,?_⟩
       ·dsimp only;rw[hcel];exact hi1
       ·dsimp only;rw[hcel,hlen];exact hl1
       ·simp
     ·have hei:¬(e:Int)<((w.tk.length:Nat):Int):=by omega
      obtain rfl:e=w.tk.length:=by omega
      rw[aWi hwl]at hok;have hfl:=bJb (s:=s) (p:=p) (ks:=t.kids) (l:=W.take c);rw[List.length_take]at hfl;have hWl:W.length≤1000:=hb2;generalize hLe:leftOf t.kids w.tk=L at *
      rcases bMx hp (.inr hp8)with hr|⟨r,hr,hr6⟩
      ·have hrl:p.rest.length=0:=by rw[hr];rfl
       have hri:decide (((p.rest.length:Nat):Int)=0)=true:=zt (by omega);have hr0:decide ((0:Int)<((p.rest.length:Nat):Int))=false:=zf (by omega);have hEnd:G2 s p (jQ t.kids w)=if L.length=0 then [w.u]else []:=by rw[G2,if_neg (by omega),jQ,hLe]
       by_cases hL:L.length=0
       ·rw[if_pos hL]at hEnd
        have hLi:((L.length:Nat):Int)=0:=by omega
        rcases hok with⟨rfl,hk2,hk3⟩|⟨i0,rfl,hk2,hk3⟩
        ·simp -implicitDefEqProofs (disch:=omega) only[hri,zf hei,zt hLi,go_sem,simprocAttr];refine gM (pre:=[.box false [.box (fF s) 0],.box false (tmC p),.box false (tmC t)]) (g:=g3++(.box false [.sl (w.u.flatMap prT) w.u.length,.sl (w.tk.map .b) w.tk.length]::.box false [.i .i64 8,.i .i64 0,.s [],.s [],.e0,.e0]::gm)) (more:=[.arr false 1 [.sl (w.u.flatMap prT) (List.length w.u)]]) (news:=[.sl (w.u.flatMap prT) (List.length w.u)]) (m:=1) (ho3.more _) rfl ?_ bWl bSp bTz cAf rfl (by decide) ?_ ?_ ⟨by omega,by omega⟩ ?_
         ·simp only[aH,aJ,bU]
         ·simp -implicitDefEqProofs (disch:=omega) only[go_sem,simprocAttr]
         ·simp -implicitDefEqProofs (disch:=omega) only[go_sem,simprocAttr]
         intro out' g' ho' _;simp -implicitDefEqProofs (disch:=omega) only[go_sem,simprocAttr];refine Z6 (al:=?_) ?_ ?_;rotate_left
         ·simp only[strip,lI,eS,lH,RX.off,ckF,ckX,zOf,exd,vOf,aD,aC,bD,bC,aF,bA,aM,aF,bS,bY,dR,fT,bB,bI,aJ,aH,dZ,anyPre,Region.binds,aN,aS,aE,if_true,if_false,aX,aU,aI,aO,aZ,aK,aD,aC,List.append_nil,aL,bR,aT,bG,Nat.reduceAdd];rfl
         simp -implicitDefEqProofs (disch:=omega) only[go_sem,simprocAttr];refine dF (fun(q:Unit)=>(rp 16 .k (.v (out')::(rp 6 .k (.j::.j::.j::(rp 105 .k (.v (.i .i64 0)::(rp 18 .j [.k,.k,.k])))))))) (fun q=>(.box false [.box (fF s) 0]::.box false (tmC p)::.box false (tmC t)::g')) (fun q=>True) (fun q=>0) (()) trivial rfl (by simp[hZ]) ?_;rintro⟨⟩ j7 -
         simp -implicitDefEqProofs (disch:=omega) only[hr0,go_sem,simprocAttr];refine⟨(c+1,out',g'),⟨by dsimp only;omega,?_⟩,by dsimp only;omega,rfl,by simp⟩;dsimp only;rw[hsc,hEnd,cG,List.length_append];exact ho'
        ·have hgi:(.box false [.box (fF s) 0]::.box false (tmC p)::.box false (tmC t)::(g3++.box false [.sl (w.u.flatMap prT) w.u.length,.sl (w.tk.map .b) w.tk.length]::.box false [.i .i64 8,.i .i64 0,.s [],.s [],(.hs (i0+(g3.length+5)) 0 L.length false),.e0]::gm))[i0+(g3.length+5)]? = some (.arr false 6 (L.flatMap aP)):=by
          rw[show .box false [.box (fF s) 0]::.box false (tmC p)::.box false (tmC t)::(g3++.box false [.sl (w.u.flatMap prT) w.u.length,.sl (w.tk.map .b) w.tk.length]::.box false [.i .i64 8,.i .i64 0,.s [],.s [],(.hs (i0+(g3.length+5)) 0 L.length false),.e0]::gm)=([.box false [.box (fF s) 0],.box false (tmC p),.box false (tmC t)]++(g3++[.box false [.sl (w.u.flatMap prT) w.u.length,.sl (w.tk.map .b) w.tk.length],.box false [.i .i64 8,.i .i64 0,.s [],.s [],(.hs (i0+(g3.length+5)) 0 L.length false),.e0]]):List AObj)++gm by simp,aR (by simp only[List.length_append,aQ,cB];omega),List.length_append,List.length_append];simp only[aQ,cB,dM,Nat.reduceAdd];rw[show i0+(g3.length+5)-(3+(g3.length+2))=i0 by omega];exact hk2
         simp -implicitDefEqProofs (disch:=omega) only[hri,zf hei,zt hLi,hgi,go_sem,simprocAttr];refine gM (pre:=[.box false [.box (fF s) 0],.box false (tmC p),.box false (tmC t)]) (g:=g3++(.box false [.sl (w.u.flatMap prT) w.u.length,.sl (w.tk.map .b) w.tk.length]::.box false [.i .i64 8,.i .i64 0,.s [],.s [],(.hs (i0+(g3.length+5)) 0 L.length false),.e0]::gm)) (more:=[.arr false 1 [.sl (w.u.flatMap prT) (List.length w.u)]]) (news:=[.sl (w.u.flatMap prT) (List.length w.u)]) (m:=1) (ho3.more _) rfl ?_ bWl bSp bTz cAf rfl (by decide) ?_ ?_ ⟨by omega,by omega⟩ ?_
         ·simp only[aH,aJ,bU]
         ·simp -implicitDefEqProofs (disch:=omega) only[go_sem,simprocAttr]
         ·simp -implicitDefEqProofs (disch:=omega) only[go_sem,simprocAttr]
         intro out' g' ho' _;simp -implicitDefEqProofs (disch:=omega) only[go_sem,simprocAttr];refine Z6 (al:=?_) ?_ ?_;rotate_left
         ·simp only[strip,lI,eS,lH,RX.off,ckF,ckX,zOf,exd,vOf,aD,aC,bD,bC,aF,bA,aM,aF,bS,bY,dR,fT,bB,bI,aJ,aH,dZ,anyPre,Region.binds,aN,aS,aE,if_true,if_false,aX,aU,aI,aO,aZ,aK,aD,aC,List.append_nil,aL,bR,aT,bG,Nat.reduceAdd];rfl
         simp -implicitDefEqProofs (disch:=omega) only[go_sem,simprocAttr];refine dF (fun(q:Unit)=>(rp 16 .k (.v (out')::(rp 6 .k (.j::.j::.j::(rp 105 .k (.v (.i .i64 0)::(rp 18 .j [.k,.k,.k])))))))) (fun q=>(.box false [.box (fF s) 0]::.box false (tmC p)::.box false (tmC t)::g')) (fun q=>True) (fun q=>0) (()) trivial rfl (by simp[hZ]) ?_;rintro⟨⟩ j7 -
         simp -implicitDefEqProofs (disch:=omega) only[hr0,go_sem,simprocAttr];refine⟨(c+1,out',g'),⟨by dsimp only;omega,?_⟩,by dsimp only;omega,rfl,by simp⟩;dsimp only;rw[hsc,hEnd,cG,List.length_append];exact ho'
       ·rw[if_neg hL]at hEnd
        have hLi:¬((L.length:Nat):Int)=0:=by omega
        rcases hok with⟨rfl,hk2,hk3⟩|⟨i0,rfl,hk2,hk3⟩
        ·omega
        ·have hgi:(.box false [.box (fF s) 0]::.box false (tmC p)::.box false (tmC t)::(g3++.box false [.sl (w.u.flatMap prT) w.u.length,.sl (w.tk.map .b) w.tk.length]::.box false [.i .i64 8,.i .i64 0,.s [],.s [],(.hs (i0+(g3.length+5)) 0 L.length false),.e0]::gm))[i0+(g3.length+5)]? = some (.arr false 6 (L.flatMap aP)):=by
          rw[show .box false [.box (fF s) 0]::.box false (tmC p)::.box false (tmC t)::(g3++.box false [.sl (w.u.flatMap prT) w.u.length,.sl (w.tk.map .b) w.tk.length]::.box false [.i .i64 8,.i .i64 0,.s [],.s [],(.hs (i0+(g3.length+5)) 0 L.length false),.e0]::gm)=([.box false [.box (fF s) 0],.box false (tmC p),.box false (tmC t)]++(g3++[.box false [.sl (w.u.flatMap prT) w.u.length,.sl (w.tk.map .b) w.tk.length],.box false [.i .i64 8,.i .i64 0,.s [],.s [],(.hs (i0+(g3.length+5)) 0 L.length false),.e0]]):List AObj)++gm by simp,aR (by simp only[List.length_append,aQ,cB];omega),List.length_append,List.length_append];simp only[aQ,cB,dM,Nat.reduceAdd];rw[show i0+(g3.length+5)-(3+(g3.length+2))=i0 by omega];exact hk2
         simp -implicitDefEqProofs (disch:=omega) only[hri,zf hei,zf hLi,hgi,go_sem,simprocAttr];refine Z6 (al:=?_) ?_ ?_;rotate_left
         ·simp only[strip,lI,eS,lH,RX.off,ckF,ckX,zOf,exd,vOf,aD,aC,bD,bC,aF,bA,aM,aF,bS,bY,dR,fT,bB,bI,aJ,aH,dZ,anyPre,Region.binds,aN,aS,aE,if_true,if_false,aX,aU,aI,aO,aZ,aK,aD,aC,List.append_nil,aL,bR,aT,bG,Nat.reduceAdd];rfl
         simp -implicitDefEqProofs (disch:=omega) only[go_sem,simprocAttr];refine dF (fun(q:Unit)=>(rp 16 .k (.v (out3)::(rp 6 .k (.j::.j::.j::(rp 105 .k (.v (.i .i64 0)::(rp 18 .j [.k,.k,.k])))))))) (fun q=>(.box false [.box (fF s) 0]::.box false (tmC p)::.box false (tmC t)::(g3++.box false [.sl (w.u.flatMap prT) w.u.length,.sl (w.tk.map .b) w.tk.length]::.box false [.i .i64 8,.i .i64 0,.s [],.s [],(.hs (i0+(g3.length+5)) 0 L.length false),.e0]::gm))) (fun q=>True) (fun q=>0) (()) trivial rfl (by simp[hZ]) ?_;rintro⟨⟩ j7 -
         simp -implicitDefEqProofs (disch:=omega) only[hr0,go_sem,simprocAttr];refine⟨(c+1,out3,(g3++.box false [.sl (w.u.flatMap prT) w.u.length,.sl (w.tk.map .b) w.tk.length]::.box false [.i .i64 8,.i .i64 0,.s [],.s [],(.hs (i0+(g3.length+5)) 0 L.length false),.e0]::gm)),⟨by dsimp only;omega,?_⟩,by dsimp only;omega,rfl,by simp⟩;dsimp only;rw[hsc,hEnd,List.append_nil];exact ho3.more _
      ·have hrl:p.rest.length=1:=by rw[hr];rfl
       have hri:decide (((p.rest.length:Nat):Int)=0)=false:=zf (by omega);have hn9:=kJ (l:=p.kids) (k:=2*(p.kids.length / 2));have hrk:(p.rest.getD 0 default).kind=6:=by rw[hr];exact hr6
       have hro:OkT (p.rest.getD 0 default):=hp.1.rst _ (cT (by omega));have hlo:OkT (.mk 8 0 [] [] L []):=aEm (fun x hx=>(ht.kid (I0 (hLe▸hx))).1) (by rw[← hLe];exact jT O3 ht.1.kids);have hEnd:G2 s p (jQ t.kids w)=if(yV s (p.rest.getD 0 default) (.mk 8 0 [] [] L []) w.u).2=true then [(yV s (p.rest.getD 0 default) (.mk 8 0 [] [] L []) w.u).1]else []:=by
        rw[G2,if_pos (by omega),← aFa,iT,if_pos hrk,jQ,hLe]
       have cb:=bKk s w.u (p.rest.getD 0 default) (.mk 8 0 [] [] L []) hm hw.asc (hw.u.mono (by omega)) hro hlo;generalize yV s (p.rest.getD 0 default) (.mk 8 0 [] [] L []) w.u=F at *
       obtain⟨v,fl⟩:=F;dsimp only at hEnd cb;simp -implicitDefEqProofs (disch:=omega) only[hri,zf hei,go_sem,simprocAttr];refine bRl (aCy (b:=g3.length+4) (k:=4) (i:=19) (cells:=[.i .i64 8,.i .i64 0,.s [],.s [],ks,.e0]) (x:=ks) ?_ rfl rfl ?_ ?_)
       ·simp -implicitDefEqProofs (disch:=omega) only[go_sem,simprocAttr]
       ·rcases hok with⟨rfl,_,_⟩|⟨i0,rfl,hk2,_⟩
        ·rw[mZ rfl];simp
        ·have hgi:(.box false [.box (fF s) 0]::.box false (tmC p)::.box false (tmC t)::(g3++.box false [.sl (w.u.flatMap prT) w.u.length,.sl (w.tk.map .b) w.tk.length]::.box false [.i .i64 8,.i .i64 0,.s [],.s [],(.hs (i0+(g3.length+5)) 0 L.length false),.e0]::gm))[i0+(g3.length+5)]? = some (.arr false 6 (L.flatMap aP)):=by
          rw[show .box false [.box (fF s) 0]::.box false (tmC p)::.box false (tmC t)::(g3++.box false [.sl (w.u.flatMap prT) w.u.length,.sl (w.tk.map .b) w.tk.length]::.box false [.i .i64 8,.i .i64 0,.s [],.s [],(.hs (i0+(g3.length+5)) 0 L.length false),.e0]::gm)=([.box false [.box (fF s) 0],.box false (tmC p),.box false (tmC t)]++(g3++[.box false [.sl (w.u.flatMap prT) w.u.length,.sl (w.tk.map .b) w.tk.length],.box false [.i .i64 8,.i .i64 0,.s [],.s [],(.hs (i0+(g3.length+5)) 0 L.length false),.e0]]):List AObj)++gm by simp,aR (by simp only[List.length_append,aQ,cB];omega),List.length_append,List.length_append];simp only[aQ,cB,dM,Nat.reduceAdd];rw[show i0+(g3.length+5)-(3+(g3.length+2))=i0 by omega];exact hk2
         have hall:(L.flatMap aP).all aNj=true:=aYb iL;simp -implicitDefEqProofs (disch:=omega) only[yI,hsQ,hgi,hall,aV,go_sem,simprocAttr];omega
       obtain⟨k1,g4,_,k3⟩:=rZ (pre:=[.box false [.box (fF s) 0],.box false (tmC p),.box false (tmC t)]++(g3++[.box false [.sl (w.u.flatMap prT) w.u.length,.sl (w.tk.map .b) w.tk.length],.box false [.i .i64 8,.i .i64 0,.s [],.s [],ks,.e0]])) (g:=gm) (by simpa using hok) iL;simp only[aH,aJ,bU]at k1 k3;rw[k1,k3];simp -implicitDefEqProofs (disch:=omega) only[go_sem,simprocAttr];refine Z6 (al:=?_) ?_ ?_;rotate_left
       ·simp only[strip,lI,eS,lH,RX.off,ckF,ckX,zOf,exd,vOf,aD,aC,bD,bC,aF,bA,aM,aF,bS,bY,dR,fT,bB,bI,aJ,aH,dZ,anyPre,Region.binds,aN,aS,aE,if_true,if_false,aX,aU,aI,aO,aZ,aK,aD,aC,List.append_nil,aL,bR,aT,bG,Nat.reduceAdd];rfl
       simp -implicitDefEqProofs (disch:=omega) only[go_sem,simprocAttr];refine dF (fun(q:Nat×AV×List AObj)=>(rp 16 .k (.v (q.2.1)::(rp 6 .k (.j::.j::.j::(rp 105 .k (.v (.i .i64 (q.1:Nat))::(rp 18 .j [.k,.k,.k])))))))) (fun q=>(.box false [.box (fF s) 0]::.box false (tmC p)::.box false (tmC t)::q.2.2)) (fun q=>(q.1=0∧q.2.1=out3∧q.2.2=g3++.box false [.sl (w.u.flatMap prT) w.u.length,.sl (w.tk.map .b) w.tk.length]::.box false [.i .i64 8,.i .i64 0,.s [],.s [],.sl (L.flatMap aP) L.length,.e0]::g4)∨(q.1=1∧jI 1 3 q.2.2 q.2.1 (((W.take (c+1)).flatMap fun w=>G2 s p (jQ t.kids w)).map avu) ((W.take (c+1)).flatMap fun w=>G2 s p (jQ t.kids w)).length)) (fun q=>1-q.1) ((0,out3,_)) (.inl ⟨rfl,rfl,rfl⟩) rfl (by simp[hZ]) ?_;rintro⟨x,out4,g6⟩ j7 hq;dsimp only at hq;rcases hq with⟨rfl,rfl,rfl⟩|⟨rfl,ho6⟩
       ·have hr1:decide ((0:Int)<((p.rest.length:Nat):Int))=true:=zt (by omega);simp -implicitDefEqProofs (disch:=omega) only[hr1,go_sem,simprocAttr];repeat refine bX (by omega) ?_
        refine dA cb ?_ ?_
        ·simp -implicitDefEqProofs (disch:=omega) only[elT,aW,avu,cM,avt,List.flatMap_nil,cB,go_sem,simprocAttr];trace_state
        cases fl with
        |true=>
         simp -implicitDefEqProofs (disch:=omega) only[avu,go_sem,simprocAttr];rw[if_pos rfl]at hEnd;refine gM (pre:=[.box false [.box (fF s) 0],.box false (tmC p),.box false (tmC t)]) (g:=g3++(.box false [.sl (w.u.flatMap prT) w.u.length,.sl (w.tk.map .b) w.tk.length]::.box false [.i .i64 8,.i .i64 0,.s [],.s [],.sl (L.flatMap aP) L.length,.e0]::g4)) (more:=[.box false (tmC ((p.rest.getD 0 default))),.arr false 1 [.sl (v.flatMap prT) (List.length v)]]) (news:=[.sl (v.flatMap prT) (List.length v)]) (m:=1) (ho3.more _) rfl ?_ bWl bSp bTz cAf rfl (by decide) ?_ ?_ ⟨by omega,by omega⟩ ?_
         ·simp only[aH,aJ,bU]
         ·simp -implicitDefEqProofs (disch:=omega) only[go_sem,simprocAttr]
         ·simp -implicitDefEqProofs (disch:=omega) only[go_sem,simprocAttr]
         intro out' g' ho' _;simp -implicitDefEqProofs (disch:=omega) only[go_sem,simprocAttr];refine⟨(1,out',g'),.inr ⟨rfl,?_⟩,by dsimp only;omega,rfl,by simp⟩;dsimp only;rw[hsc,hEnd,cG,List.length_append];exact ho'
        |false=>
         simp -implicitDefEqProofs (disch:=omega) only[avu,go_sem,simprocAttr];rw[if_neg (by simp)]at hEnd;refine⟨(1,out4,_),.inr ⟨rfl,?_⟩,by dsimp only;omega,rfl,by simp⟩;dsimp only;rw[hsc,hEnd,List.append_nil];exact ho3.more _
       ·have hr1:decide (((1:Nat):Int)<((p.rest.length:Nat):Int))=false:=zf (by omega);have hr2:decide ((1:Int)<((p.rest.length:Nat):Int))=false:=hr1;simp -implicitDefEqProofs (disch:=omega) only[hr1,hr2,go_sem,simprocAttr];refine⟨(c+1,out4,g6),⟨by dsimp only;omega,by dsimp only;exact ho6⟩,by dsimp only;omega,rfl,by simp⟩
    ·have hci:¬(c:Int)<((W.length:Nat):Int):=by omega
     rw[bE (by omega)]at ho3;simp -implicitDefEqProofs (disch:=omega) only[zf hci,go_sem,simprocAttr];rw[uM]at hTe;have cl:=bKj (W.flatMap fun w=>G2 s p (jQ t.kids w));obtain⟨k1,_,_,_⟩:=rZ (pre:=[.box false [cM s],.box false (tmC p),.box false (tmC t)]) ho3 M8;simp only[aH,aJ,cM]at k1;refine wV cl ?_ (fun hm=>⟨by rw[hTe,if_pos (of_decide_eq_true hm)],rfl⟩) (fun hm=>?_)
     ·rw[aK,aZ,k1];rfl
     generalize gU (avw (W.flatMap fun w=>G2 s p (jQ t.kids w))) _ _=H;rw[show ∀H,mat (avw (W.flatMap fun w=>G2 s p (jQ t.kids w))) H=(avw (W.flatMap fun w=>G2 s p (jQ t.kids w)),H)from fun H=>rfl];simp -implicitDefEqProofs (disch:=omega) only[go_sem,simprocAttr];rw[hTe,if_neg (of_decide_eq_false hm)];exact⟨rfl,.inl ⟨rfl,uG _⟩⟩
end Go.Proofs.YtdjcggcjlphdoaaGreatDoor
