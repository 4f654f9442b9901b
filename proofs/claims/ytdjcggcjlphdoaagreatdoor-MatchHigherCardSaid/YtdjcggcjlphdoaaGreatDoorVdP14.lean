/-
  Functions of the chapter, as plain functions of what they are given; no condition.
-/
import Derived.Test.YtdjcggcjlphdoaaGreatDoorVdP13
import Derived.Test.YtdjcggcjlphdoaaGreatDoorVoP24
set_option maxRecDepth 100000
set_option linter.unusedSimpArgs false
set_option linter.unusedVariables false
set_option maxHeartbeats 4000000
namespace Go.Proofs.YtdjcggcjlphdoaaGreatDoor
open Go Go.Vo
open Nat (reduceAdd reduceSub reduceMul reduceLeDiff reduceLT reduceEqDiff)
open Int (reduceNeg)

def tmA (u:LSub):AV:=.mapv ((u.map (·.1)).map .s) ((u.map (·.2)).map elT)
theorem zN:∀ {l:List LTerm},persL (l.map elT)=true
 | []=>rfl
 | t::l=>by rw [aN,persL,zN,elT,pers,vX]; rfl
theorem bCb (u:LSub):pers (tmA u)=true:=by
 rw [tmA,pers,kX,zN]; rfl
theorem aEm (u:LSub):pers (.mapv ((u.map (·.1)).map .s) ((u.map (·.2)).map elT))=true:=bCb u
theorem X9 {u:LSub} {x:Str} (h:mOf u x=none):((u.map (·.1)).findIdx? fun y=>decide (x=y))=none:=by
 rw [eW]
 intro y hy
 obtain ⟨p,hp,rfl⟩:=gK.1 hy
 unfold mOf at h
 rw [Option.map_eq_none_iff,List.find?_eq_none] at h
 have:=h p hp
 simp only [decide_eq_true_eq] at this
 simp
 exact fun e=>this e.symm
theorem X8 {u:LSub} {x:Str} {t:LTerm} (h:mOf u x=some t):∃ j,((u.map (·.1)).findIdx? fun z=>decide (x=z))=some j∧((u.map (·.2)).map elT)[j]? = some (.agg (tmC t)):=by
 induction u with
 | nil=>simp [mOf] at h
 | cons p m ih=>
   unfold mOf at h
   rw [aDq] at h
   by_cases hx:p.1=x
   · rw [zt hx] at h
     simp only [dA,aA] at h
     exact ⟨0,by simp [gS,hx],by simp [h,elT,aS,avt]⟩
   · rw [zf hx] at h
     obtain ⟨j,h1,h2⟩:=ih h
     refine ⟨j+1,?_,by simpa using h2⟩
     rw [aN,gS,zf (fun e=>hx e.symm),h1]; rfl
theorem aPz (x:Value) (w:World):(callFunc 250 #[x]).run Tryz.prog w=((Extern.MapsClone.clone #[x]).run Tryz.prog w).andThen fun v w'=>.ok (.value v) w':=
 run_callFunc_extern Tryz.func250 (by kernel_rfl) (by kernel_rfl) (by kernel_rfl) (by rfl) _ _
theorem bJl (u:LSub) (h:List AObj): ACalls Tryz.prog G0 202 [tmA u] h (fun r h'=>r=.mp h.length∧h'=h++[.map false ((u.map (·.1)).map .s) ((u.map (·.2)).map elT)]):=by
 refine mS (rx:=true) (th:=fun i=>if i=1 then some ⟨none,[],false,false,true,[],[],1000⟩ else if i=3 then some ⟨none,[],false,false,true,[],[],1000⟩ else none) cU Tryz.func202 ?_
 · simp -implicitDefEqProofs (disch:=omega) only [Tryz.f202,go_sem,List.replicate,simprocAttr,tmA]
   refine nJ 1 1 (by simp only [strip,kE,dT,kD,RX.off,ckF,ckX,zOf,exd,vOf,aF,aC,bB,aZ,aH,aX,aM,aH,bM,bP,cZ,eQ,aY,bF,aK,aI,dH,anyPre,Region.binds,aB,aD,aG,if_true,if_false,aT,aQ,aO,aP,aW,aN,aF,aC,List.append_nil,aL,bK,aU,bC,Nat.reduceAdd]; rfl) (by simp only [strip,kE,dT,kD,RX.off,ckF,ckX,zOf,exd,vOf,aF,aC,bB,aZ,aH,aX,aM,aH,bM,bP,cZ,eQ,aY,bF,aK,aI,dH,anyPre,Region.binds,aB,aD,aG,if_true,if_false,aT,aQ,aO,aP,aW,aN,aF,aC,List.append_nil,aL,bK,aU,bC,Nat.reduceAdd]; rfl) ?_
   simp -implicitDefEqProofs (disch:=omega) only [go_sem,simprocAttr]
   intro X w a g r
   refine X4 (T:=104) (j:=3) (m:=tmA u) (ks:=(u.map (·.1)).map .s) (vs:=(u.map (·.2)).map elT) rfl rfl bGm rfl (.inl rfl) ?_ g r
   simp -implicitDefEqProofs (disch:=omega) only [go_sem,simprocAttr]
   clear r g X w a
   refine nJ 1 3 (by simp only [strip,kE,dT,kD,RX.off,ckF,ckX,zOf,exd,vOf,aF,aC,bB,aZ,aH,aX,aM,aH,bM,bP,cZ,eQ,aY,bF,aK,aI,dH,anyPre,Region.binds,aB,aD,aG,if_true,if_false,aT,aQ,aO,aP,aW,aN,aF,aC,List.append_nil,aL,bK,aU,bC,Nat.reduceAdd]; rfl) (by simp only [strip,kE,dT,kD,RX.off,ckF,ckX,zOf,exd,vOf,aF,aC,bB,aZ,aH,aX,aM,aH,bM,bP,cZ,eQ,aY,bF,aK,aI,dH,anyPre,Region.binds,aB,aD,aG,if_true,if_false,aT,aQ,aO,aP,aW,aN,aF,aC,List.append_nil,aL,bK,aU,bC,Nat.reduceAdd]; rfl) ?_
   simp -implicitDefEqProofs (disch:=omega) only [go_sem,simprocAttr]
   intro X w a g r
   refine aDb (T:=104) (j:=5) (d1:=6) (d2:=7) (m:=tmA u) (ks:=(u.map (·.1)).map .s) (vs:=(u.map (·.2)).map elT) rfl rfl rfl rfl rfl rfl rfl rfl aPz bGm rfl (.inl rfl) (by simp) (by simp) ?_ g r
   clear r g X w a
   simp -implicitDefEqProofs (disch:=omega) only [go_sem,simprocAttr]
theorem pD {h:List AObj}:∀ {l:List AV},persL l=true→l.map (gG dep h)=l
 | [],_=>rfl
 | a::l,hl=>by
   rw [persL,aE] at hl
   rw [aN,pD hl.2,fQ,if_pos hl.1]
def bGj (s:eD) (u:LSub) (p q:LTerm):Option LSub:=
 if lZ s (oF s q) p.sort=true then (if p.text=[95] then some u else match mOf u p.text with
   | some o=>if o=q then some u else none
   | none=>some (u++[(p.text,q)])) else none
theorem bCy {u:LSub} {x:Str} {t:LTerm} (hu:∀ p ∈ u,OkT p.2) (h:mOf u x=some t):OkT t:=by
 unfold mOf at h
 obtain ⟨p,hp,rfl⟩:=cS.1 h
 exact hu p (E1 hp)
def bRl (o:Option LSub) (B:LSub→Bool):Bool:=match o with
 | some v=>B v
 | none=>false
theorem bJn (s:eD) (u:LSub) (p q:LTerm) (f:Nat) (fi ca:List AV) (B:LSub→Bool) (hm:Small s) (hu:∀ x ∈ u,OkT x.2) (op:OkT p) (oq:OkT q) (hf:persL fi=true) (hc:persL ca=true) (hY:∀ v,bGj s u p q=some v→CT f (fi++tmA v::ca) (.b (B v))): CT 134 [.agg [cC s],tmA u,elT p,elT q,.fn f fi ca] (.b (bRl (bGj s u p q) B)):=by
 refine dN cU Tryz.func134 g0 ?_
 · simp -implicitDefEqProofs (disch:=omega) only [Tryz.f134,go_sem,List.replicate,simprocAttr,tmA,elT,aS]
   have c2:=aAf s q
   have c3:=aIw s (oF s q) p.sort hm
   simp only [cC] at c2 c3
   rw [bGj]
   by_cases hat:lZ s (oF s q) p.sort=true
   · rw [if_pos hat]
     rw [bGj,if_pos hat] at hY
     rw [hat] at c3
     by_cases hw:p.text=[95]
     · rw [if_pos hw] at hY ⊢
       have cY:=hY u rfl
       (repeat' (first | refine gT ?_ ?_ | refine gF ?_ ?_ | refine gC ?_ ?_ | ((first | (refine bU (c2) ?_ ?_; (focus (simp -implicitDefEqProofs (disch:=omega) only [aB,zt hw,zdB,go_sem,simprocAttr]; done))) | (refine bU (c3) ?_ ?_; (focus (simp -implicitDefEqProofs (disch:=omega) only [aB,zt hw,zdB,go_sem,simprocAttr]; done)))); simp -implicitDefEqProofs (disch:=omega) only [aB,zt hw,go_sem,simprocAttr]) | refine bG (by omega) ?_ | (intro hr; have hc:=hr; (try simp only [zdz] at hc); simp -implicitDefEqProofs (disch:=omega) only [hr,aB,zt hw,go_sem,simprocAttr]; (try clear hr))))
       refine bU cY (by rw [cB,aN,pD hf,pD hc,fQ,if_pos (aEm u)]; rfl) ?_
       refine zg ?_
       exact bR rfl rfl
     · rw [if_neg hw] at hY ⊢
       cases ho:mOf u p.text with
       | some o=>
         rw [ho] at hY
         dsimp only at hY ⊢
         obtain ⟨j,k1,k2⟩:=X8 ho
         have c5:=aFx o q (bCy hu ho) oq
         by_cases hoq:o=q
         · rw [zt hoq] at c5
           rw [if_pos hoq] at hY ⊢
           have cY:=hY u rfl
           (repeat' (first | refine gT ?_ ?_ | refine gF ?_ ?_ | refine gC ?_ ?_ | ((first | (refine bU (c2) ?_ ?_; (focus (simp -implicitDefEqProofs (disch:=omega) only [aB,zf hw,jI,xS,k1,k2,zdB,go_sem,simprocAttr]; done))) | (refine bU (c3) ?_ ?_; (focus (simp -implicitDefEqProofs (disch:=omega) only [aB,zf hw,jI,xS,k1,k2,zdB,go_sem,simprocAttr]; done))) | (refine bU (c5) ?_ ?_; (focus (simp -implicitDefEqProofs (disch:=omega) only [aB,zf hw,jI,xS,k1,k2,zdB,go_sem,simprocAttr]; done)))); simp -implicitDefEqProofs (disch:=omega) only [aB,zf hw,jI,xS,k1,k2,go_sem,simprocAttr]) | refine bG (by omega) ?_ | (intro hr; have hc:=hr; (try simp only [zdz] at hc); simp -implicitDefEqProofs (disch:=omega) only [hr,aB,zf hw,jI,xS,k1,k2,go_sem,simprocAttr]; (try clear hr))))
           refine bU cY (by rw [cB,aN,pD hf,pD hc,fQ,if_pos (aEm u)]; rfl) ?_
           refine zg ?_
           exact bR rfl rfl
         · rw [zf hoq] at c5
           rw [if_neg hoq]
           (repeat' (first | refine gT ?_ ?_ | refine gF ?_ ?_ | refine gC ?_ ?_ | ((first | (refine bU (c2) ?_ ?_; (focus (simp -implicitDefEqProofs (disch:=omega) only [aB,zf hw,jI,xS,k1,k2,zdB,go_sem,simprocAttr]; done))) | (refine bU (c3) ?_ ?_; (focus (simp -implicitDefEqProofs (disch:=omega) only [aB,zf hw,jI,xS,k1,k2,zdB,go_sem,simprocAttr]; done))) | (refine bU (c5) ?_ ?_; (focus (simp -implicitDefEqProofs (disch:=omega) only [aB,zf hw,jI,xS,k1,k2,zdB,go_sem,simprocAttr]; done)))); simp -implicitDefEqProofs (disch:=omega) only [aB,zf hw,jI,xS,k1,k2,go_sem,simprocAttr]) | refine bG (by omega) ?_ | (intro hr; have hc:=hr; (try simp only [zdz] at hc); simp -implicitDefEqProofs (disch:=omega) only [hr,aB,zf hw,jI,xS,k1,k2,go_sem,simprocAttr]; (try clear hr))))
           all_goals exact bR rfl rfl
       | none=>
         rw [ho] at hY
         dsimp only at hY ⊢
         have k1:=X9 ho
         have cY:=hY _ rfl
         (repeat' (first | refine gT ?_ ?_ | refine gF ?_ ?_ | refine gC ?_ ?_ | ((first | (refine bU (c2) ?_ ?_; (focus (simp -implicitDefEqProofs (disch:=omega) only [aB,zf hw,jI,xS,k1,zdB,go_sem,simprocAttr]; done))) | (refine bU (c3) ?_ ?_; (focus (simp -implicitDefEqProofs (disch:=omega) only [aB,zf hw,jI,xS,k1,zdB,go_sem,simprocAttr]; done)))); simp -implicitDefEqProofs (disch:=omega) only [aB,zf hw,jI,xS,k1,go_sem,simprocAttr]) | refine bG (by omega) ?_ | (intro hr; have hc:=hr; (try simp only [zdz] at hc); simp -implicitDefEqProofs (disch:=omega) only [hr,aB,zf hw,jI,xS,k1,go_sem,simprocAttr]; (try clear hr))))
         have c6:=fun h=>bJl u h
         simp only [tmA] at c6
         refine lA (c6 _) ?_
         rintro r h' ⟨rfl,rfl⟩
         refine zh (zA2 @jI.eq_1 (zA2 @xS @k1)) ?_
         refine bU cY ?_ ?_
         · rw [cB,aN,pD hf,pD hc]
           refine zh @zN ?_
           simp [tmA,elT,aS,avt]
         refine zg ?_
         exact bR rfl rfl
   · rw [if_neg hat]
     rw [cT.2 hat] at c3
     (repeat' (first | refine gT ?_ ?_ | refine gF ?_ ?_ | refine gC ?_ ?_ | ((first | (refine bU (c2) ?_ ?_; (focus (simp -implicitDefEqProofs (disch:=omega) only [aD,zdB,go_sem,simprocAttr]; done))) | (refine bU (c3) ?_ ?_; (focus (simp -implicitDefEqProofs (disch:=omega) only [aD,zdB,go_sem,simprocAttr]; done)))); simp -implicitDefEqProofs (disch:=omega) only [aD,go_sem,simprocAttr]) | refine bG (by omega) ?_ | (intro hr; have hc:=hr; (try simp only [zdz] at hc); simp -implicitDefEqProofs (disch:=omega) only [hr,aD,go_sem,simprocAttr]; (try clear hr))))
     all_goals exact bR rfl rfl

abbrev tD:Value:=.iface 138 (.agg #[])
def mD (l:List LSub):Prop:=∀ u ∈ l,AscU u
def aJv (A:AF):Prop:=∀ p t l b,mD l→mD (A p t l b).1
theorem oA:mD []:=fun u hu=>by cases hu
theorem aGi {b:Bool} {l:List LSub} (h:mD l):mD (oN b l).1:=by
 rw [oN]; split
 · exact oA
 · exact h
theorem yG {s:eD} {v t:LTerm} {u:LSub} (h:AscU u):mD (mP s v t u):=by
 rw [mP]
 split
 · split
   · intro x hx; rw [bV.1 hx]; exact h
   · split
     · split
       · intro x hx; rw [bV.1 hx]; exact h
       · exact oA
     · rename_i hn; intro x hx; rw [bV.1 hx]; exact bFi h hn
 · exact oA
theorem aQy {s:eD} {p t:LTerm} {u:LSub} (h:AscU u):mD (iP s p t u):=by
 rw [iP]; split
 · exact yG h
 · split
   · intro x hx; rw [bV.1 hx]; exact h
   · exact oA
theorem aGk {α:Type} {f:α→List LSub} {l:List α} (h:∀ x ∈ l,mD (f x)):mD (l.flatMap f):=fun u hu=>by
 obtain ⟨x,hx,h2⟩:=gZ.1 hu
 exact h x hx u h2
theorem aGo {s:eD} {p t:LTerm} {l:List LSub} {b:Bool} (h:mD l):mD (qJ s p t l b).1:=aGi (aGk fun u hu=>aQy (h u hu))
section
variable {A:AF} {s:eD} {key value:LTerm}
theorem rK (hA:aJv A):∀ {ps ts:List LTerm} {l:List LSub} {b:Bool},mD l→mD (iS A ps ts l b).1
 | [],ts,l,b,h=>by rw [sV]; exact h
 | p::ps,[],l,b,h=>h
 | p::ps,t::ts,l,b,h=>by rw [iS]; exact rK hA (hA _ _ _ _ h)
def aBc (l:List mC):Prop:=∀ w ∈ l,AscU w.u
theorem aQw {w:mC} {k:Nat} (h:AscU w.u):mD (lV s key w k):=by
 rw [lV]
 split
 · exact yG h
 · split
   · intro x hx; rw [bV.1 hx]; exact h
   · exact oA
theorem aGn (hA:aJv A) {w:mC} {k:Nat} {b:Bool} (h:AscU w.u):aBc (pJ A s key value w k b).1:=by
 intro x hx
 rw [pJ] at hx
 obtain ⟨u,hu,rfl⟩:=gK.1 hx
 exact hA _ _ _ _ (aQw h) u hu
theorem aGl (hA:aJv A) {w:mC} (h:AscU w.u) {b:Bool}:∀ k,aBc (mF A s key value w k b).1
 | 0=>fun x hx=>by cases hx
 | k+1=>by
   rw [mF]
   intro x hx
   rcases cR.1 hx with h1 | h1
   · exact aGl hA h k x h1
   · exact aGn hA h x h1
theorem aGm (hA:aJv A):∀ {ws:List mC} {b:Bool},aBc ws→aBc (nX A s key value ws b).1
 | [],b,h=>fun x hx=>by cases hx
 | w::ws,b,h=>by
   rw [nX]
   intro x hx
   rcases cR.1 hx with h1 | h1
   · exact aGl hA (h w (by simp)) _ x h1
   · exact aGm hA (fun w hw=>h w (by simp [hw])) x h1
theorem aQx (hA:aJv A) {ws:List mC} {b:Bool} (h:aBc ws):aBc (nA A s key value ws b).1:=by
 rw [nA]; split
 · exact fun x hx=>by cases hx
 · exact aGm hA h
theorem aGj (hA:aJv A) {p:LTerm} {r:List mC × Bool} (h:aBc r.1):∀ k,aBc (nN A s p k r).1
 | 0=>h
 | k+1=>by rw [nN]; exact aQx hA (aGj hA h k)
theorem bFb {p:LTerm} {w:mC} (h:AscU w.u):mD (zX s p w):=by
 rw [zX]; split
 · exact yG h
 · split
   · intro x hx; rw [bV.1 hx]; exact h
   · exact oA
theorem aQv (hA:aJv A) {p t:LTerm} {l:List LSub} {b:Bool} (h:mD l):mD (jT A s p t l b).1:=by
 rw [jT]
 refine aGi (aGk fun w hw=>bFb (aGj hA (fun x hx=>?_) _ w hw))
 obtain ⟨u,hu,rfl⟩:=gK.1 hx
 exact h u hu
end
theorem wN {s:eD}:∀ n,aJv (eH s n)
 | 0=>fun p t l b h=>oA
 | n + 1=>fun p t l b h=>by
   have hA:=wN (s:=s) n
   rw [eH]
   split
   · split
     · exact rK hA h
     · exact oA
   split
   · split
     · split
       · exact aGo (rK hA h)
       · exact rK hA h
     · exact oA
   split
   · split
     · exact aQv hA h
     · exact oA
   exact aGo h
theorem aZf (l:List LSub): aBe Tryz.prog G0 169 [avw l] (avw l) (decide (1000 < l.length)) tD:=by
 refine kC (rx:=false) (th:=fun _=>none) cU Tryz.func169 rfl (by kernel_rfl) (by kernel_rfl) (ac:=?_) ?_ g0 ?_
 rotate_left
 · simp only [strip,kE,dT,kD,RX.off,ckF,ckX,zOf,exd,vOf,aF,aC,bB,aZ,aH,aX,aM,aH,bM,bP,cZ,eQ,aY,bF,aK,aI,dH,anyPre,Region.binds,aB,aD,aG,if_true,if_false,aT,aQ,aO,aP,aW,aN,aF,aC,List.append_nil]
   rfl
 · simp -implicitDefEqProofs (disch:=omega) only [Tryz.f169,go_sem,List.replicate,simprocAttr,avw]
   by_cases h:(1000:Int) < ((l.length:Nat):Int)
   · have h':1000 < l.length:=by omega
     refine zh (zt h) ?_
     (refine zx0 (zt h) ?_; repeat' first | exact trivial | refine zJ ?_ ?_ | refine zH fun hc=>?_)
     simp -implicitDefEqProofs only [Tryz.underlying138,go_sem]
     exact zt h'
   · have h':¬ 1000 < l.length:=by omega
     refine zh (zf h) ?_
     (refine zx0 (zf h) ?_; repeat' first | exact trivial | refine zJ ?_ ?_ | refine zH fun hc=>?_)
     exact ⟨zf h',.inl ⟨rfl,qY l⟩⟩

theorem aVo {s:eD} {p t:LTerm} {u:LSub} {b:Bool} (h:(uO s p t u).2=b):iP s p t u=if b=true then [(uO s p t u).1] else []:=by rw [Y3,h]
theorem P1 (s:eD) (l:List LSub) (p t:LTerm) (m:Nat) (hm:Small s) (hl:l.length≤1000) (hu:xN m l) (ha:mD l) (hmm:m≤1000000) (op:OkT p) (ot:OkT t) (h5:¬ p.kind=5) (h7:¬ p.kind=7) (h8:¬ p.kind=8): CT 103 [.agg [cC s],avw l,elT p,elT t] (avw (l.flatMap (iP s p t))):=by
 refine dN cU Tryz.func103 g0 ?_
 · simp -implicitDefEqProofs (disch:=omega) only [Tryz.f103,go_sem,List.replicate,simprocAttr,avw,elT,aS]
   refine zh (zA2 (zf h5) (zA2 (zf h7) (zf h8))) ?_
   refine dB (fun (q:Nat × AV × List AObj)=>(rp 9 .k (.v (q.2.1)::.k::.j::.j::.j::(rp 20 .k (.v (.i .i64 (q.1:Nat))::(rp 17 .j [.k,.k])))))) (fun q=>(.box false [cC s]::.box false (tmC p)::.box false (tmC t)::q.2.2)) (fun q=>q.1≤l.length∧gW 1 3 q.2.2 q.2.1 (((l.take q.1).flatMap (iP s p t)).map avu) ((l.take q.1).flatMap (iP s p t)).length) (fun q=>l.length - q.1) ((0,.e0,[])) ⟨bJ _,iI⟩ rfl (by simp [gX]) ?_
   rintro ⟨k,out,g⟩ j ⟨hk,ho⟩
   dsimp only at hk ho
   by_cases hlt:k < l.length
   · have hki:(k:Int) < ((l.length:Nat):Int):=by omega
     have hmm':=cQ (d:=default) hlt
     have hfl:=oS (s:=s) (p:=p) (t:=t) (l:=l.take k)
     rw [cH] at hfl
     have hsucc:=nV (f:=iP s p t) (d:=default) hlt
     have hum:=(hu _ hmm').mono hmm
     have cb:=aZg s (l.getD k default) p t hm (ha _ hmm') hum op ot
     generalize hL:uO s p t (l.getD k default)=L at *
     obtain ⟨v,fl⟩:=L
     have e1:=aVo (s:=s) (p:=p) (t:=t) (u:=l.getD k default) (b:=fl) (by rw [hL])
     rw [hL] at e1
     cases fl with
     | true=>
       refine zh (zA2 (zt hki) @avu.eq_1) ?_
       (refine zy1 (zA2 (zt hki) @avu.eq_1) cb ?_; repeat' first | exact trivial | refine zJ ?_ ?_ | refine zH fun hc=>?_)
       refine eK (pre:=[_,_,_]) (news:=[.sl (v.flatMap prT) (List.length v)]) (m:=1) ho rfl rfl bIx bFx bGw bMd rfl (by decide) (by simp -implicitDefEqProofs (disch:=omega) only [go_sem,simprocAttr]) (by simp -implicitDefEqProofs (disch:=omega) only [go_sem,simprocAttr]) ⟨by omega,by omega⟩ ?_
       intro out' g' ho' _
       refine zg ?_
       refine ⟨(k+1,out',g'),⟨by dsimp only; omega,?_⟩,by dsimp only; omega,rfl,by simp⟩
       dsimp only
       rw [hsucc,e1,cB,List.length_append]
       exact ho'
     | false=>
       refine zh (zA2 (zt hki) @avu.eq_1) ?_
       (refine zy1 (zA2 (zt hki) @avu.eq_1) cb ?_; repeat' first | exact trivial | refine zJ ?_ ?_ | refine zH fun hc=>?_)
       refine ⟨(k+1,out,g),⟨by dsimp only; omega,?_⟩,by dsimp only; omega,rfl,by simp⟩
       dsimp only
       rw [hsucc,e1,if_neg (by simp),List.append_nil]
       exact ho
   · have hki:¬ (k:Int) < ((l.length:Nat):Int):=by omega
     rw [bD (by omega)] at ho
     have hfl:=oS (s:=s) (p:=p) (t:=t) (l:=l)
     have ct:=(aZf (l.flatMap (iP s p t))).1 (zf (by omega))
     refine zh (zf hki) ?_
     obtain ⟨k1,g',k2,k3⟩:=pK (pre:=[.box false [cC s],.box false (tmC p),.box false (tmC t)]) ho zL
     simp only [aI,aK,cC] at k1
     refine bU ct (by rw [aN,aW,k1]; rfl) ?_
     generalize fP (avw (l.flatMap (iP s p t))) _ _=H
     rw [show ∀ H,mat (avw (l.flatMap (iP s p t))) H=(avw (l.flatMap (iP s p t)),H) from fun H=>rfl]
     refine zg ?_
     trace_state
     exact .inl ⟨rfl,qY _⟩
theorem vY:∀ {l:List Bool},persL (l.map AV.b)=true
 | []=>rfl
 | b::l=>by rw [aN,persL,vY]; rfl
attribute [go_sem] vY
theorem aZd (l:List Bool) (hl:l.length≤1000000): CT 204 [.sl (l.map .b) l.length] (.own 1 (l.map .b) l.length):=by
 refine bY cU Tryz.func204 g0 ?_
 · skip
   have b1:(l.length≤140737488355328)=True:=eq_true (by omega)
   refine aYg (fun h=>?_) ?_
   · have:l=[]:=List.eq_nil_of_length_eq_zero h
     subst this
     refine zg ?_
     (refine zs0 ?_; repeat' first | exact trivial | refine zJ ?_ ?_ | refine zH fun hc=>?_)
     all_goals exact .inr ⟨⟨rfl,rfl⟩,fJ,fun i hi=>by cases hi⟩
   · refine zh @b1 ?_
     (refine zx0 @b1 ?_; repeat' first | exact trivial | refine zJ ?_ ?_ | refine zH fun hc=>?_)
     trace_state
     exact .inr ⟨⟨rfl,rfl,_,rfl,by simp,by rw [bC,bD (by simp)],vY⟩,by simp [cV],by simp [cV,jJ]⟩
end Go.Proofs.YtdjcggcjlphdoaaGreatDoor
