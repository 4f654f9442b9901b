/-
  Functions of the chapter, as plain functions of what they are given; no condition.
-/
import Derived.Test.YtdjcggcjlphdoaaGreatDoorVdP19
import Derived.Test.YtdjcggcjlphdoaaGreatDoorVeP11
import Derived.Test.YtdjcggcjlphdoaaGreatDoorVaP13
set_option maxRecDepth 100000
set_option linter.unusedSimpArgs false
set_option linter.unusedVariables false
set_option maxHeartbeats 4000000
namespace Go.Proofs.YtdjcggcjlphdoaaGreatDoor
open Go Go.Vo
open Nat (reduceAdd reduceSub reduceMul reduceLeDiff reduceLT reduceEqDiff)
open Int (reduceNeg)

mutual
def rsT:LTerm→List Str
 | .mk k n x so ks rs=>rs.map LTerm.text++rsL ks
def rsL:List LTerm→List Str
 | []=>[]
 | t::l=>rsT t++rsL l
end
theorem bHc (t:LTerm):rsT t=t.rest.map LTerm.text++rsL t.kids:=by cases t; rw [rsT]; rfl
mutual
theorem aLq:∀ t:LTerm,(rsT t).length≤nodesT t
 | .mk k n x so ks rs=>by
   have h:=rsL_len ks
   rw [rsT,nodesT,List.length_append,dC]; omega
theorem rsL_len:∀ l:List LTerm,(rsL l).length≤nodesL l
 | []=>by rw [rsL]; simp
 | t::l=>by
   have h1:=aLq t
   have h2:=rsL_len l
   rw [rsL,nodesL,List.length_append]; omega
end
theorem aLr:∀ {a b:List LTerm},rsL (a++b)=rsL a++rsL b
 | [],b=>by rw [rsL]; rfl
 | t::a,b=>by rw [aI,rsL,rsL,aLr,cD]
abbrev StK (l':List Str) (h:List AObj):AV→List AObj→Prop:=fun r h'=>gW 1 0 h' r (l'.map .s) l'.length∧oW 0 h h'
theorem bUl (t:LTerm) (l:List Str) (out:AV) (h:List AObj) (ht:OkT t) (hl:l.length+nodesT t≤1000000) (ho:gW 1 0 h out (l.map .s) l.length) (ih:∀ k ∈ t.kids,∀ (l:List Str) (out:AV) (h:List AObj),l.length+nodesT k≤1000000→gW 1 0 h out (l.map .s) l.length→ACalls Tryz.prog G0 37 [out,elT k] h (StK (l++rsT k) h)): ACalls Tryz.prog G0 37 [out,elT t] h (StK (l++rsT t) h):=by
 refine kF (rx:=false) (th:=fun _=>none) cU Tryz.func37 ?_
 · simp -implicitDefEqProofs (disch:=omega) only [Tryz.f37,go_sem,List.replicate,simprocAttr,elT,aS]
   have hno:=eI t
   have hkl:=lM t.kids
   refine dB (fun (s:Nat × AV × List AObj)=>[.v (s.2.1),.k,.k,.k,.k,.k,.j,.k,.k,.k,.k,.k,.v (.i .i64 (s.1:Nat)),.j,.j,.j,.j,.j,.j,.j,.j,.j,.k,.k,.k,.k,.k,.k,.k,.k,.k,.k,.k,.k]) (fun s=>s.2.2) (fun s=>s.1≤t.rest.length∧gW 1 0 s.2.2 s.2.1 ((l++(t.rest.take s.1).map LTerm.text).map .s) (l++(t.rest.take s.1).map LTerm.text).length∧oW 0 (h++[.box false (tmC t)]) s.2.2) (fun s=>t.rest.length - s.1) ((0,out,h++[.box false (tmC t)])) ⟨bJ _,(by simpa using ho.more _),.refl _ _⟩ rfl (by simp [gX]) ?_
   rintro ⟨k,out2,H⟩ j ⟨hk1,hi2,hs2⟩
   dsimp only at hk1 hi2 hs2
   have hbx:H[h.length]? = some (.box false (tmC t)):=hs2 _ _ (bJ _) (by simp)
   by_cases hlt:k < t.rest.length
   · have hki:decide ((k:Int) < ((t.rest.length:Nat):Int))=true:=zt (by omega)
     have hX:(l++(t.rest.take (k+1)).map LTerm.text)=(l++(t.rest.take k).map LTerm.text)++[(t.rest.getD k default).text]:=by rw [eN hlt,cB,cD]; rfl
     have hl1:(l++(t.rest.take k).map LTerm.text).length≤1000000:=by rw [List.length_append,dC,cH]; omega
     simp -implicitDefEqProofs (disch:=omega) only [hki,hbx,go_sem,simprocAttr]
     repeat refine bG (by omega) ?_
     refine eK (N:=0) (pre:=[]) (g:=H) (more:=[.box false (tmC ((t.rest.getD k default))),.arr false 1 [.s (t.rest.getD k default).text]]) (news:=[.s (t.rest.getD k default).text]) (m:=1) hi2 rfl rfl bIy zo9 sz9 by9 rfl (by decide) ?_ ?_ ⟨by omega,by omega⟩ ?_
     · simp -implicitDefEqProofs (disch:=omega) only [go_sem,simprocAttr]
     · simp -implicitDefEqProofs (disch:=omega) only [go_sem,simprocAttr]
     intro out' g' ho' hkp
     have ho2:gW 1 0 g' out' ((l++(t.rest.take (k+1)).map LTerm.text).map .s) (l++(t.rest.take (k+1)).map LTerm.text).length:=by rw [hX,cB,List.length_append]; exact ho'
     have hk2:oW 0 (h++[.box false (tmC t)]) g':=fun i z hi hz=>hkp i _ (hs2 i z hi hz) (fun c hc=>by cases hc)
     simp -implicitDefEqProofs (disch:=omega) only [go_sem,simprocAttr]
     exact ⟨(k+1,out',g'),⟨by dsimp only; omega,by simpa using ho2,hk2⟩,by dsimp only; omega,rfl,by simp⟩
   · have hki:decide ((k:Int) < ((t.rest.length:Nat):Int))=false:=zf (by omega)
     obtain rfl:k=t.rest.length:=by omega
     rw [bD (bQ _)] at hi2
     simp -implicitDefEqProofs (disch:=omega) only [hki,hbx,go_sem,simprocAttr]
     refine dB (fun (s:Nat × AV × List AObj)=>[.v (s.2.1),.k,.k,.k,.k,.k,.k,.k,.j,.k,.k,.k,.k,.k,.k,.k,.k,.k,.k,.k,.k,.k,.k,.k,.k,.v (.i .i64 (s.1:Nat)),.j,.j,.j,.j,.j,.j,.j,.k]) (fun s=>s.2.2) (fun s=>s.1≤t.kids.length∧gW 1 0 s.2.2 s.2.1 ((l++t.rest.map LTerm.text++rsL (t.kids.take s.1)).map .s) (l++t.rest.map LTerm.text++rsL (t.kids.take s.1)).length∧oW 0 (h++[.box false (tmC t)]) s.2.2) (fun s=>t.kids.length - s.1) ((0,out2,H)) ⟨bJ _,(by simpa [rsL] using hi2),hs2⟩ rfl (by simp [gX]) ?_
     rintro ⟨k,out3,H3⟩ j2 ⟨hk3,hi3,hs3⟩
     dsimp only at hk3 hi3 hs3
     have hbx3:H3[h.length]? = some (.box false (tmC t)):=hs3 _ _ (bJ _) (by simp)
     by_cases hlt3:k < t.kids.length
     · have hki3:decide ((k:Int) < ((t.kids.length:Nat):Int))=true:=zt (by omega)
       have hX3:rsL (t.kids.take (k+1))=rsL (t.kids.take k)++rsT (t.kids.getD k default):=by rw [eN hlt3,aLr,rsL,rsL,List.append_nil]
       have hm:=cQ (d:=default) hlt3
       have hr1:=rsL_len (t.kids.take k)
       have hnt:=iL (l:=t.kids) (k:=k+1)
       have hnd:nodesL (t.kids.take (k+1))=nodesL (t.kids.take k)+nodesT (t.kids.getD k default):=by rw [eN hlt3,zW,aIh]
       have cc:=ih _ hm (l++t.rest.map LTerm.text++rsL (t.kids.take k)) out3 (H3++[.box false (tmC ((t.kids.getD k default)))]) (by rw [List.length_append,List.length_append,dC]; omega) (hi3.more _)
       rw [cD,← hX3] at cc
       simp -implicitDefEqProofs (disch:=omega) only [hki3,hbx3,go_sem,simprocAttr]
       repeat refine bG (by omega) ?_
       rw [elT,aS] at cc
       refine lA cc ?_
       rintro r' h' ⟨ho',hk'⟩
       simp -implicitDefEqProofs (disch:=omega) only [go_sem,simprocAttr]
       exact ⟨(k+1,r',h'),⟨by dsimp only; omega,by simpa using ho',(hs3.trans (.app _ _ _)).trans hk'⟩,by dsimp only; omega,rfl,by simp⟩
     · have hki3:decide ((k:Int) < ((t.kids.length:Nat):Int))=false:=zf (by omega)
       obtain rfl:k=t.kids.length:=by omega
       rw [bD (bQ _),cD,← bHc] at hi3
       simp -implicitDefEqProofs (disch:=omega) only [hki3,hbx3,go_sem,simprocAttr]
       exact ⟨hi3,(oW.app _ _ _).trans hs3⟩
theorem bRj:∀ (n:Nat) (t:LTerm),OkT t→nodesT t≤n→∀ (l:List Str) (out:AV) (h:List AObj),l.length+nodesT t≤1000000→gW 1 0 h out (l.map .s) l.length→ACalls Tryz.prog G0 37 [out,elT t] h (StK (l++rsT t) h)
 | 0,t,_,h=>by rw [eI] at h; omega
 | n+1,t,ht,h=>fun l out hp hl ho=>by
   have hno:=eI t
   exact bUl t l out hp ht hl ho fun k hk=>bRj n k (ht.kid k hk) (by have:=(iX hk).1; omega)
theorem N8 {R:List Str} {l:List LTerm} {k:Nat} (h:k < l.length):hiL R (l.take (k+1))=hiL R (l.take k)++[hiT R (l.getD k default)]:=by
 have app:∀ {a b:List LTerm},hiL R (a++b)=hiL R a++hiL R b:=by
   intro a
   induction a with
   | nil=>intro b; rw [hiL]; rfl
   | cons x a ih=>intro b; rw [aI,hiL,hiL,ih,aI]
 rw [eN h,app,hiL,hiL]
theorem aOr {k n:Int} {x so:Str} {ks rs:List LTerm} {out:AV} {B1 B2 B3:AObj} {g:List AObj} (ho:gW 6 3 g out (ks.flatMap aV) ks.length) :
   Vo.Fin (B1::B2::B3::g) (.agg [.i .i64 k,.i .i64 n,.s x,.s so,out,.sl (rs.flatMap aV) rs.length]) (elT (.mk k n x so ks rs)):=by
 have f:=aOo (pre:=[B1,B2,B3]) (g:=g) ho iW
 have e:elT (.mk k n x so ks rs)=.agg [.i .i64 k,.i .i64 n,.s x,.s so,.sl (ks.flatMap aV) ks.length,.sl (rs.flatMap aV) rs.length]:=by rw [elT,aS]; rfl
 rw [e]
 rcases ho with ⟨rfl,hc,hn⟩ | ⟨i,rfl,hi,hl⟩
 · rw [hc,hn]
   exact .inr ⟨⟨rfl,rfl,rfl,rfl,rfl,(by show AV.sl _ _=gG dep _ _; rw [fQ,if_pos (show pers (AV.sl _ _)=true from iW)]),trivial⟩,by simp [cV,finIdsL],by simp [cV,finIdsL]⟩
 · have hg:(B1::B2::B3::g)[i+3]? = some (.arr false 6 (ks.flatMap aV)):=by simpa using hi
   have hd:((ks.flatMap aV).drop 0).take (ks.length * 6)=ks.flatMap aV:=by rw [bC,bD (by omega)]
   have e1:nE (B1::B2::B3::g) (.hs (i+3) 0 ks.length false) (.sl (ks.flatMap aV) ks.length):=by
     show AV.sl _ _=gG dep _ _
     simp only [fQ,pers,qH,hg,hd,show persL (ks.flatMap aV)=true from iW,if_true,aG,if_false]
     rw [if_pos (by omega)]
   exact .inr ⟨⟨rfl,rfl,rfl,rfl,e1,(by show AV.sl _ _=gG dep _ _; rw [fQ,if_pos (show pers (AV.sl _ _)=true from iW)]),trivial⟩,by simp [cV,finIdsL],by simp [cV,finIdsL]⟩
theorem hi1 (ns:List Str) (t:LTerm) (ht:OkT t) (hRl:ns.length≤1000000) (hkl:t.kids.length≤1000000) (ih:∀ k ∈ t.kids,CT 36 [elT k,.sl (ns.map .s) ns.length] (elT (hiT ns k))): CT 36 [elT t,.sl (ns.map .s) ns.length] (elT (hiT ns t)):=by
 refine gH (rx:=true) (th:=fun i=>if i=8 then some ⟨none,[],true,false,false,[],[],0⟩ else none) cU Tryz.func36 g0 ?_
 · generalize hR:((elT (hiT ns t)):AV)=R
   simp -implicitDefEqProofs (disch:=omega) only [Tryz.f36,go_sem,List.replicate,simprocAttr,elT,aS]
   have c27:=bQm ns t.text (by omega)
   simp only [avs] at c27
   by_cases h6:t.kind=6
   · by_cases hx:t.text ∈ ns
     · have hc:¬ (t.kind=6∧t.text ∉ ns):=fun h=>h.2 hx
       rw [show ns.contains t.text=true by simpa using hx] at c27
       simp -implicitDefEqProofs (disch:=omega) only [zt h6,go_sem,simprocAttr]
       (repeat' (first | refine gT ?_ ?_ | refine gF ?_ ?_ | refine gC ?_ ?_ | ((refine bU (c27) ?_ ?_; (focus (simp -implicitDefEqProofs (disch:=omega) only [zt h6,aB,zdB,go_sem,simprocAttr]; done))); simp -implicitDefEqProofs (disch:=omega) only [zt h6,aB,go_sem,simprocAttr]) | refine bG (by omega) ?_ | (intro hr; have hc:=hr; (try simp only [zdz] at hc); simp -implicitDefEqProofs (disch:=omega) only [hr,zt h6,aB,go_sem,simprocAttr]; (try clear hr))))
       refine dB (fun (v:Nat × AV × List AObj)=>(rp 7 .k (.j::(rp 16 .k (.v (.i .i64 (v.1:Nat))::(rp 12 .j [.k])))))) (fun v=>(.box false (tmC t)::.box false [.i .i64 0,.i .i64 0,.s [],.s [],.e0,.e0]::.box false [.i .i64 t.kind,.i .i64 t.n,.s t.text,.s t.sort,v.2.1,.sl (t.rest.flatMap aV) t.rest.length]::v.2.2)) (fun v=>v.1≤t.kids.length∧gW 6 3 v.2.2 v.2.1 ((hiL ns (t.kids.take v.1)).flatMap aV) (hiL ns (t.kids.take v.1)).length) (fun v=>t.kids.length - v.1) ((0,.e0,[])) ⟨bJ _,iI⟩ rfl (by simp [gX]) ?_
       rintro ⟨k,out,g⟩ j ⟨hk1,hb⟩
       dsimp only at hk1 hb
       by_cases hlt:k < t.kids.length
       · have hki:decide ((k:Int) < ((t.kids.length:Nat):Int))=true:=zt (by omega)
         have cc:=ih _ (cQ (d:=default) hlt)
         have hs:=N8 (R:=ns) hlt
         have hll:=tF ns (t.kids.take k)
         rw [cH] at hll
         generalize hiT ns (t.kids.getD k default)=T at *
         simp only [elT,aS,avt] at cc
         simp -implicitDefEqProofs (disch:=omega) only [hki,go_sem,simprocAttr]
         repeat refine bG (by omega) ?_
         (repeat' (first | refine gT ?_ ?_ | refine gF ?_ ?_ | refine gC ?_ ?_ | ((refine bU (cc) ?_ ?_; (focus (simp -implicitDefEqProofs (disch:=omega) only [zdB,go_sem,simprocAttr]; done))); simp -implicitDefEqProofs (disch:=omega) only [go_sem,simprocAttr]) | refine bG (by omega) ?_ | (intro hr; have hc:=hr; (try simp only [zdz] at hc); simp -implicitDefEqProofs (disch:=omega) only [hr,go_sem,simprocAttr]; (try clear hr))))
         simp -implicitDefEqProofs (disch:=omega) only [nW,dY,fC,List.append_nil,go_sem,simprocAttr]
         refine eK (N:=3) (pre:=[.box false (tmC t),.box false [.i .i64 0,.i .i64 0,.s [],.s [],.e0,.e0],.box false [.i .i64 t.kind,.i .i64 t.n,.s t.text,.s t.sort,out,.sl (t.rest.flatMap aV) t.rest.length]]) (g:=g) (more:=[.box false (tmC ((t.kids.getD k default)))]) (news:=(tmC T)) (m:=1) hb rfl ?_ aZb aXm aXq aZx rfl (by decide) ?_ ?_ ⟨by omega,by omega⟩ ?_
         · simp only [aI,aK,cD]
         · simp -implicitDefEqProofs (disch:=omega) only [go_sem,simprocAttr]
         · simp -implicitDefEqProofs (disch:=omega) only [go_sem,simprocAttr]
         intro out' g' ho' _
         rcases ho' with ⟨_,_,h3⟩ | ⟨i1,rfl,hi1,hl1⟩
         · omega
         simp -implicitDefEqProofs (disch:=omega) only [go_sem,simprocAttr]
         refine ⟨(k+1,.hs (i1+3) 0 ((hiL ns (t.kids.take k)).length+1) false,g'),⟨by dsimp only; omega,.inr ⟨i1,by dsimp only; rw [hs]; simp,?_,?_⟩⟩,by dsimp only; omega,rfl,by simp⟩
         · dsimp only
           rw [hs,List.flatMap_append,List.flatMap_cons,List.flatMap_nil,List.append_nil,aS]
           exact hi1
         · dsimp only
           rw [hs,List.flatMap_append,List.flatMap_cons,List.flatMap_nil,List.append_nil,aS]
           simpa using hl1
       · have hki:decide ((k:Int) < ((t.kids.length:Nat):Int))=false:=zf (by omega)
         obtain rfl:k=t.kids.length:=by omega
         rw [bD (bQ _)] at hb
         simp -implicitDefEqProofs (disch:=omega) only [hki,go_sem,simprocAttr]
         rw [lX,if_neg hc] at hR
         subst hR
         exact aOr hb
     · have hc:t.kind=6∧t.text ∉ ns:=⟨h6,hx⟩
       rw [show ns.contains t.text=false by simpa using hx] at c27
       simp -implicitDefEqProofs (disch:=omega) only [zt h6,go_sem,simprocAttr]
       (repeat' (first | refine gT ?_ ?_ | refine gF ?_ ?_ | refine gC ?_ ?_ | ((refine bU (c27) ?_ ?_; (focus (simp -implicitDefEqProofs (disch:=omega) only [zt h6,aD,zdB,go_sem,simprocAttr]; done))); simp -implicitDefEqProofs (disch:=omega) only [zt h6,aD,go_sem,simprocAttr]) | refine bG (by omega) ?_ | (intro hr; have hc:=hr; (try simp only [zdz] at hc); simp -implicitDefEqProofs (disch:=omega) only [hr,zt h6,aD,go_sem,simprocAttr]; (try clear hr))))
       refine dB (fun (v:Nat × AV × List AObj)=>(rp 7 .k (.j::(rp 16 .k (.v (.i .i64 (v.1:Nat))::(rp 12 .j [.k])))))) (fun v=>(.box false (tmC t)::.box false [.i .i64 0,.i .i64 0,.s [],.s [],.e0,.e0]::.box false [.i .i64 t.kind,.i .i64 t.n,.s t.text,.s wP,v.2.1,.sl (t.rest.flatMap aV) t.rest.length]::v.2.2)) (fun v=>v.1≤t.kids.length∧gW 6 3 v.2.2 v.2.1 ((hiL ns (t.kids.take v.1)).flatMap aV) (hiL ns (t.kids.take v.1)).length) (fun v=>t.kids.length - v.1) ((0,.e0,[])) ⟨bJ _,iI⟩ rfl (by simp [gX]) ?_
       rintro ⟨k,out,g⟩ j ⟨hk1,hb⟩
       dsimp only at hk1 hb
       by_cases hlt:k < t.kids.length
       · have hki:decide ((k:Int) < ((t.kids.length:Nat):Int))=true:=zt (by omega)
         have cc:=ih _ (cQ (d:=default) hlt)
         have hs:=N8 (R:=ns) hlt
         have hll:=tF ns (t.kids.take k)
         rw [cH] at hll
         generalize hiT ns (t.kids.getD k default)=T at *
         simp only [elT,aS,avt] at cc
         simp -implicitDefEqProofs (disch:=omega) only [hki,go_sem,simprocAttr]
         repeat refine bG (by omega) ?_
         (repeat' (first | refine gT ?_ ?_ | refine gF ?_ ?_ | refine gC ?_ ?_ | ((refine bU (cc) ?_ ?_; (focus (simp -implicitDefEqProofs (disch:=omega) only [zdB,go_sem,simprocAttr]; done))); simp -implicitDefEqProofs (disch:=omega) only [go_sem,simprocAttr]) | refine bG (by omega) ?_ | (intro hr; have hc:=hr; (try simp only [zdz] at hc); simp -implicitDefEqProofs (disch:=omega) only [hr,go_sem,simprocAttr]; (try clear hr))))
         simp -implicitDefEqProofs (disch:=omega) only [nW,dY,fC,List.append_nil,go_sem,simprocAttr]
         refine eK (N:=3) (pre:=[.box false (tmC t),.box false [.i .i64 0,.i .i64 0,.s [],.s [],.e0,.e0],.box false [.i .i64 t.kind,.i .i64 t.n,.s t.text,.s wP,out,.sl (t.rest.flatMap aV) t.rest.length]]) (g:=g) (more:=[.box false (tmC ((t.kids.getD k default)))]) (news:=(tmC T)) (m:=1) hb rfl ?_ aZb aXm aXq aZx rfl (by decide) ?_ ?_ ⟨by omega,by omega⟩ ?_
         · simp only [aI,aK,cD]
         · simp -implicitDefEqProofs (disch:=omega) only [go_sem,simprocAttr]
         · simp -implicitDefEqProofs (disch:=omega) only [go_sem,simprocAttr]
         intro out' g' ho' _
         rcases ho' with ⟨_,_,h3⟩ | ⟨i1,rfl,hi1,hl1⟩
         · omega
         simp -implicitDefEqProofs (disch:=omega) only [go_sem,simprocAttr]
         refine ⟨(k+1,.hs (i1+3) 0 ((hiL ns (t.kids.take k)).length+1) false,g'),⟨by dsimp only; omega,.inr ⟨i1,by dsimp only; rw [hs]; simp,?_,?_⟩⟩,by dsimp only; omega,rfl,by simp⟩
         · dsimp only
           rw [hs,List.flatMap_append,List.flatMap_cons,List.flatMap_nil,List.append_nil,aS]
           exact hi1
         · dsimp only
           rw [hs,List.flatMap_append,List.flatMap_cons,List.flatMap_nil,List.append_nil,aS]
           simpa using hl1
       · have hki:decide ((k:Int) < ((t.kids.length:Nat):Int))=false:=zf (by omega)
         obtain rfl:k=t.kids.length:=by omega
         rw [bD (bQ _)] at hb
         simp -implicitDefEqProofs (disch:=omega) only [hki,go_sem,simprocAttr]
         rw [lX,if_pos hc] at hR
         subst hR
         exact aOr hb
   · have hc:¬ (t.kind=6∧t.text ∉ ns):=fun h=>h6 h.1
     simp -implicitDefEqProofs (disch:=omega) only [zf h6,go_sem,simprocAttr]
     refine dB (fun (v:Nat × AV × List AObj)=>(rp 7 .k (.j::(rp 16 .k (.v (.i .i64 (v.1:Nat))::(rp 12 .j [.k])))))) (fun v=>(.box false (tmC t)::.box false [.i .i64 0,.i .i64 0,.s [],.s [],.e0,.e0]::.box false [.i .i64 t.kind,.i .i64 t.n,.s t.text,.s t.sort,v.2.1,.sl (t.rest.flatMap aV) t.rest.length]::v.2.2)) (fun v=>v.1≤t.kids.length∧gW 6 3 v.2.2 v.2.1 ((hiL ns (t.kids.take v.1)).flatMap aV) (hiL ns (t.kids.take v.1)).length) (fun v=>t.kids.length - v.1) ((0,.e0,[])) ⟨bJ _,iI⟩ rfl (by simp [gX]) ?_
     rintro ⟨k,out,g⟩ j ⟨hk1,hb⟩
     dsimp only at hk1 hb
     by_cases hlt:k < t.kids.length
     · have hki:decide ((k:Int) < ((t.kids.length:Nat):Int))=true:=zt (by omega)
       have cc:=ih _ (cQ (d:=default) hlt)
       have hs:=N8 (R:=ns) hlt
       have hll:=tF ns (t.kids.take k)
       rw [cH] at hll
       generalize hiT ns (t.kids.getD k default)=T at *
       simp only [elT,aS,avt] at cc
       simp -implicitDefEqProofs (disch:=omega) only [hki,go_sem,simprocAttr]
       repeat refine bG (by omega) ?_
       (repeat' (first | refine gT ?_ ?_ | refine gF ?_ ?_ | refine gC ?_ ?_ | ((refine bU (cc) ?_ ?_; (focus (simp -implicitDefEqProofs (disch:=omega) only [zdB,go_sem,simprocAttr]; done))); simp -implicitDefEqProofs (disch:=omega) only [go_sem,simprocAttr]) | refine bG (by omega) ?_ | (intro hr; have hc:=hr; (try simp only [zdz] at hc); simp -implicitDefEqProofs (disch:=omega) only [hr,go_sem,simprocAttr]; (try clear hr))))
       simp -implicitDefEqProofs (disch:=omega) only [nW,dY,fC,List.append_nil,go_sem,simprocAttr]
       refine eK (N:=3) (pre:=[.box false (tmC t),.box false [.i .i64 0,.i .i64 0,.s [],.s [],.e0,.e0],.box false [.i .i64 t.kind,.i .i64 t.n,.s t.text,.s t.sort,out,.sl (t.rest.flatMap aV) t.rest.length]]) (g:=g) (more:=[.box false (tmC ((t.kids.getD k default)))]) (news:=(tmC T)) (m:=1) hb rfl ?_ aZb aXm aXq aZx rfl (by decide) ?_ ?_ ⟨by omega,by omega⟩ ?_
       · simp only [aI,aK,cD]
       · simp -implicitDefEqProofs (disch:=omega) only [go_sem,simprocAttr]
       · simp -implicitDefEqProofs (disch:=omega) only [go_sem,simprocAttr]
       intro out' g' ho' _
       rcases ho' with ⟨_,_,h3⟩ | ⟨i1,rfl,hi1,hl1⟩
       · omega
       simp -implicitDefEqProofs (disch:=omega) only [go_sem,simprocAttr]
       refine ⟨(k+1,.hs (i1+3) 0 ((hiL ns (t.kids.take k)).length+1) false,g'),⟨by dsimp only; omega,.inr ⟨i1,by dsimp only; rw [hs]; simp,?_,?_⟩⟩,by dsimp only; omega,rfl,by simp⟩
       · dsimp only
         rw [hs,List.flatMap_append,List.flatMap_cons,List.flatMap_nil,List.append_nil,aS]
         exact hi1
       · dsimp only
         rw [hs,List.flatMap_append,List.flatMap_cons,List.flatMap_nil,List.append_nil,aS]
         simpa using hl1
     · have hki:decide ((k:Int) < ((t.kids.length:Nat):Int))=false:=zf (by omega)
       obtain rfl:k=t.kids.length:=by omega
       rw [bD (bQ _)] at hb
       simp -implicitDefEqProofs (disch:=omega) only [hki,go_sem,simprocAttr]
       rw [lX,if_neg hc] at hR
       subst hR
       exact aOr hb

theorem hiC (ns:List Str) (hRl:ns.length≤1000000):∀ (n:Nat) (t:LTerm),OkT t→nodesT t≤n→n≤1000000→CT 36 [elT t,.sl (ns.map .s) ns.length] (elT (hiT ns t))
 | 0,t,_,h,_=>by rw [eI] at h; omega
 | n+1,t,ht,h,hn=>by
   have hno:=eI t
   have hkl:=lM t.kids
   exact hi1 ns t ht hRl (by omega) fun k hk=>hiC ns hRl n k (ht.kid k hk) (by have:=(iX hk).1; omega) (by omega)
theorem bIl (ns:List Str):∀ (n:Nat) (t:LTerm),nodesT t≤n→OkT t→OkT (hiT ns t)
 | 0,t,h,_=>by rw [eI] at h; omega
 | n + 1,t,h,ht=>by
   have hno:=eI t
   rw [lX]
   refine .mk ht.text ?_ ht.nlo ht.nhi (by show (hiL ns t.kids).length≤_; rw [tF]; exact ht.kids) ht.rest ?_ ht.rst
   · show (if t.kind=6∧t.text ∉ ns then wP else t.sort).length≤_
     split
     · decide
     · exact ht.sort
   · have go:∀ l:List LTerm,(∀ k ∈ l,OkT k)→nodesL l≤n→∀ k ∈ hiL ns l,OkT k:=by
       intro l
       induction l with
       | nil=>intro _ _ k hk; rw [hiL] at hk; cases hk
       | cons a l ih=>
         intro ho hn k hk
         rw [nodesL] at hn
         rw [hiL] at hk
         rcases dE.1 hk with rfl | hk
         · exact bIl ns n a (by omega) (ho a List.mem_cons_self)
         · exact ih (fun k hk=>ho k (fB _ hk)) (by omega) k hk
     exact go t.kids ht.kid (by omega)
theorem Y2 {t:LTerm} (h:eG t=true) (h5:¬ t.kind=5) (h7:¬ t.kind=7) (h8:¬ t.kind=8):t.kids=[]:=by
 have z0:∀ {a b c d},gO t a b c false d=true→t.kids=[]:=by
   intro a b c d h
   simp only [gO,aE,cN,decide_eq_true_eq,aG,false_or] at h
   exact h.1.2
 unfold eG at h
 repeat' split at h
 all_goals try simp only [aE] at h
 all_goals first | exact z0 h.2 | contradiction | cases h
theorem aYr:∀ (n:Nat) (t:LTerm),nodesT t≤n→wfT eG t=true→A3 t=true→wfT hiB t=true
 | 0,t,h,_,_=>by rw [eI] at h; omega
 | n + 1,t,h,hw,hk=>by
   have hno:=eI t
   have hw':=kS.1 hw
   rw [aFf,sD] at hk
   have hk1:∀ j,j < t.kids.length→A3 (t.kids.getD j default)=true∧bDh (decide (t.kind=8)) j (t.kids.getD j default)=true:=fun j hj=>by
     have:=hk j hj; rwa [aE] at this
   refine kS.2 ⟨?_,fun k hm=>?_⟩
   · rw [hiB,aE]
     constructor
     · by_cases h5:t.kind=5
       · rw [zt h5]; rfl
       by_cases h7:t.kind=7
       · rw [zt h7]; simp
       by_cases h8:t.kind=8
       · rw [zt h8]; simp
       rw [Y2 hw'.1 h5 h7 h8]; simp
     · by_cases h8:t.kind=8
       · rw [zt h8,aB,cO,bL]
         intro i hi
         rw [fG] at hi
         have h2:=(hk1 (2 * i) (by omega)).2
         rw [bDh,zt h8,aO,zt (by omega:2 * i % 2=0),aO] at h2
         have hm:=cQ (d:=default) (show 2 * i < t.kids.length by omega)
         by_cases h6:(t.kids.getD (2 * i) default).kind=6
         · rw [zt h6,aZ]
         · rw [zf h6,aD,aZ,aX,Bool.not_not,A5] at h2
           simp only [cN,decide_eq_true_eq] at h2
           rw [Y2 (kS.1 (hw'.2 _ hm)).1 (by omega) (by omega) (by omega)]
           simp
       · rw [zf h8,aD,aZ]
   · obtain ⟨j,hj,rfl⟩:=dU.1 hm
     have e:t.kids[j]=t.kids.getD j default:=by simp [List.getD,hj]
     exact aYr n _ (by have:=(iX hm).1; omega) (hw'.2 _ hm) (by rw [e]; exact (hk1 j hj).1)
theorem bCd {s:eD} {p:LTerm} (h:aBy s p=true):wfT hiB p=true:=by
 have hw:=tQ (vZ h)
 rw [aBy,aYa,aE,aE,aE,aE] at h
 have h1:=h.2.2.2.2
 rw [aEp,aE,aNw p hw 1,aE] at h1
 exact aYr _ p (bQ _) hw h1.2.2
theorem I8 (s:eD) (p t:LTerm) (u:LSub):(jB s p t u).2=0∨(jB s p t u).2=2∨(jB s p t u).2=3:=by
 rw [jB]; repeat' split
 all_goals simp
theorem aIm {s:eD} {p t:LTerm} {ns:List Str} (hp:aBy s p=true) (h:(jB s (hiT ns p) t []).2=0):(jB s p t []).2=0∧(jB s p t []).1.Sublist (jB s (hiT ns p) t []).1:=by
 have hw:=tQ (vZ hp)
 have hev:=aYz (t:=p) _ p (bQ _) hw
 have hev1:wfT bNj p=true:=hev
 rw [jB] at h ⊢
 rw [jB]
 split at h
 · rename_i hc
   rw [if_pos ⟨hp,hc.2⟩]
   split at h
   · cases h
   · rename_i hb
     rw [rM,yE] at hb
     rw [if_pos hc,rM,rM,yE]
     obtain ⟨h1,h2⟩:=aZz (s:=s) (R:=ns) (nodesT p) p (bCd hp) (fun h8=>by
       have:=(kS.1 hev1).1
       rw [bNj,h8] at this
       simpa using this) hev1 (bQ _) t [[]] [[]] (fD _) (cT.2 hb)
     rw [if_neg hb,h1]
     exact ⟨rfl,h2⟩
 · cases h

theorem aLg {h:List AObj} {w:Nat} {out:AV} {cells:List AV} {n:Nat} (ho:gW w 0 h out cells n) (hp:persL cells=true):gG dep h out=.sl cells n:=by
 rcases ho with ⟨rfl,rfl,rfl⟩ | ⟨i,rfl,hi,hl⟩
 · rfl
 · have hd:(cells.drop 0).take (n * w)=cells:=by rw [bC,bD (by omega)]
   have hi':h[i+0]? = some (.arr false w cells):=hi
   simp only [fQ,pers,qH,hi',hd,hp,if_true,aG,if_false]
   rw [if_pos (by omega)]
theorem aIg {f:FuncId} {A:List AV} {h:List AObj} {r:AV} (s:ACalls Tryz.prog G0 f A [] (fun r0 h1=>r0=r∧h1=[])) (hr:pers r=true) (hA:A=renL (emb [] h.length) A):ACalls Tryz.prog G0 f A h (fun r1 h1=>r1=r∧h1=h):=by
 refine (Go.Vo.frame (is:=[]) g0 s fJ rfl (fun i o ho=>by simp at ho) hA).mono ?_
 rintro r' h' ⟨r0,h1,⟨rfl,rfl⟩,_,rfl,rfl⟩
 rw [uF _ _ hr]
 exact ⟨rfl,by simp [wC,lU]⟩
theorem aMh (l:List Str):persL (l.map .s)=true:=by
 induction l with
 | nil=>rfl
 | cons a l ih=>rw [aN,persL,ih]; rfl
theorem bUk (t:LTerm) (ht:OkT t) (hn:nodesT t≤1000000) (h:List AObj):ACalls Tryz.prog G0 37 [.e0,elT t] h (fun r h'=>r=.sl ((rsT t).map .s) (rsT t).length∧h'=h):=by
 have hp:pers (elT t)=true:=by rw [elT,pers,vX]
 refine aIg (pV g0 ((bRj _ t ht (bQ _) [] .e0 [] (by simpa using hn) iI).mono ?_) (by simpa [pers] using aMh _) rfl (bQ _)) (by simpa [pers] using aMh _) (by simp [renL,ren,uF _ _ hp])
 rintro r h' ⟨h1,_⟩
 rw [aK] at h1
 exact ⟨aLg h1 (aMh _),_,rfl⟩
theorem N4 {l:List LSub} {x:LSub} {k:Nat} (h:k < l.length):decide (x ∈ l.take (k+1))=(decide (x ∈ l.take k) || decide (x=l.getD k default)):=by
 rw [kK h,fT,decide_eq_true_eq,cN,decide_eq_true_eq,decide_eq_true_eq,cR,bV]
 simp [List.getD,h]
theorem bKa (s : eD) (p t:LTerm) (hs:OkS s) (op:OkT p) (ot:OkT t): CT 8 [.agg (dD s),elT p,elT t] (.b true):=by
 refine gH (rx:=true) (th:=fun i=>if i=3 then some ⟨none,[],false,false,false,[],[32],0⟩ else none) cU Tryz.func8 g0 ?_
 · simp -implicitDefEqProofs (disch:=omega) only [Tryz.f8,go_sem,List.replicate,↓reduceIte,reduceAdd,reduceSub,reduceMul,reduceLeDiff,reduceLT,reduceEqDiff,reduceNeg,Nat.reduceBEq,elT,aS,aI,aK,bHd,dY,fC,List.append_nil]
   have c1:=bJz s [] [p,t] hs (by simp) (by simp) (by simp) (bOo op ot)
   have ca:=bJy
   simp only [avt,avu,List.flatMap_cons,List.flatMap_nil,List.append_nil,aS,aI,aK,bH,cL] at c1
   rcases mG (bIt s [] [p,t]) with h1 | h1
   · rw [h1] at c1
     have F:=bEa h1
     have hok:OkU 100000 ([]:LSub):=⟨by simp,fun q hq=>by cases hq⟩
     have hn:∀ q ∈ ([]:LSub),q.1.length≤140737488355328:=fun q hq=>by cases hq
     have hnp:nodesT p≤100000:=by have:=(iX (l:=[p,t]) (k:=p) (by simp)).1; have:=F.ln; omega
     have hnt:nodesT t≤100000:=by have:=(iX (l:=[p,t]) (k:=t) (by simp)).1; have:=F.ln; omega
     have c2:=aAe s p F.sm hs op
     by_cases hp:aBy s p=true
     · rw [hp] at c2
       have cr:=bUk p op (by omega)
       have hc:=hiC (rsT p) (by have:=aLq p; omega) _ p op (bQ _) (by omega)
       have hl:=fun h=>aIm (ns:=rsT p) (t:=t) hp h
       have ho:=bIl (rsT p) _ p (bQ _) op
       have hno:=yE (rsT p) p
       generalize hiT (rsT p) p=H at *
       have M1:=C1 s p t [] F.sm hs op ot hok hn hnp hnt
       have M2:=C1 s H t [] F.sm hs ho ot hok hn (by omega) hnt
       have e1:=I8 s p t []
       have e2:=I8 s H t []
       have cp:=aAe s H F.sm hs ho
       have K1:=X5 (s:=s) (p:=p) ot hok hnp
       have K2:=X5 (s:=s) (p:=H) ot hok (by omega)
       generalize jB s p t []=m1 at *
       generalize jB s H t []=m2 at *
       generalize aBy s H=pv at *
       obtain ⟨u,e⟩:=m1
       obtain ⟨v,f⟩:=m2
       dsimp only at hl e1 e2 K1 K2 M1 M2
       (repeat' (first | refine gT ?_ ?_ | refine gF ?_ ?_ | refine gC ?_ ?_ | ((first | (refine bU (c1) ?_ ?_; (focus (simp -implicitDefEqProofs (disch:=omega) only [aB,aD,zdB,go_sem,↓reduceIte,reduceAdd,reduceSub,reduceMul,reduceLeDiff,reduceLT,reduceEqDiff,reduceNeg,Nat.reduceBEq]; done))) | (refine bU (c2) ?_ ?_; (focus (simp -implicitDefEqProofs (disch:=omega) only [aB,aD,zdB,go_sem,↓reduceIte,reduceAdd,reduceSub,reduceMul,reduceLeDiff,reduceLT,reduceEqDiff,reduceNeg,Nat.reduceBEq]; done)))); simp -implicitDefEqProofs (disch:=omega) only [aB,aD,go_sem,↓reduceIte,reduceAdd,reduceSub,reduceMul,reduceLeDiff,reduceLT,reduceEqDiff,reduceNeg,Nat.reduceBEq]) | refine bG (by omega) ?_ | (intro hr; have hc:=hr; (try simp only [zdz] at hc); simp -implicitDefEqProofs (disch:=omega) only [hr,aB,aD,go_sem,↓reduceIte,reduceAdd,reduceSub,reduceMul,reduceLeDiff,reduceLT,reduceEqDiff,reduceNeg,Nat.reduceBEq]; (try clear hr))))
       simp only [elT,aS,avt,avw,avu,List.flatMap_nil,cL] at cr hc M1 M2 cp
       have d02:decide ((0:Int)=2)=false:=rfl
       have d32:decide ((3:Int)=2)=false:=rfl
       have d22:decide ((2:Int)=2)=true:=rfl
       have d03:decide ((0:Int)=3)=false:=rfl
       have d23:decide ((2:Int)=3)=false:=rfl
       have d30:decide ((3:Int)=0)=false:=rfl
       have d20:decide ((2:Int)=0)=false:=rfl
       have d00:decide ((0:Int)=0)=true:=rfl
       have d33:decide ((3:Int)=3)=true:=rfl
       refine bMc (cr _) rfl (lG.refl _ _) ?_
       simp -implicitDefEqProofs (disch:=omega) only [go_sem,↓reduceIte,reduceAdd,reduceSub,reduceMul,reduceLeDiff,reduceLT,reduceEqDiff,reduceNeg,Nat.reduceBEq]
       rcases e2 with rfl | rfl | rfl
       · obtain ⟨rfl,hsub⟩:=hl rfl
         (repeat' (first | refine gT ?_ ?_ | refine gF ?_ ?_ | refine gC ?_ ?_ | ((first | (refine bU (hc) ?_ ?_; (focus (simp -implicitDefEqProofs (disch:=omega) only [d00,aB,zdB,go_sem,↓reduceIte,reduceAdd,reduceSub,reduceMul,reduceLeDiff,reduceLT,reduceEqDiff,reduceNeg,Nat.reduceBEq]; done))) | (refine bU (M1) ?_ ?_; (focus (simp -implicitDefEqProofs (disch:=omega) only [d00,aB,zdB,go_sem,↓reduceIte,reduceAdd,reduceSub,reduceMul,reduceLeDiff,reduceLT,reduceEqDiff,reduceNeg,Nat.reduceBEq]; done))) | (refine bU (M2) ?_ ?_; (focus (simp -implicitDefEqProofs (disch:=omega) only [d00,aB,zdB,go_sem,↓reduceIte,reduceAdd,reduceSub,reduceMul,reduceLeDiff,reduceLT,reduceEqDiff,reduceNeg,Nat.reduceBEq]; done)))); simp -implicitDefEqProofs (disch:=omega) only [d00,aB,go_sem,↓reduceIte,reduceAdd,reduceSub,reduceMul,reduceLeDiff,reduceLT,reduceEqDiff,reduceNeg,Nat.reduceBEq]) | refine bG (by omega) ?_ | (intro hr; have hc:=hr; (try simp only [zdz] at hc); simp -implicitDefEqProofs (disch:=omega) only [hr,d00,aB,go_sem,↓reduceIte,reduceAdd,reduceSub,reduceMul,reduceLeDiff,reduceLT,reduceEqDiff,reduceNeg,Nat.reduceBEq]; (try clear hr))))
         refine dB (fun (k:Nat)=>(rp 6 .k (.j::(rp 6 .k (.j::.j::.k::.j::(rp 63 .k (.v (.i .i64 (k:Nat))::(rp 19 .j (rp 8 .k []))))))))) (fun k=>[.box false (dD s),.box false (tmC p),.box false (tmC t),.arr false 6 [.i .i64 p.kind,.i .i64 p.n,.s p.text,.s p.sort,.sl (p.kids.flatMap aV) p.kids.length,.sl (p.rest.flatMap aV) p.rest.length,.i .i64 t.kind,.i .i64 t.n,.s t.text,.s t.sort,.sl (t.kids.flatMap aV) t.kids.length,.sl (t.rest.flatMap aV) t.rest.length],.box false (tmC H)]) (fun k=>k≤u.length) (fun k=>u.length - k) (0) (bJ _) rfl (by simp [gX]) ?_
         rintro k j hk
         by_cases hlt:k < u.length
         · have hki:decide ((k:Int) < ((u.length:Nat):Int))=true:=zt (by omega)
           have hin:u.getD k default ∈ v:=hsub.subset (cQ (d:=default) hlt)
           simp -implicitDefEqProofs (disch:=omega) only [hki,go_sem,↓reduceIte,reduceAdd,reduceSub,reduceMul,reduceLeDiff,reduceLT,reduceEqDiff,reduceNeg,Nat.reduceBEq]
           refine ⟨by omega,?_⟩
           refine dB (fun (i:Nat)=>(rp 14 .k (.v (.b (decide (u.getD k default ∈ v.take i)))::.k::.j::(rp 69 .k (.v (.i .i64 (i:Nat))::(rp 10 .j (rp 11 .k []))))))) (fun i=>[.box false (dD s),.box false (tmC p),.box false (tmC t),.arr false 6 [.i .i64 p.kind,.i .i64 p.n,.s p.text,.s p.sort,.sl (p.kids.flatMap aV) p.kids.length,.sl (p.rest.flatMap aV) p.rest.length,.i .i64 t.kind,.i .i64 t.n,.s t.text,.s t.sort,.sl (t.kids.flatMap aV) t.kids.length,.sl (t.rest.flatMap aV) t.rest.length],.box false (tmC H)]) (fun i=>i≤v.length) (fun i=>v.length - i) (0) (bJ _) rfl (by simp [gX]) ?_
           rintro i j2 hi
           by_cases hlt2:i < v.length
           · have hki2:decide ((i:Int) < ((v.length:Nat):Int))=true:=zt (by omega)
             have c7:=bJx (u.getD k default) (v.getD i default) (K1.1 _ (cQ (d:=default) hlt)) (K2.1 _ (cQ (d:=default) hlt2))
             have hm:=N4 (x:=u.getD k default) hlt2
             simp only [avu] at c7
             rcases mG (decide (u.getD k default ∈ v.take i)) with h3 | h3
             · rw [h3,aZ] at hm
               simp -implicitDefEqProofs (disch:=omega) only [hki2,h3,avu,go_sem,↓reduceIte,reduceAdd,reduceSub,reduceMul,reduceLeDiff,reduceLT,reduceEqDiff,reduceNeg,Nat.reduceBEq]
               exact ⟨by omega,i+1,by omega,by omega,by rw [hm],by simp⟩
             · rw [h3,cO] at hm
               simp -implicitDefEqProofs (disch:=omega) only [hki2,h3,avu,go_sem,↓reduceIte,reduceAdd,reduceSub,reduceMul,reduceLeDiff,reduceLT,reduceEqDiff,reduceNeg,Nat.reduceBEq]
               (repeat' (first | refine gT ?_ ?_ | refine gF ?_ ?_ | refine gC ?_ ?_ | ((refine bU (c7) ?_ ?_; (focus (simp -implicitDefEqProofs (disch:=omega) only [hki2,h3,avu,zdB,go_sem,↓reduceIte,reduceAdd,reduceSub,reduceMul,reduceLeDiff,reduceLT,reduceEqDiff,reduceNeg,Nat.reduceBEq]; done))); simp -implicitDefEqProofs (disch:=omega) only [hki2,h3,avu,go_sem,↓reduceIte,reduceAdd,reduceSub,reduceMul,reduceLeDiff,reduceLT,reduceEqDiff,reduceNeg,Nat.reduceBEq]) | refine bG (by omega) ?_ | (intro hr; have hc:=hr; (try simp only [zdz] at hc); simp -implicitDefEqProofs (disch:=omega) only [hr,hki2,h3,avu,go_sem,↓reduceIte,reduceAdd,reduceSub,reduceMul,reduceLeDiff,reduceLT,reduceEqDiff,reduceNeg,Nat.reduceBEq]; (try clear hr))))
               exact ⟨i+1,by omega,by omega,by rw [hm],by simp⟩
           · have hki2:decide ((i:Int) < ((v.length:Nat):Int))=false:=zf (by omega)
             obtain rfl:i=v.length:=by omega
             have hin2:decide (u.getD k default ∈ v)=true:=zt hin
             simp -implicitDefEqProofs (disch:=omega) only [hki2,hin2,aB,go_sem,↓reduceIte,reduceAdd,reduceSub,reduceMul,reduceLeDiff,reduceLT,reduceEqDiff,reduceNeg,Nat.reduceBEq]
             exact ⟨k+1,by omega,by omega,by simp⟩
         · have hki:decide ((k:Int) < ((u.length:Nat):Int))=false:=zf (by omega)
           have hle:=hsub.length_le
           have hge:decide (((v.length:Nat):Int) ≥ ((u.length:Nat):Int))=true:=zt (by omega)
           simp -implicitDefEqProofs (disch:=omega) only [hki,hge,go_sem,↓reduceIte,reduceAdd,reduceSub,reduceMul,reduceLeDiff,reduceLT,reduceEqDiff,reduceNeg,Nat.reduceBEq]
           (repeat' (first | refine gT ?_ ?_ | refine gF ?_ ?_ | refine gC ?_ ?_ | ((refine bU (ca) ?_ ?_; (focus (simp -implicitDefEqProofs (disch:=omega) only [hki,hge,zdB,go_sem,↓reduceIte,reduceAdd,reduceSub,reduceMul,reduceLeDiff,reduceLT,reduceEqDiff,reduceNeg,Nat.reduceBEq]; done))); simp -implicitDefEqProofs (disch:=omega) only [hki,hge,go_sem,↓reduceIte,reduceAdd,reduceSub,reduceMul,reduceLeDiff,reduceLT,reduceEqDiff,reduceNeg,Nat.reduceBEq]) | refine bG (by omega) ?_ | (intro hr; have hc:=hr; (try simp only [zdz] at hc); simp -implicitDefEqProofs (disch:=omega) only [hr,hki,hge,go_sem,↓reduceIte,reduceAdd,reduceSub,reduceMul,reduceLeDiff,reduceLT,reduceEqDiff,reduceNeg,Nat.reduceBEq]; (try clear hr))))
           all_goals exact bR rfl rfl
       · rcases mG pv with h3 | h3
         all_goals rw [h3] at cp
         all_goals rcases e1 with rfl | rfl | rfl
         all_goals (repeat' (first | refine gT ?_ ?_ | refine gF ?_ ?_ | refine gC ?_ ?_ | ((first | (refine bU (hc) ?_ ?_; (focus (simp -implicitDefEqProofs (disch:=omega) only [aB,aD,d02,d32,d22,d03,d23,d33,d30,d20,d00,aB,aD,zdB,go_sem,↓reduceIte,reduceAdd,reduceSub,reduceMul,reduceLeDiff,reduceLT,reduceEqDiff,reduceNeg,Nat.reduceBEq]; done))) | (refine bU (M1) ?_ ?_; (focus (simp -implicitDefEqProofs (disch:=omega) only [aB,aD,d02,d32,d22,d03,d23,d33,d30,d20,d00,aB,aD,zdB,go_sem,↓reduceIte,reduceAdd,reduceSub,reduceMul,reduceLeDiff,reduceLT,reduceEqDiff,reduceNeg,Nat.reduceBEq]; done))) | (refine bU (M2) ?_ ?_; (focus (simp -implicitDefEqProofs (disch:=omega) only [aB,aD,d02,d32,d22,d03,d23,d33,d30,d20,d00,aB,aD,zdB,go_sem,↓reduceIte,reduceAdd,reduceSub,reduceMul,reduceLeDiff,reduceLT,reduceEqDiff,reduceNeg,Nat.reduceBEq]; done))) | (refine bU (cp) ?_ ?_; (focus (simp -implicitDefEqProofs (disch:=omega) only [aB,aD,d02,d32,d22,d03,d23,d33,d30,d20,d00,aB,aD,zdB,go_sem,↓reduceIte,reduceAdd,reduceSub,reduceMul,reduceLeDiff,reduceLT,reduceEqDiff,reduceNeg,Nat.reduceBEq]; done))) | (refine bU (ca) ?_ ?_; (focus (simp -implicitDefEqProofs (disch:=omega) only [aB,aD,d02,d32,d22,d03,d23,d33,d30,d20,d00,aB,aD,zdB,go_sem,↓reduceIte,reduceAdd,reduceSub,reduceMul,reduceLeDiff,reduceLT,reduceEqDiff,reduceNeg,Nat.reduceBEq]; done)))); simp -implicitDefEqProofs (disch:=omega) only [aB,aD,d02,d32,d22,d03,d23,d33,d30,d20,d00,aB,aD,go_sem,↓reduceIte,reduceAdd,reduceSub,reduceMul,reduceLeDiff,reduceLT,reduceEqDiff,reduceNeg,Nat.reduceBEq]) | refine bG (by omega) ?_ | (intro hr; have hc:=hr; (try simp only [zdz] at hc); simp -implicitDefEqProofs (disch:=omega) only [hr,aB,aD,d02,d32,d22,d03,d23,d33,d30,d20,d00,aB,aD,go_sem,↓reduceIte,reduceAdd,reduceSub,reduceMul,reduceLeDiff,reduceLT,reduceEqDiff,reduceNeg,Nat.reduceBEq]; (try clear hr))))
         all_goals exact bR rfl rfl
       · rcases mG pv with h3 | h3
         all_goals rw [h3] at cp
         all_goals rcases e1 with rfl | rfl | rfl
         all_goals (repeat' (first | refine gT ?_ ?_ | refine gF ?_ ?_ | refine gC ?_ ?_ | ((first | (refine bU (hc) ?_ ?_; (focus (simp -implicitDefEqProofs (disch:=omega) only [aB,aD,d02,d32,d22,d03,d23,d33,d30,d20,d00,aB,aD,zdB,go_sem,↓reduceIte,reduceAdd,reduceSub,reduceMul,reduceLeDiff,reduceLT,reduceEqDiff,reduceNeg,Nat.reduceBEq]; done))) | (refine bU (M1) ?_ ?_; (focus (simp -implicitDefEqProofs (disch:=omega) only [aB,aD,d02,d32,d22,d03,d23,d33,d30,d20,d00,aB,aD,zdB,go_sem,↓reduceIte,reduceAdd,reduceSub,reduceMul,reduceLeDiff,reduceLT,reduceEqDiff,reduceNeg,Nat.reduceBEq]; done))) | (refine bU (M2) ?_ ?_; (focus (simp -implicitDefEqProofs (disch:=omega) only [aB,aD,d02,d32,d22,d03,d23,d33,d30,d20,d00,aB,aD,zdB,go_sem,↓reduceIte,reduceAdd,reduceSub,reduceMul,reduceLeDiff,reduceLT,reduceEqDiff,reduceNeg,Nat.reduceBEq]; done))) | (refine bU (cp) ?_ ?_; (focus (simp -implicitDefEqProofs (disch:=omega) only [aB,aD,d02,d32,d22,d03,d23,d33,d30,d20,d00,aB,aD,zdB,go_sem,↓reduceIte,reduceAdd,reduceSub,reduceMul,reduceLeDiff,reduceLT,reduceEqDiff,reduceNeg,Nat.reduceBEq]; done))) | (refine bU (ca) ?_ ?_; (focus (simp -implicitDefEqProofs (disch:=omega) only [aB,aD,d02,d32,d22,d03,d23,d33,d30,d20,d00,aB,aD,zdB,go_sem,↓reduceIte,reduceAdd,reduceSub,reduceMul,reduceLeDiff,reduceLT,reduceEqDiff,reduceNeg,Nat.reduceBEq]; done)))); simp -implicitDefEqProofs (disch:=omega) only [aB,aD,d02,d32,d22,d03,d23,d33,d30,d20,d00,aB,aD,go_sem,↓reduceIte,reduceAdd,reduceSub,reduceMul,reduceLeDiff,reduceLT,reduceEqDiff,reduceNeg,Nat.reduceBEq]) | refine bG (by omega) ?_ | (intro hr; have hc:=hr; (try simp only [zdz] at hc); simp -implicitDefEqProofs (disch:=omega) only [hr,aB,aD,d02,d32,d22,d03,d23,d33,d30,d20,d00,aB,aD,go_sem,↓reduceIte,reduceAdd,reduceSub,reduceMul,reduceLeDiff,reduceLT,reduceEqDiff,reduceNeg,Nat.reduceBEq]; (try clear hr))))
         all_goals exact bR rfl rfl
     · rw [cT.2 hp] at c2
       (repeat' (first | refine gT ?_ ?_ | refine gF ?_ ?_ | refine gC ?_ ?_ | ((first | (refine bU (c1) ?_ ?_; (focus (simp -implicitDefEqProofs (disch:=omega) only [aB,aD,zdB,go_sem,↓reduceIte,reduceAdd,reduceSub,reduceMul,reduceLeDiff,reduceLT,reduceEqDiff,reduceNeg,Nat.reduceBEq]; done))) | (refine bU (c2) ?_ ?_; (focus (simp -implicitDefEqProofs (disch:=omega) only [aB,aD,zdB,go_sem,↓reduceIte,reduceAdd,reduceSub,reduceMul,reduceLeDiff,reduceLT,reduceEqDiff,reduceNeg,Nat.reduceBEq]; done))) | (refine bU (ca) ?_ ?_; (focus (simp -implicitDefEqProofs (disch:=omega) only [aB,aD,zdB,go_sem,↓reduceIte,reduceAdd,reduceSub,reduceMul,reduceLeDiff,reduceLT,reduceEqDiff,reduceNeg,Nat.reduceBEq]; done)))); simp -implicitDefEqProofs (disch:=omega) only [aB,aD,go_sem,↓reduceIte,reduceAdd,reduceSub,reduceMul,reduceLeDiff,reduceLT,reduceEqDiff,reduceNeg,Nat.reduceBEq]) | refine bG (by omega) ?_ | (intro hr; have hc:=hr; (try simp only [zdz] at hc); simp -implicitDefEqProofs (disch:=omega) only [hr,aB,aD,go_sem,↓reduceIte,reduceAdd,reduceSub,reduceMul,reduceLeDiff,reduceLT,reduceEqDiff,reduceNeg,Nat.reduceBEq]; (try clear hr))))
       all_goals exact bR rfl rfl
   · rw [h1] at c1
     (repeat' (first | refine gT ?_ ?_ | refine gF ?_ ?_ | refine gC ?_ ?_ | ((first | (refine bU (c1) ?_ ?_; (focus (simp -implicitDefEqProofs (disch:=omega) only [aD,zdB,go_sem,↓reduceIte,reduceAdd,reduceSub,reduceMul,reduceLeDiff,reduceLT,reduceEqDiff,reduceNeg,Nat.reduceBEq]; done))) | (refine bU (ca) ?_ ?_; (focus (simp -implicitDefEqProofs (disch:=omega) only [aD,zdB,go_sem,↓reduceIte,reduceAdd,reduceSub,reduceMul,reduceLeDiff,reduceLT,reduceEqDiff,reduceNeg,Nat.reduceBEq]; done)))); simp -implicitDefEqProofs (disch:=omega) only [aD,go_sem,↓reduceIte,reduceAdd,reduceSub,reduceMul,reduceLeDiff,reduceLT,reduceEqDiff,reduceNeg,Nat.reduceBEq]) | refine bG (by omega) ?_ | (intro hr; have hc:=hr; (try simp only [zdz] at hc); simp -implicitDefEqProofs (disch:=omega) only [hr,aD,go_sem,↓reduceIte,reduceAdd,reduceSub,reduceMul,reduceLeDiff,reduceLT,reduceEqDiff,reduceNeg,Nat.reduceBEq]; (try clear hr))))
     all_goals exact bR rfl rfl
end Go.Proofs.YtdjcggcjlphdoaaGreatDoor
