/-
  Functions of the chapter, as plain functions of what they are given; no condition.
-/
import Derived.Test.YtdjcggcjlphdoaaGreatDoorVdP18
import Derived.Test.YtdjcggcjlphdoaaGreatDoorVoP26
import Derived.Test.YtdjcggcjlphdoaaGreatDoorVdP14
import Derived.Test.YtdjcggcjlphdoaaGreatDoorVoP20
set_option maxRecDepth 100000
set_option linter.unusedSimpArgs false
set_option linter.unusedVariables false
set_option maxHeartbeats 4000000
namespace Go.Proofs.YtdjcggcjlphdoaaGreatDoor
open Go Go.Vo
open Nat (reduceAdd reduceSub reduceMul reduceLeDiff reduceLT reduceEqDiff)
open Int (reduceNeg)

def mM (l:List LTerm):List LTerm:=l.flatMap fun r=>if r.kind=6 then [] else r.kids
mutual
def aBd (O:List LTerm→List LTerm) (u:LSub):LTerm→LTerm
 | .mk k n x so ks rs=>if k=6 then (match mOf u x with | some y=>y | none=>.mk k n x so ks rs) else
     .mk k n x so (if k=8 then O (putL O u ks++mM (putL O u rs)) else putL O u ks++mM (putL O u rs)) (if (putL O u rs).any (fun r => !decide (r.kind=6))=true then [] else rs)
def putL (O:List LTerm→List LTerm) (u:LSub):List LTerm→List LTerm
 | []=>[]
 | t::l=>aBd O u t::putL O u l
end
mutual
def aBx (s:eD) (u:LSub):LTerm→Bool
 | .mk k n x so ks rs=>if k=6 then (match mOf u x with | some y => !lZ s (oF s y) so | none=>false) else putSL s u ks || putSL s u rs
def putSL (s:eD) (u:LSub):List LTerm→Bool
 | []=>false
 | t::l=>aBx s u t || putSL s u l
end
mutual
def aBw (W:List LTerm→Bool) (O:List LTerm→List LTerm) (u:LSub):LTerm→Bool
 | .mk k n x so ks rs=>if k=6 then false else (putWL W O u ks || putWL W O u rs) || (decide (k=8) && W (putL O u ks++mM (putL O u rs)))
def putWL (W:List LTerm→Bool) (O:List LTerm→List LTerm) (u:LSub):List LTerm→Bool
 | []=>false
 | t::l=>aBw W O u t || putWL W O u l
end
abbrev F2 (s:eD) (u:LSub) (so tw:Bool):AObj:=.box false [cC s,avu u,.b so,.b tw]
def bFw (W:List LTerm→Bool) (O:List LTerm→List LTerm) (s:eD) (u:LSub) (t:LTerm):Prop:=∀ (so tw:Bool),ACalls Tryz.prog G0 58 [.ptr 0 0,elT t] [F2 s u so tw]
 (fun r h'=>r=elT (aBd O u t)∧h'=[F2 s u (so || aBx s u t) (tw || aBw W O u t)])
def bMu (s:eD) (u:LSub) (R:LTerm) (so tw:Bool) (r:AV) (h':List AObj):Prop:=gG dep h' r=elT R∧∃ z,Vo.freeze (dW dep h' r) h'=[F2 s u so tw]++z
theorem M0 (O:List LTerm→List LTerm) (u:LSub):∀ l:List LTerm,(putL O u l).length=l.length
 | []=>by rw [putL]
 | t::l=>by rw [putL,bH,bH,M0 O u l]
theorem aXv {O:List LTerm→List LTerm} {u:LSub} {t:LTerm} (h6:t.kind=6):aBd O u t=(match mOf u t.text with | some y=>y | none=>t):=by
 cases t; dsimp only [LTerm.kind] at h6; rw [aBd,if_pos h6]; rfl
theorem aXw {s:eD} {u:LSub} {t:LTerm} (h6:t.kind=6):aBx s u t=(match mOf u t.text with | some y => !lZ s (oF s y) t.sort | none=>false):=by
 cases t; dsimp only [LTerm.kind] at h6; rw [aBx,if_pos h6]; rfl
theorem aXu {W:List LTerm→Bool} {O:List LTerm→List LTerm} {u:LSub} {t:LTerm} (h6:t.kind=6):aBw W O u t=false:=by
 cases t; dsimp only [LTerm.kind] at h6; rw [aBw,if_pos h6]
theorem I0 (s:eD) (u:LSub) (so tw:Bool):persL [.box (eA s) 0,.sl (u.flatMap prT) u.length,.b so,.b tw]=true:=by
 have:=oJ (s:=s)
 simp only [pers,cC] at this
 simp [persL,pers,this,mE]
theorem aMc {s:eD} {u:LSub} {R:LTerm} {so tw:Bool} {z:List AObj}:bMu s u R so tw (elT R) (F2 s u so tw::z):=by
 have hp:pers (elT R)=true:=by rw [elT,pers,vX]
 refine ⟨by rw [fQ,if_pos hp],z,?_⟩
 rw [show dW dep (F2 s u so tw::z) (elT R)=[] by rw [show dep=8+1 from rfl,dW,if_pos hp]]
 rfl
theorem aMd {s:eD} {u:LSub} {R:LTerm} {so tw so' tw':Bool} {z:List AObj} (h1:so'=so) (h2:tw'=tw):bMu s u R so tw (.agg (tmC R)) (.box false [.box (eA s) 0,.sl (u.flatMap prT) u.length,.b so',.b tw']::z):=by
 subst h1 h2
 have:=aMc (s:=s) (u:=u) (R:=R) (so:=so') (tw:=tw') (z:=z)
 rw [elT,aS] at this
 exact this
theorem bRk (W:List LTerm→Bool) (O:List LTerm→List LTerm) (s:eD) (u:LSub) (t:LTerm) (so tw:Bool) (hm:Small s) (ha:AscU u) (hul:u.length≤1000000000) (h6:t.kind=6): ACalls Tryz.prog G0 58 [.ptr 0 0,elT t] [F2 s u so tw] (bMu s u (aBd O u t) (so || aBx s u t) (tw || aBw W O u t)):=by
 refine mS (rx:=true) (th:=fun i=>if i=5 then some ⟨none,[0],false,false,false,[],[],0⟩ else if i=12 then some ⟨none,[],false,false,true,[],[],1000⟩ else none) cU Tryz.func58 ?_
 · simp -implicitDefEqProofs (disch:=omega) only [Tryz.f58,bH,cL,dL,aI,aK,Nat.sub_zero,List.replicate,simprocAttr,elT,aS,F2,avu]
   have c1:=aPm u t.text ha hul
   simp only [avu] at c1
   cases ho:mOf u t.text with
   | none=>
     rw [ho] at c1
     rw [F4,elT,aS] at c1
     refine zh (zt h6) ?_
     (repeat' (first | refine gT ?_ ?_ | refine gF ?_ ?_ | refine gC ?_ ?_ | ((refine bU (c1) ?_ ?_; (focus (simp -implicitDefEqProofs (disch:=omega) only [zt h6,aD,zdB,go_sem,simprocAttr]; done))); simp -implicitDefEqProofs (disch:=omega) only [zt h6,aD,go_sem,simprocAttr]) | refine bG (by omega) ?_ | (intro hr; have hc:=hr; (try simp only [zdz] at hc); simp -implicitDefEqProofs (disch:=omega) only [hr,zt h6,aD,go_sem,simprocAttr]; (try clear hr))))
     rw [aXv h6,aXw h6,aXu h6,ho]
     exact aMd (by rw [aH]) (by rw [aH])
   | some y=>
     rw [ho] at c1
     rw [F4,elT,aS] at c1
     have c2:=aAf s y
     have c3:=aIw s (oF s y) t.sort hm
     refine zh (zt h6) ?_
     (repeat' (first | refine gT ?_ ?_ | refine gF ?_ ?_ | refine gC ?_ ?_ | ((first | (refine bU (c1) ?_ ?_; (focus (simp -implicitDefEqProofs (disch:=omega) only [zt h6,aB,zdB,go_sem,simprocAttr]; done))) | (refine bU (c2) ?_ ?_; (focus (simp -implicitDefEqProofs (disch:=omega) only [zt h6,aB,zdB,go_sem,simprocAttr]; done))) | (refine bU (c3) ?_ ?_; (focus (simp -implicitDefEqProofs (disch:=omega) only [zt h6,aB,zdB,go_sem,simprocAttr]; done)))); simp -implicitDefEqProofs (disch:=omega) only [zt h6,aB,go_sem,simprocAttr]) | refine bG (by omega) ?_ | (intro hr; have hc:=hr; (try simp only [zdz] at hc); simp -implicitDefEqProofs (disch:=omega) only [hr,zt h6,aB,go_sem,simprocAttr]; (try clear hr))))
     all_goals rw [aXv h6,aXw h6,aXu h6,ho]
     all_goals exact aMd (by simp) (by rw [aH])
theorem bHo {O:List LTerm→List LTerm} {u:LSub} {t:LTerm} (h6:¬ t.kind=6) (h8:¬ t.kind=8):aBd O u t=.mk t.kind t.n t.text t.sort (putL O u t.kids++mM (putL O u t.rest)) (if (putL O u t.rest).any (fun r => !decide (r.kind=6))=true then [] else t.rest):=by
 cases t with | mk k n x so ks rs=>dsimp only [LTerm.kind] at h6 h8; rw [aBd,if_neg h6,if_neg h8]; rfl
theorem bHp {s:eD} {u:LSub} {t:LTerm} (h6:¬ t.kind=6):aBx s u t=(putSL s u t.kids || putSL s u t.rest):=by
 cases t with | mk k n x so ks rs=>dsimp only [LTerm.kind] at h6; rw [aBx,if_neg h6]; rfl
theorem bHn {W:List LTerm→Bool} {O:List LTerm→List LTerm} {u:LSub} {t:LTerm} (h6:¬ t.kind=6) (h8:¬ t.kind=8):aBw W O u t=(putWL W O u t.kids || putWL W O u t.rest):=by
 cases t with | mk k n x so ks rs=>dsimp only [LTerm.kind] at h6 h8; rw [aBw,if_neg h6,zf h8]; simp [LTerm.kids,LTerm.rest]
theorem M3 {O:List LTerm→List LTerm} {u:LSub}:∀ {a b:List LTerm},putL O u (a++b)=putL O u a++putL O u b
 | [],b=>by rw [putL]; rfl
 | t::a,b=>by rw [aI,putL,putL,M3,aI]
theorem U9 {O:List LTerm→List LTerm} {u:LSub} {l:List LTerm} {k:Nat} (h:k < l.length):putL O u (l.take (k+1))=putL O u (l.take k)++[aBd O u (l.getD k default)]:=by
 rw [eN h,M3,putL,putL]
theorem U8 {s:eD} {u:LSub}:∀ {a b:List LTerm},putSL s u (a++b)=(putSL s u a || putSL s u b)
 | [],b=>by rw [putSL]; rfl
 | t::a,b=>by rw [aI,putSL,putSL,U8,lF]
theorem H6 {s:eD} {u:LSub} {l:List LTerm} {k:Nat} (h:k < l.length):putSL s u (l.take (k+1))=(putSL s u (l.take k) || aBx s u (l.getD k default)):=by
 rw [eN h,U8,putSL,putSL,aH]
theorem U7 {W:List LTerm→Bool} {O:List LTerm→List LTerm} {u:LSub}:∀ {a b:List LTerm},putWL W O u (a++b)=(putWL W O u a || putWL W O u b)
 | [],b=>by rw [putWL]; rfl
 | t::a,b=>by rw [aI,putWL,putWL,U7,lF]
theorem H5 {W:List LTerm→Bool} {O:List LTerm→List LTerm} {u:LSub} {l:List LTerm} {k:Nat} (h:k < l.length):putWL W O u (l.take (k+1))=(putWL W O u (l.take k) || aBw W O u (l.getD k default)):=by
 rw [eN h,U7,putWL,putWL,aH]
theorem U1 {a b:List LTerm}:mM (a++b)=mM a++mM b:=by rw [mM,mM,mM,List.flatMap_append]
theorem aHv {O:List LTerm→List LTerm} {u:LSub} {l:List LTerm} {k:Nat}:(mM (putL O u (l.take k))).length≤(mM (putL O u l)).length:=by
 have e:mM (putL O u l)=mM (putL O u (l.take k))++mM (putL O u (l.drop k)):=by rw [← U1,← M3,eF]
 rw [e,List.length_append]; omega
theorem aTf {s:eD} {u:LSub} {k n:Int} {x so:Str} {ks rs:List LTerm} {a b:Bool} {out rc:AV} {g:List AObj} {B1 B2 B3:AObj} (ho:gW 6 4 g out (ks.flatMap aV) ks.length) (hr:rc=.sl (rs.flatMap aV) rs.length∨(rc=.e0∧rs=[])) :
   bMu s u (.mk k n x so ks rs) a b (.agg [.i .i64 k,.i .i64 n,.s x,.s so,out,rc]) (F2 s u a b::B1::B2::B3::g):=by
 have hpr:pers rc=false∨pers rc=true:=by cases pers rc <;> simp
 rcases ho with ⟨rfl,h2,h3⟩ | ⟨i,rfl,hi,hl⟩
 · obtain rfl:ks=[]:=dV.1 h3
   refine ⟨?_,B1::B2::B3::g,?_⟩
   · rw [fQ]
     rcases hr with rfl | ⟨rfl,rfl⟩
     · simp [pers,persL,qH,elT,aS,avt,iW,LTerm.kind,LTerm.n,LTerm.text,LTerm.sort,LTerm.kids,LTerm.rest,gG]
     · simp [pers,persL,qH,elT,aS,avt,iW,LTerm.kind,LTerm.n,LTerm.text,LTerm.sort,LTerm.kids,LTerm.rest,gG]
   · rcases hr with rfl | ⟨rfl,rfl⟩
     · rw [zD,bMq,if_pos (by simp [aKa,pers,iW])]
       rfl
     · rw [zD,bMq,if_pos (by simp [aKa,pers,iW])]
       rfl
 · have hg:(F2 s u a b::B1::B2::B3::g)[i+4]? = some (.arr false 6 (ks.flatMap aV)):=by simpa using hi
   have hd:((ks.flatMap aV).drop 0).take (ks.length * 6)=ks.flatMap aV:=by rw [bC,bD (by omega)]
   have hp:persL (ks.flatMap aV)=true:=iW
   have hle:(0+ks.length * 6≤(ks.flatMap aV).length)=True:=eq_true (by omega)
   have e:gG 8 (F2 s u a b::B1::B2::B3::g) (.hs (i+4) 0 ks.length false)=.sl (ks.flatMap aV) ks.length:=by
     rw [gG]
     simp only [pers,aG,if_false,hg,hd,hp,if_true,hle]
   refine ⟨?_,((F2 s u a b::B1::B2::B3::g).modify (i+4) AObj.fz).tail,?_⟩
   · rw [fQ]
     rcases hr with rfl | ⟨rfl,rfl⟩
     · simp only [pers,persL,qH,aG,aP,aM,if_false,aN,aW,e,elT,aS,avt,LTerm.kind,LTerm.n,LTerm.text,LTerm.sort,LTerm.kids,LTerm.rest]
       simp [gG,pers,iW]
     · simp only [pers,persL,qH,aG,aP,aM,if_false,aN,aW,e,elT,aS,avt,LTerm.kind,LTerm.n,LTerm.text,LTerm.sort,LTerm.kids,LTerm.rest]
       simp [gG,pers,iW]
   · have e2:dW dep (F2 s u a b::B1::B2::B3::g) (.agg [.i .i64 k,.i .i64 n,.s x,.s so,.hs (i+4) 0 ks.length false,rc])=[i+4]:=by
       rw [show dep=8+1 from rfl,dW]
       simp only [pers,persL,aG,aP,aM,if_false,List.flatMap_cons,List.flatMap_nil]
       rcases hr with rfl | ⟨rfl,rfl⟩
       · simp [dW,pers,hg,hp,iW,bD (show (ks.flatMap aV).length≤ks.length * 6 by omega)]
       · simp [dW,pers,hg,hp,iW,bD (show (ks.flatMap aV).length≤ks.length * 6 by omega)]
     rw [e2]
     simp [Vo.freeze]
theorem bSx:aRz Tryz.prog 28 1 #[(0,.const (.agg #[.int .i64 0,.int .i64 0,.string ⟨#[]⟩,.string ⟨#[]⟩,.slice none 0 0,.slice none 0 0]))]=some (.sl [.i .i64 0,.i .i64 0,.s [],.s [],.sl [] 0,.sl [] 0] 1):=by kernel_rfl
theorem bUp (W:List LTerm→Bool) (O:List LTerm→List LTerm) (s:eD) (u:LSub) (t:LTerm) (so tw:Bool) (hm:Small s) (hk:∀ k ∈ t.kids,bFw W O s u k) (hr:∀ r ∈ t.rest,bFw W O s u r) (h6:¬ t.kind=6) (h8:¬ t.kind=8) (hkl:t.kids.length≤1000000) (hrl:t.rest.length≤1000000) (hR:(mM (putL O u t.rest)).length≤1000000): ACalls Tryz.prog G0 58 [.ptr 0 0,elT t] [F2 s u so tw] (bMu s u (aBd O u t) (so || aBx s u t) (tw || aBw W O u t)):=by
 refine mS (rx:=true) (th:=fun i=>if i=5 then some ⟨none,[0],false,false,false,[],[],0⟩ else if i=12 then some ⟨none,[],false,false,true,[],[],1000⟩ else none) cU Tryz.func58 ?_
 · simp -implicitDefEqProofs (disch:=omega) only [Tryz.f58,bH,cL,dL,aI,aK,Nat.sub_zero,List.replicate,simprocAttr,elT,aS,F2,avu]
   refine zh (zf h6) ?_
   refine dB (fun (v:Nat × AV × List AObj × Bool × Bool)=>(rp 9 .k (.j::(rp 48 .k (.v (.i .i64 (v.1:Nat))::(rp 14 .j (rp 27 .k []))))))) (fun v=>(F2 s u v.2.2.2.1 v.2.2.2.2::.box false (tmC t)::.box false [.i .i64 0,.i .i64 0,.s [],.s [],.e0,.e0]::.box false [.i .i64 t.kind,.i .i64 t.n,.s t.text,.s t.sort,v.2.1,.sl (t.rest.flatMap aV) t.rest.length]::v.2.2.1)) (fun v=>(v.1≤t.kids.length∧gW 6 4 v.2.2.1 v.2.1 ((putL O u (t.kids.take v.1)).flatMap aV) (putL O u (t.kids.take v.1)).length)∧v.2.2.2.1=(so || putSL s u (t.kids.take v.1))∧v.2.2.2.2=(tw || putWL W O u (t.kids.take v.1))) (fun v=>t.kids.length - v.1) ((0,.e0,[],so,tw)) ⟨⟨bJ _,iI⟩,by simp [putSL],by simp [putWL]⟩ rfl (by simp [gX]) ?_
   rintro ⟨k,out,g,so1,tw1⟩ j ⟨⟨hk1,hb⟩,hso,htw⟩
   dsimp only at hk1 hb hso htw
   by_cases hlt:k < t.kids.length
   · have hki:decide ((k:Int) < ((t.kids.length:Nat):Int))=true:=zt (by omega)
     refine zh (zA2 hki (zA2 @F2.eq_1 (zA2 @avu.eq_1 @cC.eq_1))) ?_
     repeat refine bG (by omega) ?_
     refine bMh (rx:=⟨true,false,false,[],[66]⟩) (N:=⟨g.length+5,[0]⟩) cU 8 (by kernel_rfl) (al:=?_) ?_ ?_
     rotate_left
     · simp only [strip,kE,dT,kD,RX.off,ckF,ckX,zOf,exd,vOf,aF,aC,bB,aZ,aH,aX,aM,aH,bM,bP,cZ,eQ,aY,bF,aK,aI,dH,anyPre,Region.binds,aB,aD,aG,if_true,if_false,aT,aQ,aO,aP,aW,aN,aF,aC,List.append_nil,aL,bK,aU,bC,Nat.reduceAdd,aGc,sY,qC,pL,cJ,bS,bT,cO,beq_self_eq_true,fA,Nat.reduceBEq,oQ,nU,oO,jC,aCq,eP,gE,eE,tE,xU]
       rfl
     refine zg ?_
     refine ⟨by omega,?_⟩
     have hmk:=cQ (d:=default) hlt
     have cc:=hk _ hmk so1 tw1
     have hs1:=U9 (O:=O) (u:=u) hlt
     have hs2:=H6 (s:=s) (u:=u) hlt
     have hs3:=H5 (W:=W) (O:=O) (u:=u) hlt
     have hll:=M0 O u (t.kids.take k)
     rw [cH] at hll
     simp only [F2,avu,cC] at cc
     refine bMb cc (I0 s u so1 tw1) (I0 s u _ _) (by rw [elT,pers,vX]) (by simp only [elT,aS,avt,renL,ren,renL_pers _ _ iW,aIv]) (by simp [DR.old]) ?_
     have hso2:(so1 || aBx s u (t.kids.getD k default))=(so || putSL s u (t.kids.take (k+1))):=by rw [hs2,hso,lF]
     have htw2:(tw1 || aBw W O u (t.kids.getD k default))=(tw || putWL W O u (t.kids.take (k+1))):=by rw [hs3,htw,lF]
     generalize aBd O u (t.kids.getD k default)=T at *
     generalize (so1 || aBx s u (t.kids.getD k default))=so2 at *
     generalize (tw1 || aBw W O u (t.kids.getD k default))=tw2 at *
     have hAl:((putL O u (t.kids.take k)).flatMap aV).length=(putL O u (t.kids.take k)).length * 6:=uB
     rcases hb with ⟨rfl,hb2,hb3⟩ | ⟨i0,rfl,hb2,hb3⟩
     · refine zh (zA2 @elT.eq_1 (zA2 @aS (zA2 @avt.eq_1 (zA2 @nW (zA2 @dY.{0} (zA2 @fC.{0} (zA2 @List.append_nil.{0} @bSx))))))) ?_
       repeat refine bG (by omega) ?_
       refine aRi 8 (by kernel_rfl) (by simp only [cJ,bT,bS,Nat.reduceAdd]; rfl) (by simp only [cJ,bT,bS,Nat.reduceAdd]; rfl) (by simp only [cJ,bT,bS,Nat.reduceAdd]; rfl) (by simp only [cJ,bT,bS,Nat.reduceAdd]; rfl) (by simp only [strip,kE,dT,kD,RX.off,ckF,ckX,zOf,exd,vOf,aF,aC,bB,aZ,aH,aX,aM,aH,bM,bP,cZ,eQ,aY,bF,aK,aI,dH,anyPre,Region.binds,aB,aD,aG,if_true,if_false,aT,aQ,aO,aP,aW,aN,aF,aC,List.append_nil,aL,bK,aU,bC,Nat.reduceAdd]; rfl) (by simp only [strip,kE,dT,kD,RX.off,ckF,ckX,zOf,exd,vOf,aF,aC,bB,aZ,aH,aX,aM,aH,bM,bP,cZ,eQ,aY,bF,aK,aI,dH,anyPre,Region.binds,aB,aD,aG,if_true,if_false,aT,aQ,aO,aP,aW,aN,aF,aC,List.append_nil,aL,bK,aU,bC,Nat.reduceAdd]; rfl) (by simp only [strip,kE,dT,kD,RX.off,ckF,ckX,zOf,exd,vOf,aF,aC,bB,aZ,aH,aX,aM,aH,bM,bP,cZ,eQ,aY,bF,aK,aI,dH,anyPre,Region.binds,aB,aD,aG,if_true,if_false,aT,aQ,aO,aP,aW,aN,aF,aC,List.append_nil,aL,bK,aU,bC,Nat.reduceAdd]; rfl) (by simp only [strip,kE,dT,kD,RX.off,ckF,ckX,zOf,exd,vOf,aF,aC,bB,aZ,aH,aX,aM,aH,bM,bP,cZ,eQ,aY,bF,aK,aI,dH,anyPre,Region.binds,aB,aD,aG,if_true,if_false,aT,aQ,aO,aP,aW,aN,aF,aC,List.append_nil,aL,bK,aU,bC,Nat.reduceAdd]; rfl) ?_
       refine zg ?_
       repeat' apply bG
       all_goals first
         | omega
         | exact ⟨(k+1,.hs (g.length+1+4) 0 1 false,g++[.box false (tmC ((t.kids.getD k default))),.arr false 6 (tmC T)],so2,tw2),⟨⟨by dsimp only; omega,.inr ⟨g.length+1,by dsimp only; rw [hs1,List.length_append,hb3]; rfl,by dsimp only; rw [hs1,List.flatMap_append,hb2,List.flatMap_cons,List.flatMap_nil,aS,List.append_nil]; simp [avt],by dsimp only; rw [hs1,List.flatMap_append,hb2,List.flatMap_cons,List.flatMap_nil,aS,List.append_nil]; simp [hb3]⟩⟩,hso2,htw2⟩,by dsimp only; omega,rfl,by simp [hb3]⟩
     · have hb2m:∀ m:List AObj,(g++m)[i0]? = some (.arr false 6 ((putL O u (t.kids.take k)).flatMap aV)):=fun m=>by rw [aJ (bO hb2)]; exact hb2
       have hil:=bO hb2
       refine zh (zA2 @elT.eq_1 (zA2 @aS (zA2 @avt.eq_1 (zA2 @nW (zA2 @dY.{0} (zA2 @fC.{0} (zA2 @List.append_nil.{0} (zA2 @bSx hb2m)))))))) ?_
       repeat refine bG (by omega) ?_
       refine aRi 8 (by kernel_rfl) (by simp only [cJ,bT,bS,Nat.reduceAdd]; rfl) (by simp only [cJ,bT,bS,Nat.reduceAdd]; rfl) (by simp only [cJ,bT,bS,Nat.reduceAdd]; rfl) (by simp only [cJ,bT,bS,Nat.reduceAdd]; rfl) (by simp only [strip,kE,dT,kD,RX.off,ckF,ckX,zOf,exd,vOf,aF,aC,bB,aZ,aH,aX,aM,aH,bM,bP,cZ,eQ,aY,bF,aK,aI,dH,anyPre,Region.binds,aB,aD,aG,if_true,if_false,aT,aQ,aO,aP,aW,aN,aF,aC,List.append_nil,aL,bK,aU,bC,Nat.reduceAdd]; rfl) (by simp only [strip,kE,dT,kD,RX.off,ckF,ckX,zOf,exd,vOf,aF,aC,bB,aZ,aH,aX,aM,aH,bM,bP,cZ,eQ,aY,bF,aK,aI,dH,anyPre,Region.binds,aB,aD,aG,if_true,if_false,aT,aQ,aO,aP,aW,aN,aF,aC,List.append_nil,aL,bK,aU,bC,Nat.reduceAdd]; rfl) (by simp only [strip,kE,dT,kD,RX.off,ckF,ckX,zOf,exd,vOf,aF,aC,bB,aZ,aH,aX,aM,aH,bM,bP,cZ,eQ,aY,bF,aK,aI,dH,anyPre,Region.binds,aB,aD,aG,if_true,if_false,aT,aQ,aO,aP,aW,aN,aF,aC,List.append_nil,aL,bK,aU,bC,Nat.reduceAdd]; rfl) (by simp only [strip,kE,dT,kD,RX.off,ckF,ckX,zOf,exd,vOf,aF,aC,bB,aZ,aH,aX,aM,aH,bM,bP,cZ,eQ,aY,bF,aK,aI,dH,anyPre,Region.binds,aB,aD,aG,if_true,if_false,aT,aQ,aO,aP,aW,aN,aF,aC,List.append_nil,aL,bK,aU,bC,Nat.reduceAdd]; rfl) ?_
       have hx1:((g++[AObj.box false [AV.i .i64 (t.kids.getD k default).kind,AV.i .i64 (t.kids.getD k default).n,AV.s (t.kids.getD k default).text,AV.s (t.kids.getD k default).sort,AV.sl ((t.kids.getD k default).kids.flatMap aV) (t.kids.getD k default).kids.length,AV.sl ((t.kids.getD k default).rest.flatMap aV) (t.kids.getD k default).rest.length]]).set i0 AObj.dead++[AObj.arr false 6 ((putL O u (t.kids.take k)).flatMap aV++[AV.i .i64 0,AV.i .i64 0,AV.s [],AV.s [],AV.sl [] 0,AV.sl [] 0])])[g.length+1]? = some (AObj.arr false 6 ((putL O u (t.kids.take k)).flatMap aV++[AV.i .i64 0,AV.i .i64 0,AV.s [],AV.s [],AV.sl [] 0,AV.sl [] 0])):=by
         rw [aR (by simp)]; simp
       have hx2:((0:Int)≤((putL O u (t.kids.take k)).length:Nat)∧((((putL O u (t.kids.take k)).length:Nat):Int) < ((((putL O u (t.kids.take k)).length+1:Nat)):Int)))=True:=eq_true (by omega)
       have hx3:List.take ((putL O u (t.kids.take k)).length * 6) ((putL O u (t.kids.take k)).flatMap aV++[AV.i .i64 0,AV.i .i64 0,AV.s [],AV.s [],AV.sl [] 0,AV.sl [] 0])=(putL O u (t.kids.take k)).flatMap aV:=by
         rw [List.take_append_of_le_length (by omega),bD (by omega)]
       have hx4:List.drop ((putL O u (t.kids.take k)).length * 6+6) ((putL O u (t.kids.take k)).flatMap aV++[AV.i .i64 0,AV.i .i64 0,AV.s [],AV.s [],AV.sl [] 0,AV.sl [] 0])=[]:=dI (by simp only [List.length_append,hAl,bH,cL]; omega)
       have hx5:((putL O u (t.kids.take k)).length * 6+6≤((putL O u (t.kids.take k)).flatMap aV++[AV.i .i64 0,AV.i .i64 0,AV.s [],AV.s [],AV.sl [] 0,AV.sl [] 0]).length)=True:=eq_true (by simp only [List.length_append,hAl,bH,cL]; omega)
       refine zh (zA2 hx1 (zA2 hx2 (zA2 hx3 (zA2 hx4 hx5)))) ?_
       repeat' apply bG
       all_goals first
         | omega
         | skip
       all_goals refine ⟨(k+1,.hs (g.length+1+4) 0 ((putL O u (t.kids.take k)).length+1) false,_,so2,tw2),⟨⟨by dsimp only; omega,.inr ⟨g.length+1,by dsimp only; rw [hs1,List.length_append]; rfl,?_,?_⟩⟩,hso2,htw2⟩,by dsimp only; omega,rfl,by simp⟩
       all_goals dsimp only
       all_goals rw [hs1,List.flatMap_append,List.flatMap_cons,List.flatMap_nil,aS,List.append_nil]
       all_goals first
         | (rw [jV (by simp)]; rfl)
         | (rw [List.length_append,hAl,List.length_append]; simp; omega)
   · have hki:decide ((k:Int) < ((t.kids.length:Nat):Int))=false:=zf (by omega)
     obtain rfl:k=t.kids.length:=by omega
     rw [bD (bQ _)] at hb hso htw
     refine zh hki ?_
     refine dB (fun (v:Nat × AV × List AObj × (Bool × Bool) × AV)=>(rp 11 .k (.j::.j::(rp 63 .k (.v (.i .i64 (v.1:Nat))::(rp 17 .j (rp 6 .k []))))))) (fun v=>(F2 s u v.2.2.2.1.1 v.2.2.2.1.2::.box false (tmC t)::.box false [.i .i64 0,.i .i64 0,.s [],.s [],.e0,.e0]::.box false [.i .i64 t.kind,.i .i64 t.n,.s t.text,.s t.sort,v.2.1,v.2.2.2.2]::v.2.2.1)) (fun v=>(v.1≤t.rest.length∧gW 6 4 v.2.2.1 v.2.1 ((putL O u t.kids++mM (putL O u (t.rest.take v.1))).flatMap aV) (putL O u t.kids++mM (putL O u (t.rest.take v.1))).length)∧v.2.2.2.1.1=(so1 || putSL s u (t.rest.take v.1))∧v.2.2.2.1.2=(tw1 || putWL W O u (t.rest.take v.1))∧v.2.2.2.2=(if (putL O u (t.rest.take v.1)).any (fun r => !decide (r.kind=6))=true then .e0 else .sl (t.rest.flatMap aV) t.rest.length)) (fun v=>t.rest.length - v.1) ((0,out,g,(so1,tw1),.sl (t.rest.flatMap aV) t.rest.length)) ⟨⟨bJ _,by simpa [putL,mM] using hb⟩,by simp [putSL],by simp [putWL],by simp [putL]⟩ rfl (by simp [gX]) ?_
     rintro ⟨k,out2,g2,⟨so3,tw3⟩,rc⟩ j2 ⟨⟨hk2,hb4⟩,hso3,htw3,hrc⟩
     dsimp only at hk2 hb4 hso3 htw3 hrc
     by_cases hlt2:k < t.rest.length
     · have hki2:decide ((k:Int) < ((t.rest.length:Nat):Int))=true:=zt (by omega)
       refine zh (zA2 hki2 (zA2 @F2.eq_1 (zA2 @avu.eq_1 @cC.eq_1))) ?_
       repeat refine bG (by omega) ?_
       have hmr:=cQ (d:=default) hlt2
       have cc:=hr _ hmr so3 tw3
       have hs1:=U9 (O:=O) (u:=u) hlt2
       have hs2:=H6 (s:=s) (u:=u) hlt2
       have hs3:=H5 (W:=W) (O:=O) (u:=u) hlt2
       have hb5:=aHv (O:=O) (u:=u) (l:=t.rest) (k:=k+1)
       have hll:=M0 O u t.kids
       simp only [F2,avu,cC] at cc
       refine lA (C7 0 g0 cc (I0 s u so3 tw3) (I0 s u _ _) (by rw [elT,pers,vX]) rfl (by simp only [elT,aS,avt,renL,ren,renL_pers _ _ iW,aIv])) ?_
       rintro r' h' ⟨rfl,rfl⟩
       have hso4:(so3 || aBx s u (t.rest.getD k default))=(so1 || putSL s u (t.rest.take (k+1))):=by rw [hs2,hso3,lF]
       have htw4:(tw3 || aBw W O u (t.rest.getD k default))=(tw1 || putWL W O u (t.rest.take (k+1))):=by rw [hs3,htw3,lF]
       generalize aBd O u (t.rest.getD k default)=T at *
       generalize (so3 || aBx s u (t.rest.getD k default))=so4 at *
       generalize (tw3 || aBw W O u (t.rest.getD k default))=tw4 at *
       have hK:mM (putL O u (t.rest.take (k+1)))=mM (putL O u (t.rest.take k))++(if T.kind=6 then [] else T.kids):=by
         rw [hs1,U1]; simp [mM]
       by_cases hT:T.kind=6
       · rw [if_pos hT,List.append_nil] at hK
         refine zh (zA2 @elT.eq_1 (zA2 @aS (zA2 @avt.eq_1 (zt hT)))) ?_
         refine ⟨(k+1,out2,_,(so4,tw4),rc),⟨⟨by dsimp only; omega,?_⟩,hso4,htw4,?_⟩,by dsimp only; omega,rfl,by simp⟩
         · dsimp only
           rw [hK]
           simpa using hb4.more _
         · dsimp only
           rw [hs1,List.any_append,hrc]
           simp [hT]
       · rw [if_neg hT] at hK
         refine zh (zA2 @elT.eq_1 (zA2 @aS (zA2 @avt.eq_1 (zf hT)))) ?_
         have hb6:(mM (putL O u (t.rest.take k))).length+T.kids.length≤1000000:=by rw [hK,List.length_append] at hb5; omega
         refine eK (N:=4) (pre:=[.box false [.box (eA s) 0,.sl (u.flatMap prT) u.length,.b so4,.b tw4],.box false (tmC t),.box false [.i .i64 0,.i .i64 0,.s [],.s [],.e0,.e0],.box false [.i .i64 t.kind,.i .i64 t.n,.s t.text,.s t.sort,out2,rc]]) (g:=g2) (more:=[.box false (tmC ((t.rest.getD k default))),.box false (tmC T)]) (news:=T.kids.flatMap aV) (m:=T.kids.length) hb4 rfl ?_ aZb aXm aXq aZx rfl (by decide) ?_ ?_ ⟨by rw [List.length_append]; omega,by rw [List.length_append]; omega⟩ ?_
         · simp only [aI,aK,cD]
         · exact zu
         · exact zu
         intro out' g' ho' _
         rw [← List.flatMap_append,cD,← hK,← List.length_append,cD,← hK] at ho'
         have ho2:=ho'
         rcases ho2 with ⟨rfl,h2,h3⟩ | ⟨i1,rfl,hi1,hl1⟩
         · refine zg ?_
           exact ⟨(k+1,.e0,g',(so4,tw4),.e0),⟨⟨by dsimp only; omega,by dsimp only; rw [← List.length_append]; exact ho'⟩,hso4,htw4,by dsimp only; rw [hs1,List.any_append]; simp [hT]⟩,by dsimp only; omega,rfl,by simp⟩
         · refine zg ?_
           exact ⟨(k+1,.hs (i1+4) 0 ((putL O u t.kids).length+(mM (putL O u (t.rest.take (k+1)))).length) false,g',(so4,tw4),.e0),⟨⟨by dsimp only; omega,by dsimp only; rw [← List.length_append]; exact ho'⟩,hso4,htw4,by dsimp only; rw [hs1,List.any_append]; simp [hT]⟩,by dsimp only; omega,rfl,by simp⟩
     · have hki2:decide ((k:Int) < ((t.rest.length:Nat):Int))=false:=zf (by omega)
       obtain rfl:k=t.rest.length:=by omega
       rw [bD (bQ _)] at hb4 hso3 htw3 hrc
       refine zh (zA2 hki2 (zf h8)) ?_
       rw [bHo h6 h8,bHp h6,bHn h6 h8,← lF,← lF,← hso,← htw,← hso3,← htw3]
       refine aTf hb4 ?_
       rw [hrc]
       split
       · exact .inr ⟨rfl,rfl⟩
       · exact .inl rfl

def bFq (W:List LTerm→Bool) (O:List LTerm→List LTerm) (s:eD) (t:LTerm) (u:LSub):LTerm × Int:=
 if aOm s t=true∧(kH s && oD s u)=true then (if aBx s u t=true then (zT,16) else if aBw W O u t=true then (zT,14) else if kV eG (aBd O u t)=true then (aBd O u t,0) else (zT,3)) else (zT,2)
theorem Z5 {h:List AObj} {o:Int}:Vo.Fin h (.tup [.agg [.i .i64 0,.i .i64 0,.s [],.s [],.e0,.e0],.i .i64 o]) (.tup [elT zT,.i .i64 o]):=.inr ⟨⟨⟨rfl,rfl,rfl,rfl,rfl,rfl,trivial⟩,rfl,trivial⟩,fJ,fun i hi=>by cases hi⟩
theorem bIp {h:List AObj} {t:LTerm} {o:Int}:Vo.Fin h (.tup [.agg (tmC t),.i .i64 o]) (.tup [elT t,.i .i64 o]):=.inl ⟨by rw [elT,aS]; rfl,by simp [pers,persL,iW]⟩
theorem bJv (W:List LTerm→Bool) (O:List LTerm→List LTerm) (s:eD) (t:LTerm) (u:LSub) (hm:Small s) (hs:OkS s) (ht:OkT t) (hu:OkU 1000000 u) (hn:∀ q ∈ u,q.1.length≤140737488355328) (hP:aOm s t=true→oD s u=true→bFw W O s u t) (hO:OkT (aBd O u t)): CT 22 [.agg (dD s),elT t,avu u] (.tup [elT (bFq W O s t u).1,.i .i64 (bFq W O s t u).2]):=by
 refine dN cU Tryz.func22 g0 ?_
 · generalize hR:((.tup [elT (bFq W O s t u).1,.i .i64 (bFq W O s t u).2]):AV)=R
   simp -implicitDefEqProofs (disch:=omega) only [Tryz.f22,go_sem,List.replicate,simprocAttr,elT,aS,avu]
   have c1:=bKh s t hm hs ht
   have c2:=bJw s u hm hs hu hn
   simp only [avu] at c2
   rw [bFq] at hR
   by_cases h1:aOm s t=true
   · rw [h1] at c1
     by_cases h2:(kH s && oD s u)=true
     · rw [h2] at c2
       rw [if_pos ⟨h1,h2⟩] at hR
       have hv:kH s=true:=by rw [aE] at h2; exact h2.1
       have c3:=aAd s hm (iK hv)
       have cP:=hP h1 (by rw [aE] at h2; exact h2.2) false false
       have c4:=aFz _ hO
       have c5:=aZq _ hO
       generalize aBd O u t=T at *
       rw [cO,cO] at cP
       simp only [F2,avu,cC] at cP
       (repeat' (first | refine gT ?_ ?_ | refine gF ?_ ?_ | refine gC ?_ ?_ | ((first | (refine bU (c1) ?_ ?_; (focus (simp -implicitDefEqProofs (disch:=omega) only [aB,zdB,go_sem,simprocAttr]; done))) | (refine bU (c2) ?_ ?_; (focus (simp -implicitDefEqProofs (disch:=omega) only [aB,zdB,go_sem,simprocAttr]; done))) | (refine bU (c3) ?_ ?_; (focus (simp -implicitDefEqProofs (disch:=omega) only [aB,zdB,go_sem,simprocAttr]; done)))); simp -implicitDefEqProofs (disch:=omega) only [aB,go_sem,simprocAttr]) | refine bG (by omega) ?_ | (intro hr; have hc:=hr; (try simp only [zdz] at hc); simp -implicitDefEqProofs (disch:=omega) only [hr,aB,go_sem,simprocAttr]; (try clear hr))))
       refine lA (C7 3 g0 cP (I0 s u _ _) (I0 s u _ _) (by rw [elT,pers,vX]) rfl (by simp only [elT,aS,avt,renL,ren,renL_pers _ _ iW,aIv])) ?_
       rintro r' h' ⟨rfl,rfl⟩
       by_cases hS:aBx s u t=true
       · rw [if_pos hS] at hR
         refine zh (zA2 hS (zA2 @elT.eq_1 (zA2 @aS @avt.eq_1))) ?_
         subst hR
         exact Z5
       · rw [if_neg hS] at hR
         by_cases hW:aBw W O u t=true
         · rw [if_pos hW] at hR
           refine zh (zA2 (cT.2 hS) (zA2 hW (zA2 @elT.eq_1 (zA2 @aS @avt.eq_1)))) ?_
           subst hR
           exact Z5
         · rw [if_neg hW] at hR
           by_cases hV:kV eG T=true
           · rw [if_pos hV] at hR
             rw [hV] at c4
             refine zh (zA2 (cT.2 hS) (zA2 (cT.2 hW) (zA2 @elT.eq_1 (zA2 @aS @avt.eq_1)))) ?_
             (repeat' (first | refine gT ?_ ?_ | refine gF ?_ ?_ | refine gC ?_ ?_ | ((first | (refine bU (c4) ?_ ?_; (focus (simp -implicitDefEqProofs (disch:=omega) only [aB,zdB,go_sem,simprocAttr]; done))) | (refine bU (c5) ?_ ?_; (focus (simp -implicitDefEqProofs (disch:=omega) only [aB,zdB,go_sem,simprocAttr]; done)))); simp -implicitDefEqProofs (disch:=omega) only [aB,go_sem,simprocAttr]) | refine bG (by omega) ?_ | (intro hr; have hc:=hr; (try simp only [zdz] at hc); simp -implicitDefEqProofs (disch:=omega) only [hr,aB,go_sem,simprocAttr]; (try clear hr))))
             subst hR
             exact bIp
           · rw [if_neg hV] at hR
             rw [cT.2 hV] at c4
             refine zh (zA2 (cT.2 hS) (zA2 (cT.2 hW) (zA2 @elT.eq_1 (zA2 @aS @avt.eq_1)))) ?_
             (repeat' (first | refine gT ?_ ?_ | refine gF ?_ ?_ | refine gC ?_ ?_ | ((refine bU (c4) ?_ ?_; (focus (simp -implicitDefEqProofs (disch:=omega) only [aD,zdB,go_sem,simprocAttr]; done))); simp -implicitDefEqProofs (disch:=omega) only [aD,go_sem,simprocAttr]) | refine bG (by omega) ?_ | (intro hr; have hc:=hr; (try simp only [zdz] at hc); simp -implicitDefEqProofs (disch:=omega) only [hr,aD,go_sem,simprocAttr]; (try clear hr))))
             subst hR
             exact Z5
     · rw [cT.2 h2] at c2
       rw [if_neg (fun h=>h2 h.2)] at hR
       (repeat' (first | refine gT ?_ ?_ | refine gF ?_ ?_ | refine gC ?_ ?_ | ((first | (refine bU (c1) ?_ ?_; (focus (simp -implicitDefEqProofs (disch:=omega) only [aB,aD,zdB,go_sem,simprocAttr]; done))) | (refine bU (c2) ?_ ?_; (focus (simp -implicitDefEqProofs (disch:=omega) only [aB,aD,zdB,go_sem,simprocAttr]; done)))); simp -implicitDefEqProofs (disch:=omega) only [aB,aD,go_sem,simprocAttr]) | refine bG (by omega) ?_ | (intro hr; have hc:=hr; (try simp only [zdz] at hc); simp -implicitDefEqProofs (disch:=omega) only [hr,aB,aD,go_sem,simprocAttr]; (try clear hr))))
       subst hR
       exact Z5
   · rw [cT.2 h1] at c1
     rw [if_neg (fun h=>h1 h.1)] at hR
     (repeat' (first | refine gT ?_ ?_ | refine gF ?_ ?_ | refine gC ?_ ?_ | ((refine bU (c1) ?_ ?_; (focus (simp -implicitDefEqProofs (disch:=omega) only [aD,zdB,go_sem,simprocAttr]; done))); simp -implicitDefEqProofs (disch:=omega) only [aD,go_sem,simprocAttr]) | refine bG (by omega) ?_ | (intro hr; have hc:=hr; (try simp only [zdz] at hc); simp -implicitDefEqProofs (disch:=omega) only [hr,aD,go_sem,simprocAttr]; (try clear hr))))
     subst hR
     exact Z5

def wS:eD:=⟨[],[],[],[],[]⟩
def bAi:Str:=[73,110,116]
def wX:Str:=[88]
def wL:Str:=[76]
def wZ:Str:=[90]
def tN (n:Int):LTerm:=.mk 1 n [] [] [] []
def tV (x so:Str):LTerm:=.mk 6 0 x so [] []
def tI (x:Str):LTerm:=.mk 4 0 x [] [] []
def tL (ks rs:List LTerm):LTerm:=.mk 7 0 [] [] ks rs
def S4:Str:=[76,105,115,116]
def wT1:LTerm:=tL [tN 1,tN 2] []
def wp1:LTerm:=tL [tV wX bAi] [tV wL S4]
def wm:LTerm:=.mk 8 0 [] [] [tI [97],tN 1,tI [98],tN 2] []
def wp2:LTerm:=.mk 8 0 [] [] [tV [75] [73,100],tV [86] bAi] [tV [77] [77,97,112]]
def wp3:LTerm:=tL [tV wX bAi,tV wX bAi] []
def wpd:LTerm:=tV [36] [65,110,121]
def wq1:LTerm:=tL [] [tV wL S4]
def wq2:LTerm:=tL [tV wX bAi] []
def wu:LSub:=[(wL,tL [tN 2] []),(wX,tN 1)]
def wb:LSub:=[(wL,tL [tN 2] []),(wX,tN 1),(wZ,tN 3)]
def wk:List LSub:=(jB wS wp2 wm []).1
theorem okw {k n:Int} {x so:Str} {ks rs:List LTerm} (hx:x.length≤100) (hs:so.length≤100) (hn:0≤n∧n≤100) (hk:ks.length≤100) (hr:rs.length≤100) (h:∀ t ∈ ks,OkT t) (h2:∀ t ∈ rs,OkT t):OkT (.mk k n x so ks rs):=
 .mk (by simp only [LTerm.text]; omega) (by simp only [LTerm.sort]; omega) (by simp only [LTerm.n]; omega) (by simp only [LTerm.n]; omega) (by simp only [LTerm.kids]; omega) (by simp only [LTerm.rest]; omega) (by simpa [LTerm.kids] using h) (by simpa [LTerm.rest] using h2)
theorem okn:∀ t ∈ ([]:List LTerm),OkT t:=fun t h=>by cases h
theorem okc {a:LTerm} {l:List LTerm} (ha:OkT a) (h:∀ t ∈ l,OkT t):∀ t ∈ a::l,OkT t:=fun t ht=>by
 rcases dE.1 ht with rfl | ht
 · exact ha
 · exact h t ht
theorem okN {n:Int} (h:0≤n∧n≤100):OkT (tN n):=okw (by decide) (by decide) h (by decide) (by decide) okn okn
theorem okV {x so:Str} (hx:x.length≤100) (hs:so.length≤100):OkT (tV x so):=okw hx hs (by decide) (by decide) (by decide) okn okn
theorem okI {x:Str} (hx:x.length≤100):OkT (tI x):=okw hx (by decide) (by decide) (by decide) (by decide) okn okn
theorem bIa:OkT wT1:=okw (by decide) (by decide) (by decide) (by decide) (by decide) (okc (okN (by decide)) (okc (okN (by decide)) okn)) okn
theorem bRp:OkT wp1:=okw (by decide) (by decide) (by decide) (by decide) (by decide) (okc (okV (by decide) (by decide)) okn) (okc (okV (by decide) (by decide)) okn)
theorem bVc:OkT wm:=okw (by decide) (by decide) (by decide) (by decide) (by decide) (okc (okI (by decide)) (okc (okN (by decide)) (okc (okI (by decide)) (okc (okN (by decide)) okn)))) okn
theorem bRo:OkT wp2:=okw (by decide) (by decide) (by decide) (by decide) (by decide) (okc (okV (by decide) (by decide)) (okc (okV (by decide) (by decide)) okn)) (okc (okV (by decide) (by decide)) okn)
theorem bVb:OkT wp3:=okw (by decide) (by decide) (by decide) (by decide) (by decide) (okc (okV (by decide) (by decide)) (okc (okV (by decide) (by decide)) okn)) okn
theorem bVa:OkT wpd:=okV (by decide) (by decide)
theorem bUz:OkT wq1:=okw (by decide) (by decide) (by decide) (by decide) (by decide) okn (okc (okV (by decide) (by decide)) okn)
theorem bRn:OkT wq2:=okw (by decide) (by decide) (by decide) (by decide) (by decide) (okc (okV (by decide) (by decide)) okn) okn
theorem bRq:OkT (tL [tN 2] []):=okw (by decide) (by decide) (by decide) (by decide) (by decide) (okc (okN (by decide)) okn) okn
theorem smW:Small wS:=⟨by decide,by decide,by decide,by decide,by decide⟩
theorem aNb:OkS wS:=⟨by decide,by simp [wS],by decide,by simp [wS],by decide,by simp [wS],by decide,by simp [wS],by decide,by decide,by decide,by simp [wS]⟩
theorem bCj {m:Nat}:OkU m []:=⟨bJ _,fun p h=>by cases h⟩
theorem bHz {m:Nat} {x:Str} {t:LTerm} {u:LSub} (ht:OkT t) (h:OkU m u):OkU (m+1) ((x,t)::u):=⟨by have:=h.1; simp; omega,fun p hp=>by
 rcases dE.1 hp with rfl | hp
 · exact ht
 · exact h.2 p hp⟩
theorem bRm:OkU 100000 wu:=bHz bRq (bHz (okN (by decide)) bCj)
theorem bUy:OkU 100000 wb:=bHz bRq (bHz (okN (by decide)) (bHz (okN (by decide)) bCj))
theorem nm0:∀ q ∈ ([]:LSub),q.1.length≤140737488355328:=fun q h=>by cases h
theorem nmc {x:Str} {t:LTerm} {u:LSub} (hx:x.length≤100) (h:∀ q ∈ u,q.1.length≤140737488355328):∀ q ∈ (x,t)::u,q.1.length≤140737488355328:=fun q hq=>by
 rcases dE.1 hq with rfl | hq
 · show x.length≤_; omega
 · exact h q hq
theorem nmu:∀ q ∈ wu,q.1.length≤140737488355328:=nmc (by decide) (nmc (by decide) nm0)
theorem nmb:∀ q ∈ wb,q.1.length≤140737488355328:=nmc (by decide) (nmc (by decide) (nmc (by decide) nm0))
def W0:List LTerm→Bool:=fun _=>false
theorem bQw:AscU wu:=G9 (s:=wS) (by kernel_rfl)
theorem bBv:bFw W0 id wS wu (tV wX bAi):=fun so tw=>pV g0 (bRk W0 id wS wu (tV wX bAi) so tw smW bQw (by decide) rfl) (by rw [elT,pers,vX]) (by simp [AObj.persO,persL,pers,oJ,avu,mE]) (bQ _)
theorem bOl:bFw W0 id wS wu (tV wL S4):=fun so tw=>pV g0 (bRk W0 id wS wu (tV wL S4) so tw smW bQw (by decide) rfl) (by rw [elT,pers,vX]) (by simp [AObj.persO,persL,pers,oJ,avu,mE]) (bQ _)
theorem bUo:bFw W0 id wS wu wp1:=fun so tw=>pV g0 (bUp W0 id wS wu wp1 so tw smW (fun k hk=>by rw [bV.1 hk]; exact bBv) (fun k hk=>by rw [bV.1 hk]; exact bOl) (by decide) (by decide) (by decide) (by decide) (by decide +kernel)) (by rw [elT,pers,vX]) (by simp [AObj.persO,persL,pers,oJ,avu,mE]) (bQ _)
theorem bOk:aBd id wu wp1=wT1:=by decide +kernel
def aYo:List (FuncId × List AV × AV):=[
 (12,[.agg (dD wS),elT wp1,elT wT1,.sl [] 0],.tup [avw [wu],.i .i64 0]),
 (12,[.agg (dD wS),elT wp2,elT wm,.sl [] 0],.tup [avw wk,.i .i64 0]),
 (12,[.agg (dD wS),elT wp3,elT wT1,.sl [] 0],.tup [avw [],.i .i64 0]),
 (12,[.agg (dD wS),elT wpd,elT (tN 1),.sl [] 0],.tup [avw [],.i .i64 2]),
 (12,[.agg (dD wS),elT (tN 1),elT (tN 2),.sl [] 0],.tup [avw [],.i .i64 0]),
 (22,[.agg (dD wS),elT wp1,avu wu],.tup [elT wT1,.i .i64 0]),
 (45,[.agg (dD wS)],cC wS),
 (44,[.agg (dD wS)],.b true),
 (70,[avu wu,.s wZ,elT (tN 3)],avu wb),
 (134,[.agg [cC wS],.mapv [] [],elT (tV wL S4),elT wq2,.fn 76 [] []],.b true),
 (67,[.agg (dD wS),elT (tN 3)],.b true),
 (24,[elT wT1,elT wT1],.b true),
 (48,[cC wS,avu wu],.b true),
 (48,[cC wS,avu wb],.b true),
 (20,[.agg (dD wS),elT wp2],.b true),
 (20,[.agg (dD wS),elT wq1],.b true),
 (20,[.agg (dD wS),elT wq2],.b true)]
theorem nG {f:FuncId} {a:List AV} {r r':AV} (h:CT f a r) (e:r=r'):CT f a r':=e ▸ h
theorem km1:CT 12 [.agg (dD wS),elT wp1,elT wT1,.sl [] 0] (.tup [avw [wu],.i .i64 0]):=nG (C1 wS wp1 wT1 [] smW aNb bRp bIa bCj nm0 (by decide) (by decide)) (by rw [show jB wS wp1 wT1 []=([wu],0) by kernel_rfl])
theorem km2:CT 12 [.agg (dD wS),elT wp2,elT wm,.sl [] 0] (.tup [avw wk,.i .i64 0]):=nG (C1 wS wp2 wm [] smW aNb bRo bVc bCj nm0 (by decide) (by decide)) (by rw [show (jB wS wp2 wm []).2=0 by kernel_rfl]; rfl)
theorem km3:CT 12 [.agg (dD wS),elT wp3,elT wT1,.sl [] 0] (.tup [avw [],.i .i64 0]):=nG (C1 wS wp3 wT1 [] smW aNb bVb bIa bCj nm0 (by decide) (by decide)) (by rw [show jB wS wp3 wT1 []=([],0) by kernel_rfl])
theorem km4:CT 12 [.agg (dD wS),elT wpd,elT (tN 1),.sl [] 0] (.tup [avw [],.i .i64 2]):=nG (C1 wS wpd (tN 1) [] smW aNb bVa (okN (by decide)) bCj nm0 (by decide) (by decide)) (by rw [show jB wS wpd (tN 1) []=([],2) by kernel_rfl])
theorem km5:CT 12 [.agg (dD wS),elT (tN 1),elT (tN 2),.sl [] 0] (.tup [avw [],.i .i64 0]):=nG (C1 wS (tN 1) (tN 2) [] smW aNb (okN (by decide)) (okN (by decide)) bCj nm0 (by decide) (by decide)) (by rw [show jB wS (tN 1) (tN 2) []=([],0) by kernel_rfl])
theorem km6:CT 22 [.agg (dD wS),elT wp1,avu wu] (.tup [elT wT1,.i .i64 0]):=nG (bJv W0 id wS wp1 wu smW aNb bRp (bRm.mono (by omega)) nmu (fun _ _=>bUo) (bOk ▸ bIa)) (by rw [show bFq W0 id wS wp1 wu=(wT1,0) by kernel_rfl])
theorem hvW:kH wS=true:=by kernel_rfl
theorem km7:CT 45 [.agg (dD wS)] (cC wS):=aAd wS smW (iK hvW)
theorem km8:CT 44 [.agg (dD wS)] (.b true):=hvW ▸ aIx wS smW aNb
theorem km9:CT 70 [avu wu,.s wZ,elT (tN 3)] (avu wb):=nG (aZi wu wZ (tN 3) bQw (by kernel_rfl) (by decide)) (by rw [show aEz wu wZ (tN 3)=wb by kernel_rfl])
theorem bVm:CT 134 [.agg [cC wS],.mapv [] [],elT (tV wL S4),elT wq2,.fn 76 [] []] (.b true):=nG (bJn wS [] (tV wL S4) wq2 76 [] [] (fun _=>true) smW (fun x h=>by cases h) (okV (by decide) (by decide)) bRn rfl rfl fun v _=>bJr v) (by rw [show bRl (bGj wS [] (tV wL S4) wq2) (fun _=>true)=true by kernel_rfl])
theorem bVl:CT 67 [.agg (dD wS),elT (tN 3)] (.b true):=nG (bKg wS (tN 3) smW aNb (okN (by decide))) (by rw [show (kH wS && jH wS (tN 3))=true by kernel_rfl])
theorem bVk:CT 24 [elT wT1,elT wT1] (.b true):=nG (aZs wT1 wT1 bIa bIa) (by rw [show decide (wT1=wT1)=true from zt rfl])
theorem bVj:CT 48 [cC wS,avu wu] (.b true):=nG (aFu wS wu smW (bRm.mono (by omega)) nmu) (by rw [show oD wS wu=true by kernel_rfl])
theorem bVi:CT 48 [cC wS,avu wb] (.b true):=nG (aFu wS wb smW (bUy.mono (by omega)) nmb) (by rw [show oD wS wb=true by kernel_rfl])
theorem bVh:CT 20 [.agg (dD wS),elT wp2] (.b true):=nG (aAe wS wp2 smW aNb bRo) (by rw [show aBy wS wp2=true by kernel_rfl])
theorem bVg:CT 20 [.agg (dD wS),elT wq1] (.b true):=nG (aAe wS wq1 smW aNb bUz) (by rw [show aBy wS wq1=true by kernel_rfl])
theorem bVf:CT 20 [.agg (dD wS),elT wq2] (.b true):=nG (aAe wS wq2 smW aNb bRn) (by rw [show aBy wS wq2=true by kernel_rfl])
theorem aNv:aRv Tryz.prog G0 (bNy aYo):=bAt fun e he=>by
 simp only [aYo,dE,List.not_mem_nil,or_false] at he
 rcases he with rfl | rfl | rfl | rfl | rfl | rfl | rfl | rfl | rfl | rfl | rfl | rfl | rfl | rfl | rfl | rfl | rfl
 all_goals dsimp only
 all_goals first | exact km1 | exact km2 | exact km3 | exact km4 | exact km5 | exact km6 | exact km7 | exact km8 | exact km9 | exact bVm | exact bVl | exact bVk | exact bVj | exact bVi | exact bVh | exact bVg | exact bVf
def bOy:FuncId→How:=fun f=>if f=75 then ⟨true,true,fun i=>if i=10 then some ⟨none,[0],true,false,false,[],[41],0⟩ else none⟩
 else if f=31 then ⟨false,true,fun i=>if i=5 then some ⟨none,[3],false,false,false,[],[27],0⟩ else none⟩ else ⟨false,true,fun _=>none⟩
theorem aSw:[11,15,18,25,27,31,40,41,42,43,51,60,66,68,69,74,75,122,126,127,128,136,137,138,197,198,199,248].all (fun f=>bFv Tryz.prog (bOy f).rx (bOy f).th f)=true:=by kernel_rfl
theorem bJy:CT 11 [] (.b true):=bBd cU g0 aNv bOy (bIb aSw) 300 (by kernel_rfl)

theorem X5 {s:eD} {p t:LTerm} {u:LSub} (ot:OkT t) (hu:OkU 100000 u) (hnp:nodesT p≤100000):xN 1000000 (jB s p t u).1∧(jB s p t u).1.length≤1000:=by
 rw [jB]
 split
 · rename_i h
   split
   · exact ⟨fun u hu=>(by cases hu),bJ _⟩
   · have otn:OkN t:=⟨ot,tQ (by have:=h.2.1; rw [jH,aE] at this; exact this.1)⟩
     obtain ⟨h1,h2⟩:=qF (s:=s) (nodesT p) p t [u] false 100000 otn (fun x hx=>by rw [bV.1 hx]; exact hu) (by simp)
     exact ⟨h1.mono (by omega),h2⟩
 · exact ⟨fun u hu=>(by cases hu),bJ _⟩
structure bRd (s:eD) (u:LSub) (l:List LTerm):Prop where
 sm:Small s
 ul:u.length≤100
 un:∀ q ∈ u,nodesT q.2≤1500
 ln:nodesL l≤1500
theorem bEa {s:eD} {u:LSub} {l:List LTerm} (h:bIt s u l=true):bRd s u l:=by
 rw [bIt,bNi,aE,aE,aE,decide_eq_true_eq] at h
 obtain ⟨⟨h1,h2,h3⟩,h4⟩:=h
 exact ⟨aOu h1,h2,fun q hq=>aVj h3 (gK.2 ⟨q,hq,rfl⟩),Z7 h4⟩
theorem bOo {a b:LTerm} (ha:OkT a) (hb:OkT b):∀ t ∈ [a,b],OkT t:=okc ha (okc hb okn)
end Go.Proofs.YtdjcggcjlphdoaaGreatDoor
