/-
  MatchCovered: for any signature, two patterns and a term the law's function returns true and leaves its arguments as they were (the card of the first form, 'MatchCoveredCardSaid').
 Conditions: those of the given statement alone (the listed tables of the library hold what the program's text lays in them, as the card ties them).
-/
import Derived.Test.YtdjcggcjlphdoaaGreatDoorTeP75
import Derived.Test.YtdjcggcjlphdoaaGreatDoorVeP74
set_option maxRecDepth 100000
set_option linter.unusedSimpArgs false
set_option linter.unusedVariables false
set_option maxHeartbeats 4000000
namespace Go.Proofs.YtdjcggcjlphdoaaGreatDoor.matchCovered
open Go Go.Vo Go.ChangeShapes Go.WideShapes Go.ChangeAt Go.RowKit
open Nat (reduceAdd reduceSub reduceMul reduceLeDiff reduceLT reduceEqDiff)
open Int (reduceNeg)
theorem contract(H:Type)(enc:TypeId×Value→H)(W:World)(C4:Nat)(args:Array Value)(ds gs:List (DataW H))(before:List MemPlace)
 (hval:∀(j:Nat) t v,Tryz.f9.params[j]? = some t→args[j]? = some v→Value.okWide Tryz.prog W .any C4 t v)
 (hW:DataW.Whole enc Tryz.prog Tryz.f9.params.toList Rows.matchCoveredSpec.vars false W args.toList ds gs before)
 (hwt:(DataW.weightsEach Tryz.prog (Tryz.f9.params.toList++[]) (ds++gs)).all (·≤reachBytes)=true) (hL:laidMet Tryz.prog yQ W) :
 Calls Tryz.prog 9 args W fun e W'=>∃v,e=.returned v∧Rows.matchCoveredSpec.post enc Tryz.prog Tryz.f9 false true false false W args v W':=by
 have hW':=hW;obtain⟨p,q,hA0,hV,rfl,hfz,hnd⟩:=hW;have hA:DataW.TrodAll enc Tryz.prog W 0 (fun _=>true) true Tryz.f9.params.toList args.toList ds p:=hA0;rw[Tryz.params9]at hA hval hwt;obtain⟨rfl,rfl⟩:=trodVars_none hV;obtain⟨v0,vs0,d0,ds0,p0,q0,hargs,rfl,rfl,h0,r0⟩:=trodAll_cons hA;obtain⟨v1,vs1,d1,ds1,p1,q1,rfl,rfl,rfl,h1,r1⟩:=trodAll_cons r0;obtain⟨v2,vs2,d2,ds2,p2,q2,rfl,rfl,rfl,h2,r2⟩:=trodAll_cons r1;obtain⟨rfl,rfl,rfl⟩:=trodAll_nil r2;obtain rfl:args = #[v0,v1,v2]:=by cases args;simp_all
 have hw0:∀n∈d0.weights Tryz.prog 26,n≤reachBytes:=fun n hn=>by
  have:=bC.1 hwt n (by simp[DataW.weightsEach,hn]);simpa using this
 have hw1:∀n∈d1.weights Tryz.prog 67,n≤reachBytes:=fun n hn=>by
  have:=bC.1 hwt n (by simp[DataW.weightsEach,hn]);simpa using this
 have hw2:∀n∈d2.weights Tryz.prog 30,n≤reachBytes:=fun n hn=>by
  have:=bC.1 hwt n (by simp[DataW.weightsEach,hn]);simpa using this
 obtain⟨s0,hs0,hr0⟩:=bJr (hval 0 _ v0 rfl rfl) h0 hw0;obtain⟨s1,t1,hs1,hr1⟩:=aMy (hval 1 _ v1 rfl rfl) h1 hw1;obtain⟨s2,hs2,hr2⟩:=aZj (hval 2 _ v2 rfl rfl) h2 hw2;refine(aVw (bTv s0 s1 t1 s2 hs0 hs1.1 hs1.2 hs2) (cGe hL) rfl ?_).mono ?_
 ·intro j a v ha hv;match j with
  |0=>simp at ha hv;subst ha;subst hv;exact hr0
  |1=>simp at ha hv;subst ha;subst hv;exact hr1
  |2=>simp at ha hv;subst ha;subst hv;exact hr2
  |j+3=>simp at ha
 ·rintro e W' ⟨rfl,hg⟩;exact⟨_,rfl,aSa bLw (aCo _ (by kernel_rfl)) (by kernel_rfl) Tryz.underlying4 rfl hW' rfl rfl rfl hg⟩
theorem witness_row(os:Os){H:Type}(enc:TypeId×Value→H) :
 (OpenSpec.ofChange Rows.matchCoveredSpec).preRow enc Tryz.prog Tryz.f9 Rows.matchCoveredRow.domain false Rows.matchCoveredRow.laid ((xP os).forCall (fun _ _=>0) ⟨#[],#[bQr,G7,aQi],[]⟩).memory #[bQr,G7,aQi]:=by
 have hw:(DataW.whole enc Tryz.prog ((xP os).forCall (fun _ _=>0) ⟨#[],#[bQr,G7,aQi],[]⟩).memory Tryz.f9.params.toList Rows.matchCoveredSpec.vars false #[bQr,G7,aQi].toList 8).map (fun x=>(x.1,x.2.1)) =
  some ([cEz,bJd,bJe],[]):=by kernel_rfl
 obtain⟨⟨x1,x2,x3⟩,hx,hx1⟩:=dH.1 hw;simp only[bL]at hx1;obtain⟨rfl,rfl⟩:=hx1;exact OpenSpec.preRow_of_cond 8 hx (by kernel_rfl) (fun k hk=>by cases hk) (by kernel_rfl) (bCc os _)
theorem lifted(os:Os)(started:os.Started)(H:Type)(enc:TypeId×Value→H)(F:Stop.Interp) :
 ReturnsInHanded {} Tryz.checked os 9 .any ((OpenSpec.ofChange Rows.matchCoveredSpec).preRow enc Tryz.prog Tryz.f9 Rows.matchCoveredRow.domain false Rows.matchCoveredRow.laid) (((OpenSpec.ofChange Rows.matchCoveredSpec).at F).post enc Tryz.prog Tryz.f9 false true false false):=by
 refine returnsInHanded_of_row (C:=Tryz.checked) (s:=OpenSpec.ofChange Rows.matchCoveredSpec) own started (by kernel_rfl) Tryz.func9
  (witness_row_atRef (enc:=enc) (C:=Tryz.checked) false (xP os) #[bQr,G7,aQi] rfl (by kernel_rfl) (by kernel_rfl) (by kernel_rfl) (witness_row os enc)) ?_
 intro W C4 args ds gs before hval hW _ _ hwt hL _ _;exact contract H enc W C4 args ds gs before hval hW hwt hL
theorem k1:laidOutB Tryz.pinned.checked.prog=true:=by kernel_rfl
theorem k2:mapsRowed Tryz.pinned.checked.prog=true:=by kernel_rfl
theorem k3:(Rows.matchCoveredRow.inPlace == Tryz.pinned.checked.prog.inPlace 9)=true:=by kernel_rfl
theorem k4:(Rows.matchCoveredRow.unfollowed == Tryz.pinned.checked.prog.unfollowed 9)=true:=by kernel_rfl
theorem k5:(Rows.matchCoveredRow.recurses == Tryz.pinned.checked.prog.recurses 9)=true:=by kernel_rfl
theorem k6:(Rows.matchCoveredRow.named == Tryz.pinned.checked.prog.varsNamed 9)=true:=by kernel_rfl
theorem k7:(Rows.matchCoveredRow.plainKeys == Tryz.pinned.checked.prog.plainKeys)=true:=by kernel_rfl
theorem k8:Tryz.pinned.checked.prog.stopsHeard=true:=by kernel_rfl
theorem k9:Tryz.pinned.checked.prog.mayEnter=true:=by kernel_rfl
theorem k10:(Rows.matchCoveredRow.lifted == Tryz.pinned.checked.prog.liftsFinal)=true:=by kernel_rfl
theorem k11:(Tryz.pinned.checked.prog.make == some Rows.matchCoveredRow.make)=true:=by kernel_rfl
theorem closed:joinedFacts Tryz.pinned.checked.prog 9 Tryz.f9 (OpenSpec.ofChange Rows.matchCoveredSpec).bare Rows.matchCoveredRow=true:=by
 simp only[joinedFacts,k1,k2,k3,k4,k5,k6,k7,k8,k9,k10,k11];kernel_rfl
theorem said:Rows.MatchCoveredSaid:=
 OpenClaim.holds_of_cond 9 Tryz.f9 rfl rfl rfl rfl rfl rfl rfl ⟨rfl,rfl,rfl,rfl,rfl⟩ rfl rfl rfl rfl rfl (by kernel_rfl) Tryz.func9 closed
  (of_decide_eq_true (by kernel_rfl)) (by unfold Func.isWrapper;first|(rw[if_pos (by decide +kernel)];kernel_rfl)|(rw[if_neg (by decide +kernel)];exact⟨rfl,rfl⟩))
  (fun os started H enc _ F=>by rw[OpenClaim.pre_eq_preRow];exact lifted os started H enc F)
theorem plain(f:FuncId)(fn:Func)(hf:Tryz.pinned.checked.prog.funcNamed "voussoir/voussoirlaw04.MatchCovered" = some f)(hfn:Tryz.pinned.checked.prog.funcs[f]? = some fn) :
 true=Tryz.pinned.checked.prog.looks []∧∀(j:Nat) t,fn.params[j]? = some t→Tryz.pinned.checked.prog.wantsStandIn t=false:=by
 obtain rfl:f=9:=fJ ((show Tryz.prog.funcNamed "voussoir/voussoirlaw04.MatchCovered" = some 9 by kernel_rfl).symm.trans hf) |>.symm;obtain rfl:fn=Tryz.f9:=(fJ (Tryz.func9.symm.trans hfn)).symm;refine⟨by kernel_rfl,fun j t ht=>?_⟩;have h:=jK ht;rw[Tryz.params9]at h;have hw:([26,67,30]:List Nat).all (fun t => !Tryz.prog.wantsStandIn t)=true:=by kernel_rfl
 have h2:=bC.1 hw t (by simpa using h);exact(eG _).mp h2
theorem holds:Rows.MatchCoveredCardSaid:=
 Claim7.holds_tied_plain_at .later [] _ _ _ _ said (fun _ h=>by cases h) (by kernel_rfl) (fun _ h=>by cases h) matchCovered_row_tie rfl ⟨rfl,rfl⟩ (by kernel_rfl) rfl plain (by kernel_rfl)
end Go.Proofs.YtdjcggcjlphdoaaGreatDoor.matchCovered
