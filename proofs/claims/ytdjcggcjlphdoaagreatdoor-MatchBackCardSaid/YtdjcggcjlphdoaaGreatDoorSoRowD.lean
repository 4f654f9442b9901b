/-
  MatchBack: for any signature, pattern, term and solution the law's function returns true and leaves its arguments as they were (the card of the first form, 'MatchBackCardSaid').
 Conditions: those of the given statement alone (the listed tables of the library hold what the program's text lays in them, as the card ties them).
-/
import Derived.Test.YtdjcggcjlphdoaaGreatDoorSoP15
import Derived.Test.YtdjcggcjlphdoaaGreatDoorVdP19
set_option maxRecDepth 100000
set_option linter.unusedSimpArgs false
set_option linter.unusedVariables false
set_option maxHeartbeats 4000000
namespace Go.Proofs.YtdjcggcjlphdoaaGreatDoor.matchBack
open Go Go.Vo Go.ChangeShapes Go.WideShapes Go.ChangeAt Go.RowKit
open Nat (reduceAdd reduceSub reduceMul reduceLeDiff reduceLT reduceEqDiff)
open Int (reduceNeg)
theorem contract(H:Type)(enc:TypeId×Value→H)(W:World)(sO:Nat)(args:Array Value)(ds gs:List (DataW H))(before:List MemPlace)
 (hval:∀(j:Nat) t v,Tryz.f6.params[j]? = some t→args[j]? = some v→Value.okWide Tryz.prog W .any sO t v)
 (hW:DataW.Whole enc Tryz.prog Tryz.f6.params.toList Rows.matchBackSpec.vars false W args.toList ds gs before)
 (hwt:(DataW.weightsEach Tryz.prog (Tryz.f6.params.toList++[]) (ds++gs)).all (·≤reachBytes)=true) (hL:laidMet Tryz.prog A5 W) :
 Calls Tryz.prog 6 args W fun e W'=>∃v,e=.returned v∧Rows.matchBackSpec.post enc Tryz.prog Tryz.f6 false true false false W args v W':=by
 have hW':=hW;obtain⟨p,q,hA0,hV,rfl,hfz,hnd⟩:=hW;have hA:DataW.TrodAll enc Tryz.prog W 0 (fun _=>true) true Tryz.f6.params.toList args.toList ds p:=hA0;rw[Tryz.params6]at hA hval hwt;obtain⟨rfl,rfl⟩:=trodVars_none hV;obtain⟨v0,vs0,d0,ds0,p0,q0,hargs,rfl,rfl,h0,r0⟩:=trodAll_cons hA;obtain⟨v1,vs1,d1,ds1,p1,q1,rfl,rfl,rfl,h1,r1⟩:=trodAll_cons r0;obtain⟨rfl,rfl,rfl⟩:=trodAll_nil r1;obtain rfl:args = #[v0,v1]:=by cases args;simp_all
 have hw0:∀n∈d0.weights Tryz.prog 26,n≤reachBytes:=fun n hn=>by
  have:=bF.1 hwt n (by simp[DataW.weightsEach,hn]);simpa using this
 have hw1:∀n∈d1.weights Tryz.prog 34,n≤reachBytes:=fun n hn=>by
  have:=bF.1 hwt n (by simp[DataW.weightsEach,hn]);simpa using this
 obtain⟨s0,hs0,hr0⟩:=bMo (hval 0 _ v0 rfl rfl) h0 hw0;obtain⟨s1,t1,u1,hs1,hr1⟩:=bAa (hval 1 _ v1 rfl rfl) h1 hw1;refine(aYk (bXz s0 s1 t1 u1 hs0 hs1.1 hs1.2.1 hs1.2.2.1 hs1.2.2.2.1 hs1.2.2.2.2) (cKu hL) rfl ?_).mono ?_
 ·intro j a v ha hv;match j with
  |0=>simp at ha hv;subst ha;subst hv;exact hr0
  |1=>simp at ha hv;subst ha;subst hv;exact hr1
  |j+2=>simp at ha
 ·rintro e W' ⟨rfl,hg⟩;exact⟨_,rfl,aUo bPc (aDp _ (by kernel_rfl)) (by kernel_rfl) Tryz.underlying4 rfl hW' rfl rfl rfl hg⟩
theorem witness_row(os:Os){H:Type}(enc:TypeId×Value→H) :
 (OpenSpec.ofChange Rows.matchBackSpec).preRow enc Tryz.prog Tryz.f6 Rows.matchBackRow.domain false Rows.matchBackRow.laid ((yW os).forCall (fun _ _=>0) ⟨#[],#[bUe,aGr],[]⟩).memory #[bUe,aGr]:=by
 have hw:(DataW.whole enc Tryz.prog ((yW os).forCall (fun _ _=>0) ⟨#[],#[bUe,aGr],[]⟩).memory Tryz.f6.params.toList Rows.matchBackSpec.vars false #[bUe,aGr].toList 8).map (fun x=>(x.1,x.2.1)) =
  some ([cJq,cAo],[]):=by kernel_rfl
 obtain⟨⟨x1,x2,x3⟩,hx,hx1⟩:=dG.1 hw;simp only[bH]at hx1;obtain⟨rfl,rfl⟩:=hx1;exact OpenSpec.preRow_of_cond 8 hx (by kernel_rfl) (fun k hk=>by cases hk) (by kernel_rfl) (bFb os _)
theorem lifted(os:Os)(started:os.Started)(H:Type)(enc:TypeId×Value→H)(F:Stop.Interp) :
 ReturnsInHanded {} Tryz.checked os 6 .any ((OpenSpec.ofChange Rows.matchBackSpec).preRow enc Tryz.prog Tryz.f6 Rows.matchBackRow.domain false Rows.matchBackRow.laid) (((OpenSpec.ofChange Rows.matchBackSpec).at F).post enc Tryz.prog Tryz.f6 false true false false):=by
 refine returnsInHanded_of_row (C:=Tryz.checked) (s:=OpenSpec.ofChange Rows.matchBackSpec) own started (by kernel_rfl) Tryz.func6
  (witness_row_atRef (enc:=enc) (C:=Tryz.checked) false (yW os) #[bUe,aGr] rfl (by kernel_rfl) (by kernel_rfl) (by kernel_rfl) (witness_row os enc)) ?_
 intro W sO args ds gs before hval hW _ _ hwt hL _ _;exact contract H enc W sO args ds gs before hval hW hwt hL
theorem k1:laidOutB Tryz.pinned.checked.prog=true:=by kernel_rfl
theorem k2:mapsRowed Tryz.pinned.checked.prog=true:=by kernel_rfl
theorem k3:(Rows.matchBackRow.inPlace == Tryz.pinned.checked.prog.inPlace 6)=true:=by kernel_rfl
theorem k4:(Rows.matchBackRow.unfollowed == Tryz.pinned.checked.prog.unfollowed 6)=true:=by kernel_rfl
theorem k5:(Rows.matchBackRow.recurses == Tryz.pinned.checked.prog.recurses 6)=true:=by kernel_rfl
theorem k6:(Rows.matchBackRow.named == Tryz.pinned.checked.prog.varsNamed 6)=true:=by kernel_rfl
theorem k7:(Rows.matchBackRow.plainKeys == Tryz.pinned.checked.prog.plainKeys)=true:=by kernel_rfl
theorem k8:Tryz.pinned.checked.prog.stopsHeard=true:=by kernel_rfl
theorem k9:Tryz.pinned.checked.prog.mayEnter=true:=by kernel_rfl
theorem k10:(Rows.matchBackRow.lifted == Tryz.pinned.checked.prog.liftsFinal)=true:=by kernel_rfl
theorem k11:(Tryz.pinned.checked.prog.make == some Rows.matchBackRow.make)=true:=by kernel_rfl
theorem closed:joinedFacts Tryz.pinned.checked.prog 6 Tryz.f6 (OpenSpec.ofChange Rows.matchBackSpec).bare Rows.matchBackRow=true:=by
 simp only[joinedFacts,k1,k2,k3,k4,k5,k6,k7,k8,k9,k10,k11];kernel_rfl
theorem said:Rows.MatchBackSaid:=
 OpenClaim.holds_of_cond 6 Tryz.f6 rfl rfl rfl rfl rfl rfl rfl ⟨rfl,rfl,rfl,rfl,rfl⟩ rfl rfl rfl rfl rfl (by kernel_rfl) Tryz.func6 closed
  (of_decide_eq_true (by kernel_rfl)) (by unfold Func.isWrapper;first|(rw[if_pos (by decide +kernel)];kernel_rfl)|(rw[if_neg (by decide +kernel)];exact⟨rfl,rfl⟩))
  (fun os started H enc _ F=>by rw[OpenClaim.pre_eq_preRow];exact lifted os started H enc F)
theorem plain(f:FuncId)(fn:Func)(hf:Tryz.pinned.checked.prog.funcNamed "voussoir/voussoirlaw04.MatchBack" = some f)(hfn:Tryz.pinned.checked.prog.funcs[f]? = some fn) :
 true=Tryz.pinned.checked.prog.looks []∧∀(j:Nat) t,fn.params[j]? = some t→Tryz.pinned.checked.prog.wantsStandIn t=false:=by
 obtain rfl:f=6:=fR ((show Tryz.prog.funcNamed "voussoir/voussoirlaw04.MatchBack" = some 6 by kernel_rfl).symm.trans hf) |>.symm;obtain rfl:fn=Tryz.f6:=(fR (Tryz.func6.symm.trans hfn)).symm;refine⟨by kernel_rfl,fun j t ht=>?_⟩;have h:=gX ht;rw[Tryz.params6]at h;have hw:([26,34]:List Nat).all (fun t => !Tryz.prog.wantsStandIn t)=true:=by kernel_rfl
 have h2:=bF.1 hw t (by simpa using h);exact(eF _).mp h2
theorem holds:Rows.MatchBackCardSaid:=
 Claim7.holds_tied_plain_at .later [] _ _ _ _ said (fun _ h=>by cases h) (by kernel_rfl) (fun _ h=>by cases h) matchBack_row_tie rfl ⟨rfl,rfl⟩ (by kernel_rfl) rfl plain (by kernel_rfl)
end Go.Proofs.YtdjcggcjlphdoaaGreatDoor.matchBack
