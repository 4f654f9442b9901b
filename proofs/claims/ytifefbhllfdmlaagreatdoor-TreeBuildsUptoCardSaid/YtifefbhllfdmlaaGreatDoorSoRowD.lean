/-
  TreeBuilds: for any signature, patterns and terms whose bulk together is at most 1048576 the law's function returns true and leaves its arguments as they were (the card of the second form, 'TreeBuildsUptoCardSaid').
 Conditions: those of the given statement alone (the listed tables of the library hold what the program's text lays in them, as the card ties them).
-/
import Derived.Test.YtifefbhllfdmlaaGreatDoorSoP85
import Derived.Test.YtifefbhllfdmlaaGreatDoorVbP85
set_option maxRecDepth 100000
set_option linter.unusedSimpArgs false
set_option linter.unusedVariables false
set_option maxHeartbeats 4000000
namespace Go.Proofs.YtifefbhllfdmlaaGreatDoor.treeBuilds
open Go Go.Vo Go.ChangeShapes Go.WideShapes Go.ChangeAt Go.RowKit
open Nat (reduceAdd reduceSub reduceMul reduceLeDiff reduceLT reduceEqDiff)
open Int (reduceNeg)

theorem aJh {H:Type}:∀ (l:List (DataW H)),l.length≤Rows.uptoBulkAll l
 | []=>aG _
 | d :: r=>by
   have h:=aJh r
   have h1:1≤Rows.uptoBulk d:=by
     cases d with
     | lit x=>cases x <;> simp [Rows.uptoBulk]
     | _=>simp [Rows.uptoBulk]
   rw [Rows.uptoBulkAll,aI]; omega
theorem bLq {X:Ctx} {w:World} {h:List AObj} {l:List AV} {n:Nat} {v:Value} (r:RV X w h (.sl l n) v):∃ a cap,v=.slice a n cap:=by
 cases r <;> first | exact ⟨_,_,rfl⟩ | simp_all [AV.refs]
theorem M0 {H:Type} {enc:TypeId × Value→H} {W:World} {tG:Nat} {v:Value} {d:DataW H} {p:List MemPlace} (hv:Value.okWide Tryz.prog W .any tG 28 v) (hT:DataW.Trod enc Tryz.prog W 0 (fun _=>true) true 28 v d p) (hw:∀ n ∈ d.weights Tryz.prog 28,n≤reachBytes) :
   ∃ l:List LTerm,(l.length≤Rows.uptoBulk d∧∀ t ∈ l,OkT t)∧RV (.none fun b=>b < W.heap.size) W [] (avt l) v:=by
 obtain ⟨l,q,r⟩:=aKo hv hT hw
 refine ⟨l,⟨?_,q.2⟩,r⟩
 have hone:=aAv Tryz.underlying28 hv
 obtain ⟨a,cap,rfl⟩:=bLq r
 obtain ⟨fuel,hx⟩:=hT
 rw [hone] at hx
 rcases DataW.trod_slice Tryz.underlying28 hx with ⟨h1,h2⟩ | ⟨a',len,cap',elems,rest,n,_,h1,h2,_,_,_,hel,_⟩
 · simp only [gM,mV,and_true] at h1
   omega
 · simp only [gM,mV,and_true] at h1
   simp only [aP] at h2
   have:=aJh (elems.map (·.1))
   rw [eH] at this
   rw [h2.1,Rows.uptoBulk]
   omega
theorem contract (H:Type) (enc:TypeId × Value→H) (W:World) (tG:Nat) (args:Array Value) (ds gs:List (DataW H)) (before:List MemPlace)
   (hval:∀ (j:Nat) t v,Tryz.f6.params[j]? = some t→args[j]? = some v→Value.okWide Tryz.prog W .any tG t v)
   (hW:DataW.Whole enc Tryz.prog Tryz.f6.params.toList Rows.treeBuildsSpec.vars false W args.toList ds gs before)
   (hwt:(DataW.weightsEach Tryz.prog (Tryz.f6.params.toList++[]) (ds++gs)).all (·≤reachBytes)=true) (hL:laidMet Tryz.prog xF W) (hc:∀ k,(Rows.OpenSpec.upto Rows.treeBuildsSpec).cond=some k→k H (ds++gs)=true) :
   Calls Tryz.prog 6 args W fun e W'=>∃ v,e=.returned v∧Rows.treeBuildsSpec.post enc Tryz.prog Tryz.f6 false true false false W args v W':=by
 have hW':=hW
 obtain ⟨p,q,hA0,hV,rfl,hfz,hnd⟩:=hW
 have hA:DataW.TrodAll enc Tryz.prog W 0 (fun _=>true) true Tryz.f6.params.toList args.toList ds p:=hA0
 rw [Tryz.params6] at hA hval hwt
 obtain ⟨rfl,rfl⟩:=trodVars_none hV
 obtain ⟨v0,vs0,d0,ds0,p0,q0,hargs,rfl,rfl,h0,r0⟩:=trodAll_cons hA
 obtain ⟨v1,vs1,d1,ds1,p1,q1,rfl,rfl,rfl,h1,r1⟩:=trodAll_cons r0
 obtain ⟨v2,vs2,d2,ds2,p2,q2,rfl,rfl,rfl,h2,r2⟩:=trodAll_cons r1
 obtain ⟨rfl,rfl,rfl⟩:=trodAll_nil r2
 obtain rfl:args = #[v0,v1,v2]:=by cases args; simp_all
 have hw0:∀ n ∈ d0.weights Tryz.prog 26,n≤reachBytes:=fun n hn=>by
   have:=aN.1 hwt n (by simp [DataW.weightsEach,hn])
   simpa using this
 have hw1:∀ n ∈ d1.weights Tryz.prog 28,n≤reachBytes:=fun n hn=>by
   have:=aN.1 hwt n (by simp [DataW.weightsEach,hn])
   simpa using this
 have hw2:∀ n ∈ d2.weights Tryz.prog 28,n≤reachBytes:=fun n hn=>by
   have:=aN.1 hwt n (by simp [DataW.weightsEach,hn])
   simpa using this
 obtain ⟨s0,hs0,hr0⟩:=bFo (hval 0 _ v0 rfl rfl) h0 hw0
 obtain ⟨s1,hs1,hr1⟩:=M0 (hval 1 _ v1 rfl rfl) h1 hw1
 obtain ⟨s2,hs2,hr2⟩:=M0 (hval 2 _ v2 rfl rfl) h2 hw2
 have hb:=hc _ rfl
 simp only [Rows.uptoSmall,decide_eq_true_eq,bR,cH,Rows.uptoBulkAll] at hb
 refine (aSp (bPn s0 s1 s2 hs0 (by have:=hs1.1; omega) hs1.2 (by have:=hs2.1; omega) hs2.2) (cBj hL) rfl ?_).mono ?_
 · intro j a v ha hv
   match j with
   | 0=>simp at ha hv; subst ha; subst hv; exact hr0
   | 1=>simp at ha hv; subst ha; subst hv; exact hr1
   | 2=>simp at ha hv; subst ha; subst hv; exact hr2
   | j+3=>simp at ha
 · rintro e W' ⟨rfl,hg⟩
   exact ⟨_,rfl,aPo bHp (aAd _ (by kernel_rfl)) (by kernel_rfl) Tryz.underlying4 rfl hW' rfl rfl rfl hg⟩
theorem witness_row (os:Os) {H:Type} (enc:TypeId × Value→H) :
   (Rows.OpenSpec.upto Rows.treeBuildsSpec).preRow enc Tryz.prog Tryz.f6 Rows.treeBuildsUptoRow.domain false Rows.treeBuildsUptoRow.laid ((vY os).forCall (fun _ _=>0) ⟨#[],#[bLn,tN,tN],[]⟩).memory #[bLn,tN,tN]:=by
 have hw:(DataW.whole enc Tryz.prog ((vY os).forCall (fun _ _=>0) ⟨#[],#[bLn,tN,tN],[]⟩).memory Tryz.f6.params.toList Rows.treeBuildsSpec.vars false #[bLn,tN,tN].toList 8).map (fun x=>(x.1,x.2.1)) =
     some ([cAc,bCa,bCa],[]):=by kernel_rfl
 obtain ⟨⟨x1,x2,x3⟩,hx,hx1⟩:=bI.1 hw
 simp only [aP] at hx1
 obtain ⟨rfl,rfl⟩:=hx1
 exact OpenSpec.preRow_of_cond 8 hx (by kernel_rfl) (fun k hk=>by cases hk; kernel_rfl) (by kernel_rfl) (aYd os _)
theorem lifted (os:Os) (started:os.Started) (H:Type) (enc:TypeId × Value→H) (F:Stop.Interp) :
   ReturnsInHanded {} Tryz.checked os 6 .any ((Rows.OpenSpec.upto Rows.treeBuildsSpec).preRow enc Tryz.prog Tryz.f6 Rows.treeBuildsUptoRow.domain false Rows.treeBuildsUptoRow.laid) (((Rows.OpenSpec.upto Rows.treeBuildsSpec).at F).post enc Tryz.prog Tryz.f6 false true false false):=by
 refine returnsInHanded_of_row (C:=Tryz.checked) (s:=Rows.OpenSpec.upto Rows.treeBuildsSpec) own started (by kernel_rfl) Tryz.func6
   (witness_row_atRef (enc:=enc) (C:=Tryz.checked) false (vY os) #[bLn,tN,tN] rfl (by kernel_rfl) (by kernel_rfl) (by kernel_rfl) (witness_row os enc)) ?_
 intro W tG args ds gs before hval hW _ hc hwt hL _ _
 exact contract H enc W tG args ds gs before hval hW hwt hL hc
theorem k1:laidOutB Tryz.pinned.checked.prog=true:=by kernel_rfl
theorem k2:mapsRowed Tryz.pinned.checked.prog=true:=by kernel_rfl
theorem k3:(Rows.treeBuildsUptoRow.inPlace == Tryz.pinned.checked.prog.inPlace 6)=true:=by kernel_rfl
theorem k4:(Rows.treeBuildsUptoRow.unfollowed == Tryz.pinned.checked.prog.unfollowed 6)=true:=by kernel_rfl
theorem k5:(Rows.treeBuildsUptoRow.recurses == Tryz.pinned.checked.prog.recurses 6)=true:=by kernel_rfl
theorem k6:(Rows.treeBuildsUptoRow.named == Tryz.pinned.checked.prog.varsNamed 6)=true:=by kernel_rfl
theorem k7:(Rows.treeBuildsUptoRow.plainKeys == Tryz.pinned.checked.prog.plainKeys)=true:=by kernel_rfl
theorem k8:Tryz.pinned.checked.prog.stopsHeard=true:=by kernel_rfl
theorem k9:Tryz.pinned.checked.prog.mayEnter=true:=by kernel_rfl
theorem k10:(Rows.treeBuildsUptoRow.lifted == Tryz.pinned.checked.prog.liftsFinal)=true:=by kernel_rfl
theorem k11:(Tryz.pinned.checked.prog.make == some Rows.treeBuildsUptoRow.make)=true:=by kernel_rfl
theorem closed:joinedFacts Tryz.pinned.checked.prog 6 Tryz.f6 (Rows.OpenSpec.upto Rows.treeBuildsSpec).bare Rows.treeBuildsUptoRow=true:=by
 simp only [joinedFacts,k1,k2,k3,k4,k5,k6,k7,k8,k9,k10,k11]
 kernel_rfl
theorem said:Rows.TreeBuildsUptoSaid:=
 OpenClaim.holds_of_cond 6 Tryz.f6 rfl rfl rfl rfl rfl rfl rfl ⟨rfl,rfl,rfl,rfl,rfl⟩ rfl rfl rfl rfl rfl (by kernel_rfl) Tryz.func6 closed
   (of_decide_eq_true (by kernel_rfl)) (by unfold Func.isWrapper; first | (rw [if_pos (by decide +kernel)]; kernel_rfl) | (rw [if_neg (by decide +kernel)]; exact ⟨rfl,rfl⟩))
   (fun os started H enc _ F=>by rw [OpenClaim.pre_eq_preRow]; exact lifted os started H enc F)
theorem plain (f:FuncId) (fn:Func) (hf:Tryz.pinned.checked.prog.funcNamed "voussoir/voussoirlaw16.TreeBuilds" = some f) (hfn:Tryz.pinned.checked.prog.funcs[f]? = some fn) :
   false=Tryz.pinned.checked.prog.looks []∧∀ (j:Nat) t,fn.params[j]? = some t→Tryz.pinned.checked.prog.wantsStandIn t=false:=by
 obtain rfl:f=6:=gB ((show Tryz.prog.funcNamed "voussoir/voussoirlaw16.TreeBuilds" = some 6 by kernel_rfl).symm.trans hf) |>.symm
 obtain rfl:fn=Tryz.f6:=(gB (Tryz.func6.symm.trans hfn)).symm
 refine ⟨by kernel_rfl,fun j t ht=>?_⟩
 have h:=Array.mem_of_getElem? ht
 rw [Tryz.params6] at h
 have hw:([26,28,28]:List Nat).all (fun t => !Tryz.prog.wantsStandIn t)=true:=by kernel_rfl
 have h2:=aN.1 hw t (by simpa using h)
 exact (bV _).mp h2
theorem holds:Rows.TreeBuildsUptoCardSaid:=
 Claim7.holds_tied_plain_at .later [] _ _ _ _ said (fun _ h=>by cases h) (by kernel_rfl) (fun _ h=>by cases h) treeBuildsUpto_row_tie rfl ⟨rfl,rfl⟩ (by kernel_rfl) rfl plain (by kernel_rfl)
end Go.Proofs.YtifefbhllfdmlaaGreatDoor.treeBuilds
