/-
  Functions of the chapter, as plain functions of what they are given; no condition.
-/
import Derived.Test.YtdjcggcjlphdoaaGreatDoorVeP13
import Derived.Test.YtdjcggcjlphdoaaGreatDoorVdP17
set_option maxRecDepth 100000
set_option linter.unusedSimpArgs false
set_option linter.unusedVariables false
set_option maxHeartbeats 4000000
namespace Go.Proofs.YtdjcggcjlphdoaaGreatDoor
open Go Go.Vo
open Nat (reduceAdd reduceSub reduceMul reduceLeDiff reduceLT reduceEqDiff)
open Int (reduceNeg)
structure cIh(O:List LTerm→List LTerm):Prop where
 srt:∀es L:List PE,L.Perm es→SrtE L→KysE L→O (fl es)=fl L
 perm:∀es:List PE,∃L:List PE,L.Perm es∧O (fl es)=fl L
theorem aIe(O:List LTerm→List LTerm)(u:LSub)(p:LTerm):F6 O u p=if p.kind=6 then(match mOf u p.text with|some y=>y|none=>p)else
 .mk p.kind p.n p.text p.sort (if p.kind=8 then O (putL O u p.kids++iU (putL O u p.rest))else putL O u p.kids++iU (putL O u p.rest)) (if(putL O u p.rest).any (fun r => !decide (r.kind=6))=true then []else p.rest):=by
 cases p;rw[F6];rfl
theorem aHc{s:dX}{O:List LTerm→List LTerm}{W:LSub}:∀{ps ts:List LTerm},(∀p∈ps,∀t,PT s t→MT s W p t→F6 O W p=t)→(∀t∈ts,PT s t)→ML s W ps ts→putL O W ps=ts
 | [],[],_,_,_=>by rw[putL]
 |p::ps,t::ts,hp,ht,h=>by
  rw[ML]at h;rw[putL,hp p cQ t (ht t cQ) h.1,aHc (fun q hq=>hp q (cJ _ hq)) (fun x hx=>ht x (cJ _ hx)) h.2]
 | [],_::_,_,_,h=>by rw[ML]at h;exact h.elim
 |_::_,[],_,_,h=>by rw[ML]at h;exact h.elim
theorem aAs{p:LTerm}(hr:¬p.rest=[])(h1:p.rest.length≤1):p.rest=[p.rest.getD 0 default]:=by
 cases h:p.rest with
 |nil=>exact absurd h hr
 |cons a l=>
  rw[h]at h1;have:l=[]:=List.eq_nil_of_length_eq_zero (by rw[aQ]at h1;omega);rw[this];rfl
theorem bLi{s:dX}{O:List LTerm→List LTerm}{W:LSub}(hO:cIh O):∀(p:LTerm),wfT nodeB p=true→wfT nwB p=true→∀t,PT s t→MT s W p t→F6 O W p=t:=
 fH (Q := fun p=>wfT nodeB p=true→wfT nwB p=true→∀t,PT s t→MT s W p t→F6 O W p=t) fun p hk _ hw hn t ht h=>by
  have hw':=gS.1 hw;have hn':=gS.1 hn;have IH:∀k∈p.kids,∀t,PT s t→MT s W k t→F6 O W k=t:=fun k hm=>hk k hm (hw'.2 k hm) (hn'.2 k hm);have zp:=aIq hw'.1;have ztt:=ht.zn;have hrn:=lR hw'.1;have h1:=kQ p hw'.1;rw[aIe];by_cases h6:p.kind=6
  ·rw[if_pos h6];rw[cBx h6,MB,if_neg (fun e=>by
    have:=hn'.1;rw[nwB,zt h6,zt e]at this;simp at this)]at h
   rw[h]
  rw[if_neg h6];have rest:∀(hr:¬p.rest=[]) (y:LTerm),MB s W (p.rest.getD 0 default) y→¬y.kind=6→iU (putL O W p.rest)=y.kids∧(if(putL O W p.rest).any (fun r => !decide (r.kind=6))=true then []else p.rest)=[]:=fun hr y hb hy=>by
   have hm:=vN hr;obtain⟨r1,r2,_⟩:=hrn _ hm;rw[MB,if_neg (yP r2)]at hb;have e:putL O W p.rest=[y]:=by
    rw[aAs hr h1,putL,putL,aIe,if_pos r1,hb]
   rw[e];simp[iU,hy]
  by_cases h5:p.kind=5
  ·rw[sP,if_pos h5]at h;have c1:=zp.c h5;have c2:=ztt.c h.1;rw[if_neg (by omega),c1.2.2,putL,iU,List.flatMap_nil,List.append_nil,aHc IH (fun x hx=>ht.kid hx) h.2.2];exact aPg (h5.trans h.1.symm) (c1.1.trans c2.1.symm) h.2.1.symm (c1.2.1.trans c2.2.1.symm) rfl (by rw[ht.rest];rfl)
  by_cases h7:p.kind=7
  ·rw[sP,if_neg h5,if_pos h7]at h;obtain⟨g1,g2,g3,g4⟩:=h;have e1:=zp.e (.inl h7);have e2:=ztt.e (.inl g1);have ek:=aHc IH (fun x hx=>ht.kid (dH hx)) g3;rw[if_neg (by omega),ek];by_cases hr:p.rest=[]
   ·rw[if_pos hr]at g4;rw[hr,putL,iU,List.flatMap_nil,List.append_nil,← g4,gD];exact aPg (h7.trans g1.symm) (e1.1.trans e2.1.symm) (e1.2.1.trans e2.2.1.symm) (e1.2.2.trans e2.2.2.symm) rfl (by rw[ht.rest];rfl)
   ·rw[if_neg hr]at g4;obtain⟨q1,q2⟩:=rest hr _ g4 (by simp[LTerm.kind]);rw[q1,q2];exact aPg (h7.trans g1.symm) (e1.1.trans e2.1.symm) (e1.2.1.trans e2.2.1.symm) (e1.2.2.trans e2.2.2.symm) (cI _ _) ht.rest.symm
  by_cases h8:p.kind=8
  ·rw[sP,if_neg h5,if_neg h7,if_pos h8]at h;obtain⟨g1,L,es,left,g2,g3,g4,g5,g6⟩:=h;obtain⟨L',k1,k2,k3⟩:=ht.map g1;obtain rfl:L=L':=aMx (g2.symm.trans k1);have e1:=zp.e (.inr h8);have e2:=ztt.e (.inr g1);have me:∀x∈fl es,PT s x:=fun x hx=>by
    obtain⟨e,he,hx⟩:=aMz.1 hx;have:=qH g2 (g3.mem_iff.2 (dK _ he));rcases hx with rfl|rfl
    ·exact ht.kid this.1
    ·exact ht.kid this.2
   rw[if_pos h8,aHc IH me g5];by_cases hr:p.rest=[]
   ·rw[if_pos hr]at g6;subst g6;rw[List.append_nil]at g3;rw[hr,putL,iU,List.flatMap_nil,List.append_nil,hO.srt es L g3 k2 k3];exact aPg (h8.trans g1.symm) (e1.1.trans e2.1.symm) (e1.2.1.trans e2.2.1.symm) (e1.2.2.trans e2.2.2.symm) g2.symm (by rw[ht.rest];rfl)
   ·rw[if_neg hr]at g6;obtain⟨q1,q2⟩:=rest hr _ g6 (by simp[LTerm.kind]);rw[q1,q2];show LTerm.mk p.kind p.n p.text p.sort (O (fl es++fl left)) []=t;rw[← aXk,hO.srt _ L g3 k2 k3];exact aPg (h8.trans g1.symm) (e1.1.trans e2.1.symm) (e1.2.1.trans e2.2.1.symm) (e1.2.2.trans e2.2.2.symm) g2.symm ht.rest.symm
  rw[sP,if_neg h5,if_neg h7,if_neg h8,if_neg h6]at h;subst h;have hpk:=aJa hw'.1 h5 h7 h8;rw[if_neg h8,hpk,ht.rest,putL,iU,List.flatMap_nil,List.append_nil];exact aPg rfl rfl rfl rfl hpk.symm (by rw[ht.rest];rfl)
end Go.Proofs.YtdjcggcjlphdoaaGreatDoor
