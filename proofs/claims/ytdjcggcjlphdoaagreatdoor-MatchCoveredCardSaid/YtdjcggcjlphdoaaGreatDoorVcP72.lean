/-
  Functions of the chapter, as plain functions of what they are given; no condition.
-/
import Derived.Test.YtdjcggcjlphdoaaGreatDoorVcP71
import Derived.Test.YtdjcggcjlphdoaaGreatDoorTeP72
set_option maxRecDepth 100000
set_option linter.unusedSimpArgs false
set_option linter.unusedVariables false
set_option maxHeartbeats 4000000
namespace Go.Proofs.YtdjcggcjlphdoaaGreatDoor
open Go Go.Vo
open Nat (reduceAdd reduceSub reduceMul reduceLeDiff reduceLT reduceEqDiff)
open Int (reduceNeg)
section
variable {A:LTerm→LTerm→List LSub→Bool→MR} {s:dK} {key value:LTerm}
end
def Q0(key:LTerm)(u:LSub):Option LTerm:=if key.kind=6 then mOf u key.text else some key
theorem aNc{s:dK}{key:LTerm}{w:mS}{k:Nat}(h:Q0 key w.u=none):lE s key w k=mM s key (w.left.getD (2*k) default) w.u:=by
 rw[lE,show(if key.kind=6 then mOf w.u key.text else some key)=none from h]
theorem aNb{s:dK}{key a:LTerm}{w:mS}{k:Nat}(h:Q0 key w.u=some a):lE s key w k=if a=w.left.getD (2*k) default then [w.u]else []:=by
 rw[lE,show(if key.kind=6 then mOf w.u key.text else some key)=some a from h]
theorem bPt{P:Program}{G:Md}{c:AV}{a b:kQ}{R:List AV→List AObj→Prop}{Q:Exit→List AV→List AObj→Prop}{env:List AV}{h:List AObj}(ps:List bEz)(hp:List AObj)
 (first:Q6 P G c a b (yP (fun e' h'=>h'=hp∧iS ps env e') Q) env h) (rest:∀j:Nat→AV,R (xJ j 0 ps env) hp):Q6 P G c a b (yP R Q) env h:=by
 have mono:∀x e h',yP (fun e' h'=>h'=hp∧iS ps env e') Q x e h'→yP R Q x e h':=fun x e h' k=>by
  cases x;case normal=>
   obtain⟨rfl,hf⟩:=k;have he:xJ (fun n=>e.getD n .u) 0 ps env=e:=aTm _ env e 0 _ (fun m v hv=>by simp[List.getD,hv]) hf;have r:=rest (fun n=>e.getD n .u);rw[he]at r;exact r
  all_goals exact k
 unfold Q6 sA at *
 cases c<;>first|exact⟨fun e=>mW mono (first.1 e),fun e=>mW mono (first.2 e)⟩|exact first
theorem fI{α:Type}{l:List α}{k:Nat}{d:α}(h:k<l.length):l.take (k+1)=l.take k++[l.getD k d]:=by
 rw[List.take_add_one,bO h,cW,bO h];rfl
theorem bBt{s:dK}{p:LTerm}{w:mS}:(B7 s p w).length≤1:=by
 rw[B7];split
 ·exact F2
 ·split<;>simp
abbrev PE:=LTerm×LTerm
def fl(es:List PE):List LTerm:=es.flatMap fun e=>[e.1,e.2]
theorem lL{e:PE}{es:List PE}:fl (e::es)=e.1::e.2::fl es:=rfl
theorem bGq:fl []=[]:=rfl
theorem bGr{a b:List PE}:fl (a++b)=fl a++fl b:=List.flatMap_append
theorem nF{es:List PE}:(fl es).length=2*es.length:=by
 induction es with
 |nil=>rfl
 |cons e es ih=>rw[lL,bF,bF,ih,bF];omega
theorem xY{es:List PE}:∀{i:Nat},i<es.length→(fl es).getD (2*i) default=(es.getD i default).1:=by
 induction es with
 |nil=>intro i h;cases h
 |cons e es ih=>
  intro i h;cases i with
  |zero=>rfl
  |succ i=>rw[lL,show 2*(i+1)=2*i+1+1 by omega,dF,dF,ih (by simpa using h),dF]
theorem aEd{es:List PE}:∀{i:Nat},i<es.length→(fl es).getD (2*i+1) default=(es.getD i default).2:=by
 induction es with
 |nil=>intro i h;cases h
 |cons e es ih=>
  intro i h;cases i with
  |zero=>rfl
  |succ i=>rw[lL,show 2*(i+1)+1=(2*i+1)+1+1 by omega,dF,dF,ih (by simpa using h),dF]
theorem bMm:∀{l:List LTerm},l.length % 2=0→∃es,l=fl es
 | [],_=>⟨[],rfl⟩
 | [a],h=>by simp at h
 |a::b::l,h=>by
  obtain⟨es,rfl⟩:=bMm (l:=l) (by simp only[bF]at h;omega);exact⟨(a,b)::es,rfl⟩
theorem L7{es:List PE}{x:LTerm}:x∈fl es↔∃e∈es,x=e.1∨x=e.2:=by
 simp[fl]
def aPp(es:List PE):Prop:=∀i j,i<j→j<es.length→oL (es.getD i default).1 (es.getD j default).1<0
def bPn(es:List PE):Prop:=∀i,i<es.length→isKey (es.getD i default).1=true
theorem bJm{es:List PE}(h:∀i,i+1<es.length→oL (es.getD i default).1 (es.getD (i+1) default).1<0):aPp es:=by
 intro i j hij;induction j with
 |zero=>omega
 |succ j ih=>
  intro hj;rcases Q9.1 hij with h1|h1
  ·exact aSu (ih h1 (by omega)) (h j hj)
  ·subst h1;exact h i hj
theorem aKq{t:LTerm}{es:List PE}(hm:t.kids=fl es):K9 oL t=true↔aPp es∧bPn es:=by
 have hl:t.kids.length=2*es.length:=by rw[hm,nF]
 rw[K9,mY,show(t.kids.length+1) / 2=es.length by omega];constructor
 ·intro h;have kk1:bPn es:=fun i hi=>by
   have:=h i hi;rw[zD,aD,hm,xY hi]at this;exact this.1
  refine⟨bJm fun i hi=>?_,kk1⟩;have:=h (i+1) hi;rw[zD,aD,cB,decide_eq_true_eq,decide_eq_true_eq,hm,xY hi,show 2*(i+1)-2=2*i by omega,xY (by omega)]at this;rcases this.2 with h0|h0
  ·omega
  ·exact h0
 ·rintro⟨h1,h2⟩ i hi;rw[zD,aD,cB,decide_eq_true_eq,decide_eq_true_eq,hm,xY hi];refine⟨h2 i hi,?_⟩;by_cases h0:i=0
  ·exact .inl h0
  ·right;rw[show 2*i-2=2*(i-1) by omega,xY (by omega)];exact h1 (i-1) i (by omega) hi
def bXz:List LTerm→List PE
 |a::b::l=>(a,b)::bXz l
 |_=>[]
theorem aGc:∀{es:List PE},bXz (fl es)=es
 | []=>rfl
 |e::es=>by rw[lL,bXz,aGc]
theorem aCe{es:List PE}:aPp es↔es.Pairwise (fun a b=>oL a.1 b.1<0):=by
 rw[eS];constructor
 ·intro h i j hi hj hij;have:=h i j hij hj;simpa[List.getD,hi,hj]using this
 ·intro h i j hij hj;have hi:i<es.length:=by omega
  have:=h i j hi hj hij;simpa[List.getD,hi,hj]using this
theorem aUc{es:List PE}:bPn es↔∀e∈es,isKey e.1=true:=by
 constructor
 ·intro h e he;obtain⟨i,hi,rfl⟩:=dJ.1 he;have:=h i hi;simpa[List.getD,hi]using this
 ·intro h i hi;exact h _ (cS hi)
theorem bKs{s:dK}{t:LTerm}(h:plainP s t=true):∀k∈t.kids,plainP s k=true:=by
 rw[lT]at h;simp only[aD,bC]at h;exact h.1.2
theorem aTh{t:LTerm}(h:nodeB t=true)(hk:t.kind=8):t.kids.length % 2=0:=by
 simp only[nodeB,hk,Int.reduceEq,if_true,if_false,aD,decide_eq_true_eq]at h;exact h.1.2
end Go.Proofs.YtdjcggcjlphdoaaGreatDoor
