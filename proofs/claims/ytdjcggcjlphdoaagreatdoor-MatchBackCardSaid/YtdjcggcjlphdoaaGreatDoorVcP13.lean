/-
  Functions of the chapter, as plain functions of what they are given; no condition.
-/
import Derived.Test.YtdjcggcjlphdoaaGreatDoorVcP12
import Derived.Test.YtdjcggcjlphdoaaGreatDoorTeP12
set_option maxRecDepth 100000
set_option linter.unusedSimpArgs false
set_option linter.unusedVariables false
set_option maxHeartbeats 4000000
namespace Go.Proofs.YtdjcggcjlphdoaaGreatDoor
open Go Go.Vo
open Nat (reduceAdd reduceSub reduceMul reduceLeDiff reduceLT reduceEqDiff)
open Int (reduceNeg)
section
variable {A:LTerm→LTerm→List LSub→Bool→MR} {s:dX} {key value:LTerm}
end
def T5(key:LTerm)(u:LSub):Option LTerm:=if key.kind=6 then mOf u key.text else some key
theorem aPj{s:dX}{key:LTerm}{w:nJ}{k:Nat}(h:T5 key w.u=none):mG s key w k=oK s key (w.left.getD (2*k) default) w.u:=by
 rw[mG,show(if key.kind=6 then mOf w.u key.text else some key)=none from h]
theorem aPi{s:dX}{key a:LTerm}{w:nJ}{k:Nat}(h:T5 key w.u=some a):mG s key w k=if a=w.left.getD (2*k) default then [w.u]else []:=by
 rw[mG,show(if key.kind=6 then mOf w.u key.text else some key)=some a from h]
theorem bSy{P:Program}{G:Md}{c:AV}{a b:kN}{R:List AV→List AObj→Prop}{Q:Exit→List AV→List AObj→Prop}{env:List AV}{h:List AObj}(ps:List aSc)(hp:List AObj)
 (first:U2 P G c a b (tW (fun e' h'=>h'=hp∧hZ ps env e') Q) env h) (rest:∀j:Nat→AV,R (rX j 0 ps env) hp):U2 P G c a b (tW R Q) env h:=by
 have mono:∀x e h',tW (fun e' h'=>h'=hp∧hZ ps env e') Q x e h'→tW R Q x e h':=fun x e h' k=>by
  cases x;case normal=>
   obtain⟨rfl,hf⟩:=k;have he:rX (fun n=>e.getD n .u) 0 ps env=e:=aAw _ env e 0 _ (fun m v hv=>by simp[List.getD,hv]) hf;have r:=rest (fun n=>e.getD n .u);rw[he]at r;exact r
  all_goals exact k
 unfold U2 tH at *
 cases c<;>first|exact⟨fun e=>lW mono (first.1 e),fun e=>lW mono (first.2 e)⟩|exact first
theorem fO{α:Type}{l:List α}{k:Nat}{d:α}(h:k<l.length):l.take (k+1)=l.take k++[l.getD k d]:=by
 rw[List.take_add_one,bL h,fN,bL h];rfl
theorem bEt{s:dX}{p:LTerm}{w:nJ}:(G2 s p w).length≤1:=by
 rw[G2];split
 ·exact I5
 ·split<;>simp
abbrev PE:=LTerm×LTerm
def fl(es:List PE):List LTerm:=es.flatMap fun e=>[e.1,e.2]
theorem sG{e:PE}{es:List PE}:fl (e::es)=e.1::e.2::fl es:=rfl
theorem aXk{a b:List PE}:fl (a++b)=fl a++fl b:=List.flatMap_append
theorem aFn{es:List PE}:(fl es).length=2*es.length:=by
 induction es with
 |nil=>rfl
 |cons e es ih=>rw[sG,aQ,aQ,ih,aQ];omega
theorem P0{es:List PE}:∀{i:Nat},i<es.length→(fl es).getD (2*i) default=(es.getD i default).1:=by
 induction es with
 |nil=>intro i h;cases h
 |cons e es ih=>
  intro i h;cases i with
  |zero=>rfl
  |succ i=>rw[sG,show 2*(i+1)=2*i+1+1 by omega,dE,dE,ih (by simpa using h),dE]
theorem bJw{es:List PE}:∀{i:Nat},i<es.length→(fl es).getD (2*i+1) default=(es.getD i default).2:=by
 induction es with
 |nil=>intro i h;cases h
 |cons e es ih=>
  intro i h;cases i with
  |zero=>rfl
  |succ i=>rw[sG,show 2*(i+1)+1=(2*i+1)+1+1 by omega,dE,dE,ih (by simpa using h),dE]
theorem bWa:∀{l:List LTerm},l.length % 2=0→∃es,l=fl es
 | [],_=>⟨[],rfl⟩
 | [a],h=>by simp at h
 |a::b::l,h=>by
  obtain⟨es,rfl⟩:=bWa (l:=l) (by simp only[aQ]at h;omega);exact⟨(a,b)::es,rfl⟩
theorem aMz{es:List PE}{x:LTerm}:x∈fl es↔∃e∈es,x=e.1∨x=e.2:=by
 simp[fl]
def SrtE(es:List PE):Prop:=∀i j,i<j→j<es.length→mH (es.getD i default).1 (es.getD j default).1<0
def KysE(es:List PE):Prop:=∀i,i<es.length→isKey (es.getD i default).1=true
theorem bMj{es:List PE}(h:∀i,i+1<es.length→mH (es.getD i default).1 (es.getD (i+1) default).1<0):SrtE es:=by
 intro i j hij;induction j with
 |zero=>omega
 |succ j ih=>
  intro hj;rcases Nat.lt_succ_iff_lt_or_eq.1 hij with h1|h1
  ·exact aEi (ih h1 (by omega)) (h j hj)
  ·subst h1;exact h i hj
theorem aMr{t:LTerm}{es:List PE}(hm:t.kids=fl es):E5 mH t=true↔SrtE es∧KysE es:=by
 have hl:t.kids.length=2*es.length:=by rw[hm,aFn]
 rw[E5,nM,show(t.kids.length+1) / 2=es.length by omega];constructor
 ·intro h;have kk1:KysE es:=fun i hi=>by
   have:=h i hi;rw[B9,aA,hm,P0 hi]at this;exact this.1
  refine⟨bMj fun i hi=>?_,kk1⟩;have:=h (i+1) hi;rw[B9,aA,cC,decide_eq_true_eq,decide_eq_true_eq,hm,P0 hi,show 2*(i+1)-2=2*i by omega,P0 (by omega)]at this;rcases this.2 with h0|h0
  ·omega
  ·exact h0
 ·rintro⟨h1,h2⟩ i hi;rw[B9,aA,cC,decide_eq_true_eq,decide_eq_true_eq,hm,P0 hi];refine⟨h2 i hi,?_⟩;by_cases h0:i=0
  ·exact .inl h0
  ·right;rw[show 2*i-2=2*(i-1) by omega,P0 (by omega)];exact h1 (i-1) i (by omega) hi
def cCi:List LTerm→List PE
 |a::b::l=>(a,b)::cCi l
 |_=>[]
theorem aHo:∀{es:List PE},cCi (fl es)=es
 | []=>rfl
 |e::es=>by rw[sG,cCi,aHo]
theorem aLd{es:List PE}:SrtE es↔es.Pairwise (fun a b=>mH a.1 b.1<0):=by
 rw[dQ];constructor
 ·intro h i j hi hj hij;have:=h i j hij hj;simpa[List.getD,hi,hj]using this
 ·intro h i j hij hj;have hi:i<es.length:=by omega
  have:=h i j hi hj hij;simpa[List.getD,hi,hj]using this
theorem aJc{es:List PE}:KysE es↔∀e∈es,isKey e.1=true:=by
 constructor
 ·intro h e he;obtain⟨i,hi,rfl⟩:=dC.1 he;have:=h i hi;simpa[List.getD,hi]using this
 ·intro h i hi;exact h _ (cT hi)
theorem aAl{s:dX}{t:LTerm}(h:plainP s t=true):∀k∈t.kids,plainP s k=true:=by
 rw[oY]at h;simp only[aA,bF]at h;exact h.1.2
theorem aVs{t:LTerm}(h:nodeB t=true)(hk:t.kind=8):t.kids.length % 2=0:=by
 simp only[nodeB,hk,Int.reduceEq,if_true,if_false,aA,decide_eq_true_eq]at h;exact h.1.2
end Go.Proofs.YtdjcggcjlphdoaaGreatDoor
