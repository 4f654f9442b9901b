/-
  Functions of the chapter, as plain functions of what they are given; no condition.
-/
import Derived.Test.YtdjcggcjlphdoaaGreatDoorVeP72
import Derived.Test.YtdjcggcjlphdoaaGreatDoorVaP77
import Derived.Test.YtdjcggcjlphdoaaGreatDoorVdP76
import Derived.Test.YtdjcggcjlphdoaaGreatDoorSoP74
import Derived.Test.YtdjcggcjlphdoaaGreatDoorVaP73
import Derived.Test.YtdjcggcjlphdoaaGreatDoorVdP75
set_option maxRecDepth 100000
set_option linter.unusedSimpArgs false
set_option linter.unusedVariables false
set_option maxHeartbeats 4000000
namespace Go.Proofs.YtdjcggcjlphdoaaGreatDoor
open Go Go.Vo
open Nat (reduceAdd reduceSub reduceMul reduceLeDiff reduceLT reduceEqDiff)
open Int (reduceNeg)
theorem P4{a b:LTerm}(h1:a.kind=b.kind)(h2:a.n=b.n)(h3:a.text=b.text)(h4:a.sort=b.sort)(h5:a.kids=b.kids)(h6:a.rest=b.rest):a=b:=by
 cases a;cases b;dsimp only[LTerm.kind,LTerm.n,LTerm.text,LTerm.sort,LTerm.kids,LTerm.rest]at h1 h2 h3 h4 h5 h6;subst h1 h2 h3 h4 h5 h6;rfl
theorem bFk{a b:List PE}(ha:aPp a)(hb:aPp b)(h:a.Perm b):a=b:=
 List.Perm.eq_of_pairwise (le:=fun x y=>oL x.1 y.1<0) (fun x y _ _ h1 h2=>by have:=bBb x.1 y.1;omega) (aCe.1 ha) (aCe.1 hb) h
theorem aQy{a b:List PE}(h:a.Sublist b)(hb:aPp b):aPp a:=aCe.2 ((aCe.1 hb).sublist h)
theorem PT.zn{s:dK}{t:LTerm}(h:PT s t):ZN t:=yY (eN.1 h.wf).1
theorem PT.rest{s:dK}{t:LTerm}(h:PT s t):t.rest=[]:=by
 have:=h.pl;rw[lT]at this;simp only[aD,decide_eq_true_eq]at this;exact this.1.1.2
def nwB(p:LTerm):Bool := !(decide (p.kind=6)&&decide (p.text=[95]))&&p.rest.all fun r => !decide (r.text=[95])
theorem aYu{s:dK}{W:LSub}{v a b:LTerm}(hw:¬v.text=[95])(h1:MB s W v a)(h2:MB s W v b):a=b:=by
 rw[MB,if_neg hw]at h1 h2;rw[h1]at h2;exact fJ h2
theorem aMs{s:dK}{W:LSub}:∀{ps xs ys:List LTerm},(∀p∈ps,∀a b,PT s a→PT s b→MT s W p a→MT s W p b→a=b)→(∀a∈xs,PT s a)→(∀b∈ys,PT s b)→ML s W ps xs→ML s W ps ys→xs=ys
 | [],[],[],_,_,_,_,_=>rfl
 |p::ps,a::xs,b::ys,hp,ha,hb,h1,h2=>by
  rw[ML]at h1 h2;rw[hp p dC a b (ha a dC) (hb b dC) h1.1 h2.1,aMs (fun q hq=>hp q (bU _ hq)) (fun x hx=>ha x (bU _ hx)) (fun x hx=>hb x (bU _ hx)) h1.2 h2.2]
 | [],_::_,_,_,_,_,h,_=>by rw[ML]at h;exact h.elim
 | [],[],_::_,_,_,_,_,h=>by rw[ML]at h;exact h.elim
 |_::_,[],_,_,_,_,h,_=>by rw[ML]at h;exact h.elim
 |_::_,_::_,[],_,_,_,_,h=>by rw[ML]at h;exact h.elim
theorem aHg{p:LTerm}(h:wfT nwB p=true){r:LTerm}(hr:r∈p.rest):¬r.text=[95]:=by
 have:=(eN.1 h).1;rw[nwB,aD]at this;have:=bC.1 this.2 r hr;simpa using this
theorem bIn{s:dK}{W:LSub}:∀(p:LTerm),wfT nwB p=true→∀a b,PT s a→PT s b→MT s W p a→MT s W p b→a=b:=
 fW (Q := fun p=>wfT nwB p=true→∀a b,PT s a→PT s b→MT s W p a→MT s W p b→a=b) fun p hk _ hn a b ha hb h1 h2=>by
  have hn':=eN.1 hn;have IH:∀k∈p.kids,∀a b,PT s a→PT s b→MT s W k a→MT s W k b→a=b:=fun k hm=>hk k hm (hn'.2 k hm);have za:=ha.zn;have zb:=hb.zn;rw[nI]at h1 h2;by_cases h5:p.kind=5
  ·rw[if_pos h5]at h1 h2;have ca:=za.c h1.1;have cb:=zb.c h2.1;exact P4 (by rw[h1.1,h2.1]) (by rw[ca.1,cb.1]) (by rw[h1.2.1,h2.2.1]) (by rw[ca.2.1,cb.2.1]) (aMs IH (fun x hx=>ha.kid hx) (fun x hx=>hb.kid hx) h1.2.2 h2.2.2) (by rw[ha.rest,hb.rest])
  rw[if_neg h5]at h1 h2;by_cases h7:p.kind=7
  ·rw[if_pos h7]at h1 h2
   obtain⟨a1,a2,a3,a4⟩:=h1;obtain⟨b1,b2,b3,b4⟩:=h2;have ea:=za.e (.inl a1);have eb:=zb.e (.inl b1);have e1:=aMs IH (fun x hx=>ha.kid (dI hx)) (fun x hx=>hb.kid (dI hx)) a3 b3;have e2:a.kids.drop p.kids.length=b.kids.drop p.kids.length:=by
    by_cases hr:p.rest=[]
    ·rw[if_pos hr]at a4 b4;rw[dQ (by omega),dQ (by omega)]
    ·rw[if_neg hr]at a4 b4;have:=aYu (aHg hn (lG hr)) a4 b4;exact congrArg LTerm.kids this
   refine P4 (by rw[a1,b1]) (by rw[ea.1,eb.1]) (by rw[ea.2.1,eb.2.1]) (by rw[ea.2.2,eb.2.2]) ?_ (by rw[ha.rest,hb.rest]);rw[← dU p.kids.length a.kids,← dU p.kids.length b.kids,e1,e2]
  rw[if_neg h7]at h1 h2;by_cases h8:p.kind=8
  ·rw[if_pos h8]at h1 h2
   obtain⟨a1,L,es,left,a2,a3,a4,a5,a6⟩:=h1;obtain⟨b1,L',es',left',b2,b3,b4,b5,b6⟩:=h2;have ea:=za.e (.inr a1);have eb:=zb.e (.inr b1);obtain⟨La,g1,g2,_⟩:=ha.map a1;obtain⟨Lb,g3,g4,_⟩:=hb.map b1;obtain rfl:L=La:=uM (a2.symm.trans g1);obtain rfl:L'=Lb:=uM (b2.symm.trans g3);have ma:∀x∈fl es,PT s x:=fun x hx=>by
    obtain⟨e,he,hx⟩:=L7.1 hx;have:=lP a2 (a3.mem_iff.2 (dZ _ he));rcases hx with rfl|rfl
    ·exact ha.kid this.1
    ·exact ha.kid this.2
   have mb:∀x∈fl es',PT s x:=fun x hx=>by
    obtain⟨e,he,hx⟩:=L7.1 hx;have:=lP b2 (b3.mem_iff.2 (dZ _ he));rcases hx with rfl|rfl
    ·exact hb.kid this.1
    ·exact hb.kid this.2
   have e1:es=es':=uM (aMs IH ma mb a5 b5);have e2:left=left':=by
    by_cases hr:p.rest=[]
    ·rw[if_pos hr]at a6 b6;rw[a6,b6]
    ·rw[if_neg hr]at a6 b6;have:=aYu (aHg hn (lG hr)) a6 b6;exact uM (congrArg LTerm.kids this)
   subst e1 e2;have e3:L=L':=bFk g2 g4 (a3.trans b3.symm);exact P4 (by rw[a1,b1]) (by rw[ea.1,eb.1]) (by rw[ea.2.1,eb.2.1]) (by rw[ea.2.2,eb.2.2]) (by rw[a2,b2,e3]) (by rw[ha.rest,hb.rest])
  rw[if_neg h8]at h1 h2;by_cases h6:p.kind=6
  ·rw[if_pos h6]at h1 h2;have hw:¬p.text=[95]:=fun e=>by
    have:=hn'.1;rw[nwB,zt h6,zt e]at this;simp at this
   exact aYu hw h1 h2
  ·rw[if_neg h6]at h1 h2;rw[← h1,← h2]
theorem aGg{s:dK}{a b:LTerm}(hk:a.kind=b.kind)(ht:a.kind=5→a.text=b.text)(h6:¬a.kind=6)(hz:1≤a.kind∧a.kind≤8):kI s a=kI s b:=by
 simp only[kI,← hk];by_cases h5:a.kind=5
 ·rw[ht h5];simp[h5]
 ·by_cases h8:a.kind=8
  ·simp[h8]
  by_cases h7:a.kind=7
  ·simp[h7]
  by_cases h4:a.kind=4
  ·simp[h4]
  by_cases h3:a.kind=3
  ·simp[h3]
  by_cases h2:a.kind=2
  ·simp[h2]
  have h1:a.kind=1:=by omega
  simp[h1]
theorem aJm{s:dK}{v:LTerm}(h6:v.kind=6)(he:existsA s v.sort=true):kI s v=v.sort:=by
 simp[kI,h6,he]
theorem aRb{s:dK}{f:Str→Str}{W:LSub}{q t:LTerm}(hv:iH s=true)(hp:PT s t)(hi:SI s f W)(hs:q.kind=6→q.sort=f q.text∧¬q.text=[95]∧existsA s q.sort=true)(h:MT s W q t):iQ s (kI s t) (kI s q)=true:=by
 by_cases h6:q.kind=6
 ·obtain⟨h1,h2,h3⟩:=hs h6;rw[aZb h6,MB,if_neg h2]at h;rw[aJm h6 h3,h1];exact hi _ _ h
 ·have hz:=hp.zn.f;have h6':¬t.kind=6:=fun e=>by
   have:=hp.pl;rw[lT,zt e]at this;simp at this
  have e:kI s t=kI s q:=by
   rw[nI]at h;by_cases h5:q.kind=5
   ·rw[if_pos h5]at h;exact aGg (by rw[h.1,h5]) (fun _=>h.2.1) h6' hz
   rw[if_neg h5]at h;by_cases h7:q.kind=7
   ·rw[if_pos h7]at h;exact aGg (by rw[h.1,h7]) (fun e=>absurd (h.1.symm.trans e) (by decide)) h6' hz
   rw[if_neg h7]at h;by_cases h8:q.kind=8
   ·rw[if_pos h8]at h;exact aGg (by rw[h.1,h8]) (fun e=>absurd (h.1.symm.trans e) (by decide)) h6' hz
   rw[if_neg h8,if_neg h6]at h;rw[h]
  rw[← e];exact N9 (yR hv hz hp.pl).2
theorem aHq{t:LTerm}(h:nodeB t=true)(h5:¬t.kind=5)(h7:¬t.kind=7)(h8:¬t.kind=8):t.kids=[]:=by
 have z0:∀{a b c d},gQ t a b c false d=true→t.kids=[]:=by
  intro a b c d h;simp only[gQ,aD,cB,decide_eq_true_eq,aI,false_or]at h;exact h.1.2
 unfold nodeB at h;repeat' split at h
 all_goals try simp only[aD]at h
 all_goals first|exact z0 h.2|contradiction|cases h
theorem aPf(s:dK)(W:LSub)(k n:Int)(x so:Str)(ks rs:List LTerm)(t:LTerm):MT s W (.mk k n x so ks rs) t ↔
 if k=5 then t.kind=5∧t.text=x∧ML s W ks t.kids
 else if k=7 then t.kind=7∧ks.length≤t.kids.length∧ML s W ks (t.kids.take ks.length)∧(if rs=[]then t.kids.length=ks.length else MB s W (rs.getD 0 default) (liT (t.kids.drop ks.length)))
 else if k=8 then t.kind=8∧∃L es left:List PE,t.kids=fl L∧L.Perm (es++left)∧left.Sublist L∧ML s W ks (fl es)∧(if rs=[]then left=[]else MB s W (rs.getD 0 default) (maT (fl left)))
 else if k=6 then MB s W (.mk k n x so ks rs) t
 else LTerm.mk k n x so ks rs=t:=by rw[MT]
def nm(k:Nat):Str:=95::Lib.itoa ((k:Nat):Int)
theorem bRs{a b:Nat}(h:nm a=nm b):a=b:=by
 have:=bCh (yM h).2;omega
theorem aTe(k:Nat):¬nm k=[95]:=fun h=>bMe _ (yM h).2
def Fr(c:Nat)(W:LSub):Prop:=∀k,c<k→mOf W (nm k)=none
def NewN(W W':LSub):Prop:=∀x y,mOf W' x=some y→mOf W x=some y∨∃k,x=nm k
theorem NewN.refl(W:LSub):NewN W W:=fun _ _ h=>.inl h
theorem NewN.trans{a b c:LSub}(h:NewN a b)(k:NewN b c):NewN a c:=fun x y hx=>by
 rcases k x y hx with h1|h1
 ·exact h x y h1
 ·exact .inr h1
mutual
theorem bWn:∀(t:LTerm) (c:Nat),c≤(alT t c).2
 | .mk k n x so ks rs,c=>by
   have h:=alL_ge ks c;rw[alT];split
   ·dsimp only;omega
   ·exact h
theorem alL_ge:∀(l:List LTerm) (c:Nat),c≤(alL l c).2
 | [],c=>by rw[alL];exact bV _
 |t::l,c=>by
  have h1:=bWn t c;have h2:=alL_ge l (alT t c).2;rw[alL];dsimp only;omega
end
theorem Fr.mono{c d:Nat}{W:LSub}(h:Fr c W)(hd:c≤d):Fr d W:=fun k hk=>h k (by omega)
structure AlR(s:dK)(W:LSub)(c':Nat)(W':LSub):Prop where
 ext:Ext W W'
 fr:Fr c' W'
 nw:NewN W W'
theorem bIk{s:dK}:∀(l:List LTerm),(∀k∈l,∀c W t,MT s W k t→Fr c W→∃W',AlR s W (alT k c).2 W'∧MT s W' (alT k c).1 t)→∀c W ts,ML s W l ts→Fr c W→∃W',AlR s W (alL l c).2 W'∧ML s W' (alL l c).1 ts
 | [],_,c,W,[],_,hf=>⟨W,⟨Ext.refl W,by rw[alL];exact hf,NewN.refl W⟩,by rw[alL,ML];trivial⟩
 |k::l,hk,c,W,t::ts,h,hf=>by
  rw[ML]at h;obtain⟨W1,a1,a2⟩:=hk k dC c W t h.1 hf;obtain⟨W2,b1,b2⟩:=bIk l (fun q hq=>hk q (bU _ hq)) (alT k c).2 W1 ts (aBj a1.ext h.2) a1.fr;refine⟨W2,⟨a1.ext.trans b1.ext,by rw[alL];exact b1.fr,a1.nw.trans b1.nw⟩,?_⟩;rw[alL,ML];exact⟨aBi b1.ext _ _ a2,b2⟩
 | [],_,_,_,_::_,h,_=>by rw[ML]at h;exact h.elim
 |_::_,_,_,_,[],h,_=>by rw[ML]at h;exact h.elim
theorem cBi{s:dK}:∀(p:LTerm),wfT nodeB p=true→∀c W t,MT s W p t→Fr c W→∃W',AlR s W (alT p c).2 W'∧MT s W' (alT p c).1 t:=
 fW (Q := fun p=>wfT nodeB p=true→∀c W t,MT s W p t→Fr c W→∃W',AlR s W (alT p c).2 W'∧MT s W' (alT p c).1 t) fun p hk _ hw c W t h hf=>by
  have hw':=eN.1 hw;rw[vK];by_cases hwild:p.kind=6∧p.text=[95]
  ·rw[if_pos hwild]
   dsimp only;rw[aZb hwild.1,MB,if_pos hwild.2]at h;have h0:=hf (c+1) (by omega);have e:∀y,mOf (W++[(nm (c+1),t)]) y=if nm (c+1)=y then some t else mOf W y:=fun y=>by
    rw[B6,sZ];by_cases hy:nm (c+1)=y
    ·rw[if_pos hy,if_pos hy,← hy,h0]
    ·rw[if_neg hy,if_neg hy];cases mOf W y<;>rfl
   refine⟨W++[(nm (c+1),t)],⟨fun x y hx=>?_,fun k hk=>?_,fun x y hx=>?_⟩,?_⟩
   ·rw[e];split
    ·rename_i hy;rw[← hy,h0]at hx;cases hx
    ·exact hx
   ·rw[e,if_neg (fun hy=>by have:=bRs hy;omega)];exact hf k (by omega)
   ·rw[e]at hx;split at hx
    ·rename_i hy;exact .inr ⟨_,hy.symm⟩
    ·exact .inl hx
   ·refine(aZb (by exact hwild.1)).2 ?_;rw[MB];show if nm (c+1)=[95]then _ else mOf _ (nm (c+1))=some t;rw[if_neg (aTe _),e,if_pos rfl]
  rw[if_neg hwild];dsimp only;have IH:=fun l (hl:∀k∈l,k∈p.kids)=>bIk (s:=s) l (fun k hm=>hk k (hl k hm) (hw'.2 k (hl k hm)));rw[nI]at h;by_cases h5:p.kind=5
  ·rw[if_pos h5]at h;obtain⟨W',a,b⟩:=IH p.kids (fun _ h=>h) c W t.kids h.2.2 hf;exact⟨W',a,by rw[aPf,if_pos h5];exact⟨h.1,h.2.1,b⟩⟩
  rw[if_neg h5]at h;by_cases h7:p.kind=7
  ·rw[if_pos h7]at h;obtain⟨W',a,b⟩:=IH p.kids (fun _ h=>h) c W _ h.2.2.1 hf;refine⟨W',a,?_⟩;rw[aPf,if_neg h5,if_pos h7];show t.kind=7∧(alL p.kids c).1.length≤_∧ML s W' (alL p.kids c).1 (t.kids.take (alL p.kids c).1.length)∧(if p.rest=[]then t.kids.length=(alL p.kids c).1.length else MB s W' (p.rest.getD 0 default) (liT (t.kids.drop (alL p.kids c).1.length)));rw[tT];refine⟨h.1,h.2.1,b,?_⟩;have h4:=h.2.2.2;split at h4
   ·rename_i hr;rw[if_pos hr];exact h4
   ·rename_i hr;rw[if_neg hr];exact O8 a.ext h4
  rw[if_neg h7]at h;by_cases h8:p.kind=8
  ·rw[if_pos h8]at h;obtain⟨g1,L,es,left,g2,g3,g4,g5,g6⟩:=h;obtain⟨W',a,b⟩:=IH p.kids (fun _ h=>h) c W _ g5 hf;refine⟨W',a,?_⟩;rw[aPf,if_neg h5,if_neg h7,if_pos h8];refine⟨g1,L,es,left,g2,g3,g4,b,?_⟩;show if p.rest=[]then left=[]else MB s W' (p.rest.getD 0 default) (maT (fl left));split at g6
   ·rename_i hr;rw[if_pos hr];exact g6
   ·rename_i hr;rw[if_neg hr];exact O8 a.ext g6
  rw[if_neg h8]at h;refine⟨W,⟨Ext.refl W,hf.mono (alL_ge _ _),NewN.refl W⟩,?_⟩;rw[aPf,if_neg h5,if_neg h7,if_neg h8];by_cases h6:p.kind=6
  ·rw[if_pos h6]at h;rw[if_pos h6];exact h
  ·rw[if_neg h6]at h;rw[if_neg h6,← h];have hl:=aHq hw'.1 h5 h7 h8;exact P4 rfl rfl rfl rfl (by show(alL p.kids c).1=p.kids;rw[hl,alL]) rfl
theorem aYo{s:dK}{W:LSub}:∀{ps ts:List LTerm} {k:Nat},ML s W ps ts→ML s W (ps.take k) (ts.take k)
 | [],[],k,h=>by simp[ML]
 |p::ps,t::ts,0,h=>by simp[ML]
 |p::ps,t::ts,k+1,h=>by
  rw[ML]at h;rw[aO,aO,ML];exact⟨h.1,aYo h.2⟩
 | [],_::_,_,h=>by rw[ML]at h;exact h.elim
 |_::_,[],_,h=>by rw[ML]at h;exact h.elim
theorem aYr{s:dK}{W:LSub}:∀{ps ts:List LTerm} {k:Nat},ML s W ps ts→ML s W (ps.drop k) (ts.drop k)
 | [],[],k,h=>by simp[ML]
 |p::ps,t::ts,0,h=>h
 |p::ps,t::ts,k+1,h=>by
  rw[ML]at h;rw[aV,aV];exact aYr h.2
 | [],_::_,_,h=>by rw[ML]at h;exact h.elim
 |_::_,[],_,h=>by rw[ML]at h;exact h.elim
def exC(s:dK)(p:LTerm):Bool:=(!decide (p.kind=6)||existsA s p.sort)&&p.rest.all fun r=>existsA s r.sort&&(r.kids.isEmpty&&r.rest.isEmpty)
structure QW(s:dK)(f:Str→Str)(q:LTerm):Prop where
 pw:PW f q
 nw:wfT nwB q=true
 ex:wfT (exC s) q=true
structure Gd(s:dK)(f:Str→Str)(q:LTerm):Prop where
 nw:wfT nwB q=true
 var:q.kind=6→q.sort=f q.text∧¬q.text=[95]∧existsA s q.sort=true
section
variable {s:dK} {f g:Str→Str} {W:LSub} {p q t:LTerm}
theorem QW.kid(h:QW s f q){k:LTerm}(hk:k∈q.kids):QW s f k:=⟨h.pw.kid hk,(eN.1 h.nw).2 k hk,(eN.1 h.ex).2 k hk⟩
theorem QW.gd(h:QW s f q):Gd s f q:=⟨h.nw,fun h6=>by
 have hw:¬q.text=[95]:=fun e=>by
  have:=(eN.1 h.nw).1;rw[nwB,zt h6,zt e]at this;simp at this
 have he:=(eN.1 h.ex).1;rw[exC,zt h6,aA,dD,aD]at he;exact⟨(h.pw.var h6).resolve_left hw,hw,he.1⟩⟩
theorem QW.rst(h:QW s f q)(h7:q.kind=7∨q.kind=8){r:LTerm}(hr:r∈q.rest):r.kind=6∧Gd s f r:=by
 have hw:=aHg h.nw hr;obtain⟨r1,r2⟩:=h.pw.rst h7 hr;have he:=(eN.1 h.ex).1;rw[exC,aD]at he;have he:=bC.1 he.2 r hr;simp only[aD,aBt]at he;refine⟨r1,eN.2 ⟨?_,fun k hk=>?_⟩,fun _=>⟨r2.resolve_left hw,hw,he.1⟩⟩
 ·rw[nwB,zf hw,he.2.2];simp
 ·rw[he.2.1]at hk;cases hk
def IO(s:dK)(f:Str→Str)(W v:LSub):Prop:=∀x q,mOf v x=some q→Gd s f q∧∃t,PT s t∧MT s W q t
def Agr(s:dK)(W v U:LSub):Prop:=∀x q,mOf v x=some q→∃t,PT s t∧MT s W q t∧mOf U x=some t
def SP(s:dK)(g:Str→Str)(v:LSub):Prop:=∀x q,mOf v x=some q→iQ s (kI s q) (g x)=true
theorem Agr.of{v v' U:LSub}(e:Ext v v')(h:Agr s W v' U):Agr s W v U:=fun x q hx=>h x q (e x q hx)
structure CR(s:dK)(f g:Str→Str)(W v v':LSub):Prop where
 ext:Ext v v'
 io:IO s f W v'
 sp:SP s g v→SP s g v'
theorem CR.refl{v:LSub}(h:IO s f W v):CR s f g W v v:=⟨Ext.refl v,h,id⟩
theorem CR.trans{a b c:LSub}(h:CR s f g W a b)(k:CR s f g W b c):CR s f g W a c:=⟨h.ext.trans k.ext,k.io,fun x=>k.sp (h.sp x)⟩
theorem aIe(hv:iH s=true)(hi:SI s f W){v v':LSub}(hp:p.text=[95]∨p.sort=g p.text)(hq:Gd s f q)(ht:PT s t)(hm:MT s W q t)(ho:IO s f W v)(h:G5 s v p q=some v') :
 CR s f g W v v'∧∀U,Agr s W v' U→MB s U p t:=by
 rw[G5]at h;split at h
 ·rename_i ha;have hs:=aRb hv ht hi hq.var hm;have ht2:iQ s (kI s t) p.sort=true:=C5 (wK hv) (yR hv ht.zn.f ht.pl).2 hs ha;split at h
  ·rename_i hw;cases h;exact⟨CR.refl ho,fun U _=>by rw[MB,if_pos hw];exact ht2⟩
  ·rename_i hw;have hg:=hp.resolve_left hw;cases hx:mOf v p.text with
   |some o=>
    rw[hx]at h;dsimp only at h;split at h
    ·rename_i e;subst e;cases h;refine⟨CR.refl ho,fun U hU=>?_⟩;obtain⟨t',h1,h2,h3⟩:=hU _ _ hx;rw[MB,if_neg hw,h3,bIn _ hq.nw _ _ h1 ht h2 hm]
    ·cases h
   |none=>
    rw[hx]at h;cases h;have e:∀y,mOf (v++[(p.text,q)]) y=if p.text=y then some q else mOf v y:=fun y=>by
     rw[B6,sZ];by_cases hy:p.text=y
     ·rw[if_pos hy,if_pos hy,← hy,hx]
     ·rw[if_neg hy,if_neg hy];cases mOf v y<;>rfl
    refine⟨⟨fun x y hxy=>?_,fun x y hxy=>?_,fun hsp x y hxy=>?_⟩,fun U hU=>?_⟩
    ·rw[e];split
     ·rename_i hy;rw[← hy,hx]at hxy;cases hxy
     ·exact hxy
    ·rw[e]at hxy;split at hxy
     ·cases hxy;exact⟨hq,t,ht,hm⟩
     ·exact ho x y hxy
    ·rw[e]at hxy;split at hxy
     ·rename_i hy;cases hxy;rw[← hy,← hg];exact ha
     ·exact hsp x y hxy
    ·obtain⟨t',h1,h2,h3⟩:=hU p.text q (by rw[e,if_pos rfl]);rw[MB,if_neg hw,h3,bIn _ hq.nw _ _ h1 ht h2 hm]
 ·cases h
def CvC(s:dK)(f g:Str→Str)(W:LSub)(C:CF)(p:LTerm):Prop:=∀v q t v',QW s f q→PT s t→MT s W q t→IO s f W v→v'∈C v p q→CR s f g W v v'∧∀U,Agr s W v' U→MT s U p t
theorem aIf{C:CF}:∀{ps qs ts:List LTerm} {v v':LSub},(∀p∈ps,CvC s f g W C p)→(∀q∈qs,QW s f q)→(∀t∈ts,PT s t)→ps.length=qs.length→ML s W qs ts→IO s f W v→v'∈M9 C v ps qs→CR s f g W v v'∧∀U,Agr s W v' U→ML s U ps ts
 | [],[],[],v,v',_,_,_,_,_,ho,h=>by
   rw[M9,aP]at h;subst h;exact⟨CR.refl ho,fun U _=>by rw[ML];trivial⟩
 |p::ps,q::qs,t::ts,v,v',hC,hq,ht,hl,hm,ho,h=>by
  rw[M9]at h;rw[ML]at hm;obtain⟨a,ha,h⟩:=cH.1 h;obtain⟨a1,a2⟩:=hC p dC v q t a (hq q dC) (ht t dC) hm.1 ho ha;obtain⟨b1,b2⟩:=aIf (fun x hx=>hC x (bU _ hx)) (fun x hx=>hq x (bU _ hx)) (fun x hx=>ht x (bU _ hx)) (by simpa using hl) hm.2 a1.io h;exact⟨a1.trans b1,fun U hU=>by rw[ML];exact⟨a2 U (hU.of b1.ext),b2 U hU⟩⟩
 | [],_::_,_,_,_,_,_,_,hl,_,_,_=>by simp at hl
 |_::_,[],_,_,_,_,_,_,hl,_,_,_=>by simp at hl
 | [],[],_::_,_,_,_,_,_,_,hm,_,_=>by rw[ML]at hm;exact hm.elim
 |_::_,_::_,[],_,_,_,_,_,_,hm,_,_=>by rw[ML]at hm;exact hm.elim
theorem cBl{ks:List LTerm}(h:∀k∈ks,PT s k):PT s (liT ks):=by
 refine⟨eN.2 ⟨by simp[nodeB,nK,gQ,LTerm.kind,LTerm.rest,LTerm.n,LTerm.text,LTerm.sort],fun k hk=>(h k hk).wf⟩,?_⟩;rw[lT];simp only[LTerm.kind,LTerm.rest,LTerm.kids,Int.reduceEq,decide_false,aB,decide_true,aR,if_false,bA,bC];exact fun k hk=>(h k hk).pl
theorem aTz(hq:QW s f q)(h7:q.kind=7)(hm:MT s W q t){k:Nat}(hk:k≤q.kids.length):Gd s f (oI (uV (q.kids.drop k) q.rest))∧MT s W (oI (uV (q.kids.drop k) q.rest)) (liT (t.kids.drop k)):=by
 rw[nI,if_neg (by omega),if_pos h7]at hm;obtain⟨h1,h2,h3,h4⟩:=hm;rw[oI];show Gd s f (if(q.kids.drop k).length=0∧0<q.rest.length then q.rest.getD 0 default else uV (q.kids.drop k) q.rest)∧MT s W (if(q.kids.drop k).length=0∧0<q.rest.length then q.rest.getD 0 default else uV (q.kids.drop k) q.rest) _;split
 ·rename_i hc;have hr:¬q.rest=[]:=fE.1 hc.2;have hkl:k=q.kids.length:=by have:=hc.1;rw[dS]at this;omega
  obtain⟨r1,r2⟩:=hq.rst (.inl h7) (lG hr);rw[if_neg hr,← hkl]at h4;exact⟨r2,(aZb r1).2 h4⟩
 ·refine⟨⟨eN.2 ⟨?_,fun x hx=>(eN.1 hq.nw).2 x (gK hx)⟩,fun h=>absurd h (by simp[uV,LTerm.kind])⟩,?_⟩
  ·have:=(eN.1 hq.nw).1;rw[nwB,aD]at this;simp only[nwB,uV,LTerm.kind,LTerm.rest,aD];exact⟨by simp,this.2⟩
  ·rw[uV,aPf,if_neg (by decide),if_pos rfl]
   have e:(t.kids.drop k).take (q.kids.drop k).length=(t.kids.take q.kids.length).drop k:=by
    rw[dS,List.drop_take]
   refine⟨rfl,?_,?_,?_⟩
   ·show(q.kids.drop k).length≤(t.kids.drop k).length;rw[dS,dS];omega
   ·show ML s W (q.kids.drop k) ((t.kids.drop k).take (q.kids.drop k).length);rw[e];exact aYr h3
   ·show if q.rest=[]then(t.kids.drop k).length=(q.kids.drop k).length else MB s W (q.rest.getD 0 default) (liT ((t.kids.drop k).drop (q.kids.drop k).length));split at h4
    ·rename_i hr;rw[if_pos hr,dS,dS];omega
    ·rename_i hr;rw[if_neg hr,mI,dS,show k+(q.kids.length-k)=q.kids.length by omega];exact h4
end
def lfE:List PE→List Bool→List PE
 |e::l,x::tk=>if x=true then lfE l tk else e::lfE l tk
 |_,_=>[]
theorem bBx:∀{Q:List PE} {tk:List Bool},leftOf (fl Q) tk=fl (lfE Q tk)
 | [],tk=>by cases tk<;>rfl
 |e::Q,[]=>rfl
 |e::Q,x::tk=>by
  rw[lL,leftOf,lfE];split
  ·exact bBx
  ·rw[lL,bBx]
theorem aKm:∀{Q:List PE},lfE Q (List.replicate Q.length false)=Q
 | []=>rfl
 |e::Q=>by rw[bF,fT,lfE,if_neg (by simp),aKm]
theorem bGi:∀{Q:List PE} {tk:List Bool} {j:Nat},j<tk.length→tk.length=Q.length→tk.getD j false=false→(lfE Q tk).Perm (Q.getD j default::lfE Q (tk.set j true))
 |e::Q,x::tk,0,_,_,h=>by
  have:x=false:=h;subst this;rw[lfE,if_neg (by simp),mZ,lfE,if_pos rfl];exact List.Perm.refl _
 |e::Q,x::tk,j+1,h1,h2,h=>by
  have ih:=bGi (Q:=Q) (tk:=tk) (j:=j) (by simpa using h1) (by simpa using h2) h;rw[kX,lfE,lfE,dF];split
  ·exact ih
  ·exact(ih.cons e).trans (List.Perm.swap _ _ _)
 | [],_::_,_,_,h2,_=>by simp at h2
 |_,[],_,h1,_,_=>by simp at h1
theorem aYq{s:dK}{W:LSub}:∀{Q es:List PE} {tk:List Bool},ML s W (fl Q) (fl es)→ML s W (fl (lfE Q tk)) (fl (lfE es tk))
 | [],[],tk,h=>by cases tk<;>exact h
 |a::Q,b::es,[],h=>by simp[lfE,fl,ML]
 |a :: Q,b::es,x::tk,h=>by
  rw[lL,lL,ML,ML]at h;rw[lfE,lfE];split
  ·exact aYq h.2.2
  ·rw[lL,lL,ML,ML];exact⟨h.1,h.2.1,aYq h.2.2⟩
 | [],_::_,_,h=>by rw[lL,bGq,ML]at h;exact h.elim
 |_::_,[],_,h=>by rw[lL,bGq,ML]at h;exact h.elim
theorem aTw:∀{Q:List PE} {tk:List Bool} {e:PE},e∈lfE Q tk→e∈Q
 |a :: Q,x::tk,e,h=>by
  rw[lfE]at h;split at h
  ·exact bU _ (aTw h)
  ·rcases dA.1 h with rfl|h
   ·exact dC
   ·exact bU _ (aTw h)
 | [],tk,_,h=>by cases tk<;>simp[lfE]at h
 |_::_,[],_,h=>by simp[lfE]at h
theorem aSb{L ch rest:List PE}(hn:L.Nodup)(hp:L.Perm (ch++rest)):∃lp:List PE,lp.Sublist L∧lp.Perm rest∧∀m:List PE,m.Sublist L→(∀e∈m,e∈rest)→m.Sublist lp:=by
 have hd:(ch++rest).Nodup:=hp.nodup_iff.1 hn;have hdis:∀e∈rest,¬e∈ch:=fun e he hc=>by
  have:=(kE.1 hd).2.2 e hc e he;exact this rfl
 refine⟨L.filter fun e => !decide (e∈ch),List.filter_sublist,?_,fun m hm hr=>?_⟩
 ·have h1:=hp.filter (fun e => !decide (e∈ch));rw[List.filter_append]at h1;have e1:ch.filter (fun e => !decide (e∈ch))=[]:=List.filter_eq_nil_iff.2 fun e he=>by simp[he]
  have e2:rest.filter (fun e => !decide (e∈ch))=rest:=aYv.2 fun e he=>by simp[hdis e he]
  rw[e1,e2,aE]at h1;exact h1
 ·have h1:=hm.filter (fun e => !decide (e∈ch));rwa[aYv.2 fun e he=>by simp[hdis e (hr e he)]]at h1
section
variable {s:dK} {f g:Str→Str} {W:LSub} {p q t:LTerm}
theorem cBk{es:List PE}(h:∀e∈es,PT s e.1∧PT s e.2)(hs:aPp es)(hk:bPn es):PT s (maT (fl es)):=by
 have hm:∀k∈fl es,PT s k:=fun k hk=>by
  obtain⟨e,he,rfl|rfl⟩:=L7.1 hk
  ·exact(h e he).1
  ·exact(h e he).2
 refine⟨eN.2 ⟨?_,fun k hk=>(hm k hk).wf⟩,?_⟩
 ·simp[nodeB,nK,gQ,LTerm.kind,LTerm.rest,LTerm.n,LTerm.text,LTerm.sort,LTerm.kids,nF]
 ·rw[lT];have hkf:=(aKq (t:=maT (fl es)) (es:=es) rfl).2 ⟨hs,hk⟩;simp only[LTerm.kind,LTerm.rest,LTerm.kids,Int.reduceEq,decide_false,aB,decide_true,aR,if_false,if_true,aD,bC];exact⟨fun k hk=>(hm k hk).pl,hkf⟩
theorem aWh(hv:iH s=true)(hi:SI s f W){C:CF}{L es left Q:List PE}(hC:∀k∈p.kids,CvC s f g W C k)(hpr:∀r∈p.rest,r.text=[95]∨r.sort=g r.text)(hpe:p.kids.length % 2=0)(hq:QW s f q)(h8:q.kind=8)(hqe:q.kids=fl Q)
 (ht:∀e∈L,PT s e.1∧PT s e.2) (hL:aPp L) (hLk:bPn L) (hP:L.Perm (es++left)) (hS:left.Sublist L) (hm:ML s W (fl Q) (fl es)) (hr:if q.rest=[]then left=[]else MB s W (q.rest.getD 0 default) (maT (fl left))) :
 ∀(m:Nat) (v:LSub) (tk:List Bool) (ch:List PE) (v':LSub),2*m≤p.kids.length→tk.length=Q.length→es.Perm (ch++lfE es tk)→IO s f W v→v'∈Q5 C s p q m v tk →
 (∀U,Agr s W v U→ML s U (p.kids.take (p.kids.length-2*m)) (fl ch)) →
 CR s f g W v v'∧∀U,Agr s W v' U→∃ep lp:List PE,L.Perm (ep++lp)∧lp.Sublist L∧ML s U p.kids (fl ep)∧(if p.rest=[]then lp=[]else MB s U (p.rest.getD 0 default) (maT (fl lp)))
 |0,v,tk,ch,v',_,htk,hch,ho,h,hu=>by
  rw[Nat.mul_zero,aIx,fH]at hu;have hLn:=A8 hL;have hP2:L.Perm (ch++(lfE es tk++left)):=hP.trans (by rw[← cM];exact hch.append_right left);obtain⟨lp,l1,l2,l3⟩:=aSb hLn hP2;rw[Q5,wB]at h;split at h
  ·rename_i hpr0;have hpn:p.rest=[]:=List.eq_nil_of_length_eq_zero hpr0;split at h
   ·rename_i hc;obtain rfl:=aP.1 h;refine⟨CR.refl ho,fun U hU=>⟨ch,lp,hP2.trans (l2.symm.append_left ch),l1,hu U hU,?_⟩⟩;rw[if_pos hpn];have hq0:q.rest=[]:=List.eq_nil_of_length_eq_zero hc.2;rw[if_pos hq0]at hr;have hlf:=C7 (aYq (tk:=tk) hm);have hc1:=hc.1;rw[hqe,bBx]at hc1;rw[hc1,nF]at hlf;have:(lfE es tk++left).length=0:=by rw[List.length_append,hr,bZ];omega
    exact List.eq_nil_of_length_eq_zero (by rw[l2.length_eq];exact this)
   ·cases h
  ·rename_i hpr0;have hpn:¬p.rest=[]:=fun e=>hpr0 (by rw[e];rfl);have hlp:aPp lp:=aQy l1 hL;have htl:PT s (maT (fl lp)):=cBk (fun e he=>ht e (l1.subset he)) hlp (aUc.2 fun e he=>aUc.1 hLk e (l1.subset he));have hZ:Gd s f (oI (aHl (leftOf q.kids tk) q.rest))∧MT s W (oI (aHl (leftOf q.kids tk) q.rest)) (maT (fl lp)):=by
    rw[hqe,bBx,oI];show Gd s f (if(fl (lfE Q tk)).length=0∧0<q.rest.length then q.rest.getD 0 default else aHl (fl (lfE Q tk)) q.rest)∧MT s W (if(fl (lfE Q tk)).length=0∧0<q.rest.length then q.rest.getD 0 default else aHl (fl (lfE Q tk)) q.rest) _;split
    ·rename_i hc;have hqn:¬q.rest=[]:=fE.1 hc.2;obtain⟨r1,r2⟩:=hq.rst (.inr h8) (lG hqn);rw[if_neg hqn]at hr;have hlf:=C7 (aYq (tk:=tk) hm);rw[hc.1,nF]at hlf;have hl0:lfE es tk=[]:=List.eq_nil_of_length_eq_zero (by omega);rw[hl0,aE]at l2;rw[bFk hlp (aQy hS hL) l2];exact⟨r2,(aZb r1).2 hr⟩
    ·refine⟨⟨eN.2 ⟨?_,fun x hx=>?_⟩,fun h=>absurd h (by simp[aHl,LTerm.kind])⟩,?_⟩
     ·have:=(eN.1 hq.nw).1;rw[nwB,aD]at this;simp only[nwB,aHl,LTerm.kind,LTerm.rest,aD];exact⟨by simp,this.2⟩
     ·obtain⟨e,he,hx⟩:=L7.1 hx;refine(eN.1 hq.nw).2 x ?_;rw[hqe];exact L7.2 ⟨e,aTw he,hx⟩
     ·rw[aHl,aPf,if_neg (by decide),if_neg (by decide),if_pos rfl];exact⟨rfl,lp,lfE es tk,left,rfl,l2,l3 left hS (fun e he=>eK _ he),aYq hm,hr⟩
   rw[Option.mem_toList]at h;obtain⟨a1,a2⟩:=aIe (g:=g) hv hi (hpr _ (lG hpn)) hZ.1 htl hZ.2 ho h;exact⟨a1,fun U hU=>⟨ch,lp,hP2.trans (l2.symm.append_left ch),l1,hu U (hU.of a1.ext),by rw[if_neg hpn];exact a2 U hU⟩⟩
 |m + 1,v,tk,ch,v',hle,htk,hch,ho,h,hu=>by
  rw[Q5]at h;obtain⟨j,hj,h⟩:=cH.1 h;rw[eC]at hj;split at h
  ·cases h
  rename_i hsk;rw[cB,not_or]at hsk;have hjf:tk.getD j false=false:=by simpa using hsk.1
  obtain⟨a,ha,h⟩:=cH.1 h;obtain⟨b,hb,h⟩:=cH.1 h;have hlen:Q.length=es.length:=by have:=C7 hm;rw[nF,nF]at this;omega
  have hjQ:j<Q.length:=by omega
  have hje:j<es.length:=by omega
  have m1:=aYs hm (i:=2*j) (by rw[nF];omega);have m2:=aYs hm (i:=2*j+1) (by rw[nF];omega);rw[xY hje]at m1;rw[aEd hje]at m2;have het:PT s (es.getD j default).1∧PT s (es.getD j default).2:=ht _ (hP.mem_iff.2 (dZ _ (cS hje)));have hqk:2*j+1<q.kids.length:=by rw[hqe,nF];omega
  have e0:p.kids.length-2*m=2*((p.kids.length-2*(m+1)) / 2+1):=by omega
  have e1:p.kids.length-2*(m+1)=2*((p.kids.length-2*(m+1)) / 2):=by omega
  rw[← hqe]at m1 m2;obtain⟨c1,c2⟩:=hC _ (cS (d:=default) (show p.kids.length-2*(m+1)<p.kids.length by omega)) v _ _ a (hq.kid (cS (by omega))) het.1 m1 ho ha;obtain⟨d1,d2⟩:=hC _ (cS (d:=default) (show p.kids.length-2*(m+1)+1<p.kids.length by omega)) a _ _ b (hq.kid (cS hqk)) het.2 m2 c1.io hb;have hch2:es.Perm ((ch++[es.getD j default])++lfE es (tk.set j true)):=by
   rw[cM];exact hch.trans (List.Perm.append_left ch (bGi hj (by omega) hjf))
  obtain⟨x1,x2⟩:=aWh hv hi hC hpr hpe hq h8 hqe ht hL hLk hP hS hm hr m b (tk.set j true) (ch++[es.getD j default]) v' (by omega) (by rw[List.length_set];exact htk) hch2 d1.io h (fun U hU=>by
   rw[e0,aJi (by omega),bGr,← e1];refine aYt (hu U ((hU.of d1.ext).of c1.ext)) ?_;simp only[fl,List.flatMap_cons,List.flatMap_nil,List.append_nil,ML,and_true];exact⟨c2 U (hU.of d1.ext),d2 U hU⟩)
  exact⟨(c1.trans d1).trans x1,x2⟩
structure PQ(g:Str→Str)(p:LTerm):Prop where
 pw:PW g p
 nd:wfT nodeB p=true
theorem PQ.kid{g:Str→Str}(h:PQ g p){k:LTerm}(hk:k∈p.kids):PQ g k:=⟨h.pw.kid hk,(eN.1 h.nd).2 k hk⟩
theorem bHz(hv:iH s=true)(hi:SI s f W):∀(n:Nat) (p:LTerm),PQ g p→CvC s f g W (oF s n) p
 |0,p,_=>fun v q t v' _ _ _ _ h=>by cases h
 |n + 1,p,hp=>fun v q t v' hq ht hm ho h=>by
  have IH:∀k∈p.kids,CvC s f g W (oF s n) k:=fun k hk=>bHz hv hi n k (hp.kid hk);have zp:=yY (eN.1 hp.nd).1;have zt:=ht.zn;rw[oF]at h;by_cases h6:p.kind=6
  ·rw[if_pos h6,Option.mem_toList]at h;obtain⟨a,b⟩:=aIe (g:=g) hv hi (hp.pw.var h6) hq.gd ht hm ho h;exact⟨a,fun U hU=>(aZb h6).2 (b U hU)⟩
  rw[if_neg h6]at h;split at h
  ·rename_i hc;by_cases h8:p.kind=8
   ·rw[if_pos h8]at h;have hq8:q.kind=8:=hc.1▸h8;have hm8:=hm;rw[nI,if_neg (by omega),if_neg (by omega),if_pos hq8]at hm8;obtain⟨g1,L,es,left,g2,g3,g4,g5,g6⟩:=hm8;obtain⟨L',k1,k2,k3⟩:=ht.map g1;obtain rfl:L=L':=uM (g2.symm.trans k1);obtain⟨Q,hQ⟩:=bMm (hq.pw.even hq8);have hpe:=hp.pw.even h8;have hQl:q.kids.length / 2=Q.length:=by rw[hQ,nF];omega
    have hQe:Q.length=es.length:=by have:=C7 g5;rw[hQ,nF,nF]at this;omega
    rw[hQl]at h;obtain⟨a,b⟩:=aWh (f:=f) (g:=g) hv hi IH (fun r hr=>(hp.pw.rst (.inr h8) hr).2) hpe hq hq8 hQ (fun e he=>⟨ht.kid (lP g2 he).1,ht.kid (lP g2 he).2⟩) k2 k3 g3 g4 (hQ▸g5) g6 (p.kids.length / 2) v _ [] v' (by omega) (by simp) (by rw[hQe,aKm];exact List.Perm.refl _) ho h (fun U _=>by
     rw[show p.kids.length-2*(p.kids.length / 2)=0 by omega,bS];simp[fl,ML])
    refine⟨a,fun U hU=>?_⟩;obtain⟨ep,lp,x1,x2,x3,x4⟩:=b U hU;rw[nI,if_neg (by omega),if_neg (by omega),if_pos h8];exact⟨g1,L,ep,lp,g2,x1,x2,x3,x4⟩
   ·rw[if_neg h8]at h
    split at h
    ·cases h
    rename_i hlen;rw[not_or]at hlen;obtain⟨a,ha,h⟩:=cH.1 h;by_cases h7:p.kind=7
    ·have hq7:q.kind=7:=hc.1▸h7;have hm7:=hm;rw[nI,if_neg (by omega),if_pos hq7]at hm7;obtain⟨g1,g2,g3,g4⟩:=hm7;have hml:ML s W (q.kids.take p.kids.length) (t.kids.take p.kids.length):=by
      have:=aYo (k:=p.kids.length) g3;rwa[List.take_take,Nat.min_eq_left (by omega)]at this
     obtain⟨b1,b2⟩:=aIf (f:=f) (g:=g) IH (fun x hx=>hq.kid (dI hx)) (fun x hx=>ht.kid (dI hx)) (by rw[cN];omega) hml ho ha;rw[aWg]at h;split at h
     ·rename_i hr;obtain rfl:=aP.1 h;have hrn:p.rest=[]:=List.eq_nil_of_length_eq_zero hr;have h9:=hlen.2;rw[not_and,R0]at h9;have h9:=h9 hr;have hqn:q.rest=[]:=List.eq_nil_of_length_eq_zero h9.2;rw[if_pos hqn]at g4;refine⟨b1,fun U hU=>?_⟩;rw[nI,if_neg (by omega),if_pos h7,if_pos hrn];exact⟨g1,by omega,b2 U hU,by omega⟩
     ·rename_i hr;have hrn:¬p.rest=[]:=fun e=>hr (by rw[e];rfl);rw[Option.mem_toList]at h;obtain⟨z1,z2⟩:=aTz hq hq7 hm (k:=p.kids.length) (by omega);obtain⟨c1,c2⟩:=aIe (g:=g) hv hi (hp.pw.rst (.inl h7) (lG hrn)).2 z1 (cBl fun x hx=>ht.kid (gK hx)) z2 b1.io h;refine⟨b1.trans c1,fun U hU=>?_⟩;rw[nI,if_neg (by omega),if_pos h7,if_neg hrn];exact⟨g1,by omega,b2 U (hU.of c1.ext),c2 U hU⟩
    ·have hr0:p.rest=[]:=by
      by_cases h5:p.kind=5
      ·exact(zp.c h5).2.2
      ·have:=zp.f;by_cases h12:p.kind=1∨p.kind=2
       ·exact(zp.a h12).2.2.2
       ·exact(zp.b (by omega)).2.2.2
     rw[aWg,if_pos (by rw[hr0];rfl)]at h;obtain rfl:=aP.1 h;have h9:=hlen.2;rw[not_and,R0]at h9;have h9:=h9 (by rw[hr0];rfl);by_cases h5:p.kind=5
     ·have hq5:q.kind=5:=hc.1▸h5;have hm5:=hm;rw[nI,if_pos hq5]at hm5;rw[show q.kids.take p.kids.length=q.kids by rw[h9.1,fH]]at ha;obtain⟨b1,b2⟩:=aIf (f:=f) (g:=g) IH (fun x hx=>hq.kid hx) (fun x hx=>ht.kid hx) h9.1 hm5.2.2 ho ha;refine⟨b1,fun U hU=>?_⟩;rw[nI,if_pos h5];exact⟨hm5.1,by rw[hm5.2.1,hc.2.2],b2 U hU⟩
     ·have hpk:=aHq (eN.1 hp.nd).1 h5 h7 h8;rw[hpk]at ha;simp only[M9,aP]at ha;subst ha;refine⟨CR.refl ho,fun U _=>?_⟩;have hmq:=hm;rw[nI,if_neg (by omega),if_neg (by omega),if_neg (by omega),if_neg (by omega)]at hmq;subst hmq;rw[nI,if_neg h5,if_neg h7,if_neg h8,if_neg h6];have:=zp.f;refine P4 hc.1 hc.2.1 hc.2.2 ?_ ?_ ?_;all_goals
       by_cases h12:p.kind=1∨p.kind=2
       ·have z1:=zp.a h12;have z2:=zt.a (by omega);simp[z1,z2]
       ·have z1:=zp.b (by omega);have z2:=zt.b (by omega);simp[z1,z2]
  ·cases h
end
structure IdV(g:Str→Str)(v:LSub):Prop where
 at':∀x q,mOf v x=some q→q=.mk 6 0 x (g x) [] []
 noW:NoW v
def bFa(g:Str→Str)(C:CF)(p:LTerm):Prop:=∀c v,IdV g v→∃v'∈C v p (alT p c).1,IdV g v'
theorem aYg{p:LTerm}{c:Nat}(h:¬(p.kind=6∧p.text=[95]))(hk:p.kids=[]):(alT p c).1=p:=by
 rw[vK,if_neg h];exact P4 rfl rfl rfl rfl (by show(alL p.kids c).1=p.kids;rw[hk,alL]) rfl
theorem aMp:∀{l:List LTerm} {i c:Nat},i<l.length→∃c',(alL l c).1.getD i default=(alT (l.getD i default) c').1
 |t::l,0,c,_=>⟨c,by rw[alL];rfl⟩
 |t::l,i+1,c,h=>by
  obtain⟨c',e⟩:=aMp (l:=l) (i:=i) (c:=(alT t c).2) (by simpa using h);exact⟨c',by rw[alL,dF,dF];exact e⟩
 | [],_,_,h=>by simp at h
section
variable {s:dK} {g:Str→Str} {p:LTerm}
theorem W8{r:LTerm}(h6:r.kind=6)(hw:¬r.text=[95])(hs:r.sort=g r.text)(he:existsA s r.sort=true)(hz:r.n=0∧r.kids=[]∧r.rest=[]){v:LSub}(hv:IdV g v):∃v',G5 s v r r=some v'∧IdV g v':=by
 have hr:r=.mk 6 0 r.text (g r.text) [] []:=P4 h6 hz.1 rfl hs hz.2.1 hz.2.2;rw[G5,if_pos (by rw[aJm h6 he];exact N9 he),if_neg hw];cases ho:mOf v r.text with
 |some o=>
  dsimp only;rw[if_pos (by rw[hv.at' _ _ ho];exact hr.symm)];exact⟨v,rfl,hv⟩
 |none=>
  refine⟨_,rfl,fun x q hx=>?_,?_⟩
  ·rw[B6]at hx;cases hxv:mOf v x with
   |some o=>rw[hxv]at hx;cases hx;exact hv.at' x _ hxv
   |none=>
    rw[hxv,sZ]at hx;dsimp only at hx;split at hx
    ·rename_i e;cases hx;rw[← e];exact hr
    ·simp[mOf]at hx
  ·show mOf _ _=none;rw[B6,show mOf v [95]=none from hv.noW,sZ,if_neg hw];rfl
theorem aEo{C:CF}:∀{ps:List LTerm} {c:Nat} {v:LSub},(∀p∈ps,bFa g C p)→IdV g v→∃v'∈M9 C v ps (alL ps c).1,IdV g v'
 | [],c,v,_,hv=>⟨v,by rw[alL,M9];exact aP.2 rfl,hv⟩
 |p::ps,c,v,hC,hv=>by
  obtain⟨a,ha,h1⟩:=hC p dC c v hv;obtain⟨b,hb,h2⟩:=aEo (ps:=ps) (c:=(alT p c).2) (fun x hx=>hC x (bU _ hx)) h1;exact⟨b,by rw[alL,M9];exact cH.2 ⟨a,ha,hb⟩,h2⟩
theorem aDq:∀{ks:List LTerm} {tk:List Bool},(∀x∈tk,x=true)→leftOf ks tk=[]
 |a::b::l,x::tk,h=>by
  rw[leftOf,if_pos (h x dC)];exact aDq fun y hy=>h y (bU _ hy)
 | [],tk,_=>by cases tk<;>rfl
 | [_],tk,_=>by cases tk<;>rfl
 |_::_::_,[],_=>rfl
theorem aRe{k:LTerm}{c:Nat}{v:LSub}(hk:KOk g k)(hz:ZN k)(hleaf:isKey k=true→k.kids=[])(hv:IdV g v):wV v k (alT k c).1=false:=by
 rw[wV,C2];rcases hk.key with h6|hK
 ·rw[if_pos h6]
  cases ho:mOf v k.text with
  |none=>rfl
  |some o=>
   have hw:¬k.text=[95]:=fun e=>by rw[e,show mOf v [95]=none from hv.noW]at ho;cases ho
   have z:=hz.d h6;rw[aYg (fun h=>hw h.2) z.2.1];have e:o=k:=by
    rw[hv.at' _ _ ho];exact(show k=.mk 6 0 k.text (g k.text) [] []from P4 h6 z.1 rfl ((hk.sg h6).resolve_left hw) z.2.1 z.2.2).symm
   dsimp only;rw[e];simp
 ·have h6:¬k.kind=6:=by simp only[isKey,cB,decide_eq_true_eq]at hK;omega
  rw[if_neg h6,aYg (fun h=>h6 h.1) (hleaf hK)];simp
theorem aEp{C:CF}{c:Nat}{q:LTerm}(hq:q.kids=(alL p.kids c).1)(hqr:q.rest=p.rest)(hC:∀k∈p.kids,bFa g C k)(hK:∀i,2*i+1<p.kids.length→KOk g (p.kids.getD (2*i) default)∧ZN (p.kids.getD (2*i) default)∧(isKey (p.kids.getD (2*i) default)=true→(p.kids.getD (2*i) default).kids=[]))
 (hev:p.kids.length % 2=0) (hr:∀r∈p.rest,∀v,IdV g v→∃v',G5 s v r r=some v'∧IdV g v') (hr1:p.rest.length≤1) :
 ∀(m:Nat) (v:LSub) (tk:List Bool),2*m≤p.kids.length→tk.length=p.kids.length / 2→(∀j,j<tk.length→tk.getD j false=decide (j<p.kids.length / 2-m))→IdV g v→∃v'∈Q5 C s p q m v tk,IdV g v'
 |0,v,tk,_,htk,ht,hv=>by
  have hall:∀x∈tk,x=true:=fun x hx=>by
   obtain⟨j,hj,rfl⟩:=dJ.1 hx;have:=ht j hj;rw[cW,bO hj,fG,zt (by omega)]at this;exact this
  rw[Q5,wB,aDq hall,hqr];by_cases hr0:p.rest.length=0
  ·rw[if_pos hr0,if_pos ⟨rfl,hr0⟩];exact⟨v,aP.2 rfl,hv⟩
  ·rw[if_neg hr0];have hrn:¬p.rest=[]:=fun e=>hr0 (by rw[e];rfl);obtain⟨v',h1,h2⟩:=hr _ (lG hrn) v hv;have e:oI (aHl [] p.rest)=p.rest.getD 0 default:=by
    rw[oI];exact if_pos ⟨rfl,fE.2 hrn⟩
   exact⟨v',by rw[e,h1];simp,h2⟩
 |m + 1,v,tk,hle,htk,ht,hv=>by
  have hj:p.kids.length / 2-(m+1)<tk.length:=by omega
  have e1:p.kids.length-2*(m+1)=2*(p.kids.length / 2-(m+1)):=by omega
  generalize hJ:p.kids.length / 2-(m+1)=J at *
  obtain⟨k1,k2,k3⟩:=hK J (by omega);obtain⟨c1,d1⟩:=aMp (l:=p.kids) (i:=2*J) (c:=c) (by omega);obtain⟨c2,d2⟩:=aMp (l:=p.kids) (i:=2*J+1) (c:=c) (by omega);obtain⟨a,ha,ia⟩:=hC _ (cS (d:=default) (show 2*J<p.kids.length by omega)) c1 v hv;obtain⟨b,hb,ib⟩:=hC _ (cS (d:=default) (show 2*J+1<p.kids.length by omega)) c2 a ia;obtain⟨w,hw,iw⟩:=aEp hq hqr hC hK hev hr hr1 m b (tk.set J true) (by omega) (by rw[List.length_set];exact htk) (fun j hj2=>by
   rw[List.length_set]at hj2;by_cases hjJ:J=j
   ·subst hjJ;rw[cW,iZ hj,fG,zt (by omega)]
   ·rw[cW,eA hjJ,← cW,ht j hj2];exact decide_eq_decide.2 (by omega)) ib
  refine⟨w,?_,iw⟩;rw[Q5];refine cH.2 ⟨J,eC.2 hj,?_⟩;rw[e1,hq,d1,d2,aRe k1 k2 k3 hv,ht J hj,zf (by omega),if_neg (by simp)];exact cH.2 ⟨a,ha,cH.2 ⟨b,hb,hw⟩⟩
theorem bFl(s:dK):∀(n:Nat) (p:LTerm),PQ g p→wfT (exC s) p=true→nodesT p≤n→bFa g (oF s n) p
 |0,p,_,_,h=>by rw[eW]at h;omega
 |n + 1,p,hp,hex,hn=>fun c v hv=>by
  have hno:=eW p;have hex':=eN.1 hex;have hnd:=eN.1 hp.nd;have zp:=yY hnd.1;have IH:∀k∈p.kids,bFa g (oF s n) k:=fun k hk=>bFl s n k (hp.kid hk) (hex'.2 k hk) (by have:=(iI hk).1;omega);have hxr:∀r∈p.rest,existsA s r.sort=true:=fun r hr=>by
   have:=hex'.1;rw[exC,aD]at this;have:=bC.1 this.2 r hr;simp only[aD]at this;exact this.1
  rw[vK,oF];by_cases h6:p.kind=6
  ·rw[if_pos h6]
   by_cases hw:p.text=[95]
   ·rw[if_pos ⟨h6,hw⟩];have hs:p.sort=anyS:=by
     have:=hnd.1;simp only[nodeB,h6,Int.reduceEq,if_true,if_false]at this;rw[if_pos (by rw[xE,zt hw];rfl)]at this;simp only[aD,decide_eq_true_eq]at this;exact this.1.trans rfl
    exact⟨v,by rw[G5,hs,if_pos V9,if_pos hw];simp,hv⟩
   ·rw[if_neg (fun h=>hw h.2)];have e:(LTerm.mk p.kind p.n p.text p.sort (alL p.kids c).1 p.rest)=p:=P4 rfl rfl rfl rfl (by show(alL p.kids c).1=p.kids;rw[(zp.d h6).2.1,alL]) rfl;have he:=hex'.1;rw[exC,zt h6,aA,dD,aD]at he;obtain⟨v',h1,h2⟩:=W8 (s:=s) h6 hw ((hp.pw.var h6).resolve_left hw) he.1 (zp.d h6) hv;exact⟨v',by dsimp only;rw[e,h1];simp,h2⟩
  rw[if_neg h6,if_neg (show ¬(p.kind=6∧p.text=[95])from fun h=>h6 h.1)];dsimp only;rw[if_pos ⟨rfl,rfl,rfl⟩];show ∃v'∈(if p.kind=8 then Q5 (oF s n) s p (LTerm.mk p.kind p.n p.text p.sort (alL p.kids c).1 p.rest) (p.kids.length / 2) v (List.replicate ((alL p.kids c).1.length / 2) false)
   else if(alL p.kids c).1.length<p.kids.length∨(p.rest.length=0∧¬(p.kids.length=(alL p.kids c).1.length∧p.rest.length=0))then []
   else(M9 (oF s n) v p.kids ((alL p.kids c).1.take p.kids.length)).flatMap fun v=>aWg s v p (LTerm.mk p.kind p.n p.text p.sort (alL p.kids c).1 p.rest)),IdV g v'
  have hlen:=tT p.kids c;by_cases h8:p.kind=8
  ·rw[if_pos h8,hlen]
   have hev:=hp.pw.even h8;refine aEp (q:=LTerm.mk p.kind p.n p.text p.sort (alL p.kids c).1 p.rest) (c:=c) rfl rfl IH (fun i hi=>?_) hev (fun r hr v hv=>?_) ?_ (p.kids.length / 2) v (List.replicate (p.kids.length / 2) false) (by omega) (by simp) (fun j hj=>?_) hv
   ·have hm:=cS (d:=default) (show 2*i<p.kids.length by omega);have hnk:=(eN.1 (hnd.2 _ hm)).1;refine⟨hp.pw.key h8 i hi,yY hnk,fun hk=>?_⟩;simp only[isKey,cB,decide_eq_true_eq]at hk;exact aHq hnk (by omega) (by omega) (by omega)
   ·obtain⟨r1,r2⟩:=hp.pw.rst (.inr h8) hr;obtain⟨z1,z2,z3⟩:=xH hnd.1 r hr;have hnw:¬r.text=[95]:=fun e=>by
     have:=hnd.1;simp only[nodeB,h8,Int.reduceEq,if_true,if_false,nK,aD,cB,decide_eq_true_eq]at this;obtain⟨i,hi,rfl⟩:=dJ.1 hr;have h1:=this.1.1.resolve_left (by omega);have hi0:i=0:=by omega
     subst hi0;have h2:=h1.1.1.2;rw[cW,bO hi,fG,e]at h2;exact absurd h2 (by decide)
    exact W8 r1 hnw (r2.resolve_left hnw) (hxr r hr) ⟨(z1.d r1).1,z2,z3⟩ hv
   ·exact qE p hnd.1
   ·simp only[List.length_replicate]at hj;rw[cW,jY,if_pos hj,fG,zf (by omega)]
  rw[if_neg h8,if_neg (by rw[hlen];omega)];obtain⟨a,ha,ia⟩:=aEo (ps:=p.kids) (c:=c) IH hv;have ha2:a∈M9 (oF s n) v p.kids ((alL p.kids c).1.take p.kids.length):=by rw[← hlen,fH];exact ha
  by_cases hr0:p.rest.length=0
  ·exact⟨a,cH.2 ⟨a,ha2,by rw[aWg,if_pos hr0];exact aP.2 rfl⟩,ia⟩
  ·have hrn:¬p.rest=[]:=fun e=>hr0 (by rw[e];rfl);have h7:p.kind=7:=by
    have:=zp.f;by_cases h5:p.kind=5
    ·exact absurd (zp.c h5).2.2 hrn
    by_cases h12:p.kind=1∨p.kind=2
    ·exact absurd (zp.a h12).2.2.2 hrn
    by_cases h34:p.kind=3∨p.kind=4
    ·exact absurd (zp.b h34).2.2.2 hrn
    omega
   have hr:=lG hrn;obtain⟨r1,r2⟩:=hp.pw.rst (.inl h7) hr;obtain⟨z1,z2,z3⟩:=xH hnd.1 _ hr;have hnw:¬(p.rest.getD 0 default).text=[95]:=fun e=>by
    have:=hnd.1;simp only[nodeB,h7,Int.reduceEq,if_true,if_false,nK,aD,cB,decide_eq_true_eq]at this;have h1:=this.1.resolve_left (by omega);have h2:=h1.1.1.2;rw[e]at h2;exact absurd h2 (by decide)
   obtain⟨v',h1,h2⟩:=W8 (s:=s) r1 hnw (r2.resolve_left hnw) (hxr _ hr) ⟨(z1.d r1).1,z2,z3⟩ ia;refine⟨v',cH.2 ⟨a,ha2,?_⟩,h2⟩;rw[aWg,if_neg hr0];have e:oI (uV ((alL p.kids c).1.drop p.kids.length) p.rest)=p.rest.getD 0 default:=by
    rw[oI];exact if_pos ⟨by show((alL p.kids c).1.drop p.kids.length).length=0;rw[dS,hlen];omega,fE.2 hrn⟩
   show v'∈(G5 s a (p.rest.getD 0 default) (oI (uV ((alL p.kids c).1.drop p.kids.length) p.rest))).toList;rw[e,h1];simp
end
structure bOz(s:dK)(g:Str→Str)(p:LTerm):Prop where
 nd:wfT nodeB p=true
 pw:wfT pwB p=true
 ex:wfT (exC s) p=true
 sg:wfT (sgB g) p=true
theorem xI{x:Str}(h:isName x=true):¬x.head? = some 95:=fun e=>by
 cases x with
 |nil=>cases e
 |cons c r=>
  cases e;rw[isName]at h;simp only[aD]at h;exact absurd h.1.2 (by show ¬aDp (at_ (95::r) 0)=true;rw[show at_ (95::r) 0=95 from rfl];decide)
theorem aDk{x:Str}(h:isName x=true):¬x=[95]:=fun e=>xI h (by rw[e];rfl)
theorem wY{t:LTerm}(h:nodeB t=true):∀r∈t.rest,r.kind=6∧isName r.text=true∧(r.sort=rY∨r.sort=E7)∧r.kids=[]∧r.rest=[]:=by
 have z:∀{a b c d},gQ t a b c d false=true→t.rest=[]:=fun h=>(pM h).2.2.2.2 rfl;have rb:∀{so},nK t so=true→(so=rY∨so=E7)→∀r∈t.rest,r.kind=6∧isName r.text=true∧(r.sort=rY∨r.sort=E7)∧r.kids=[]∧r.rest=[]:=by
  intro so h hso r hr;obtain⟨_,z2,z3⟩:=aGm h r hr;simp only[nK,cB,aD,decide_eq_true_eq]at h;obtain⟨i,hi,rfl⟩:=dJ.1 hr;rcases h with h|h
  ·omega
  ·have hi0:i=0:=by omega
   subst hi0;rw[show t.rest.getD 0 default=t.rest[0] by rw[cW,bO hi];rfl]at h;exact⟨h.1.1.1.2,h.1.1.2,by rw[h.1.2];exact hso,z2,z3⟩
 unfold nodeB at h;repeat' split at h
 all_goals try simp only[aD]at h
 all_goals first
  |exact rb h.1 (.inl rfl)
  |exact rb h.1.1 (.inr rfl)
  |(rw[z h.2];intro r hr;cases hr)
  |cases h
theorem bYp{s:dK}:∀(p:LTerm),wfT nodeB p=true→xQ p=true→tE s p=true→wfT pwB p=true∧wfT (exC s) p=true:=
 fW (Q := fun p=>wfT nodeB p=true→xQ p=true→tE s p=true→wfT pwB p=true∧wfT (exC s) p=true) fun t hk _ hw hkr hf=>by
  have hw':=eN.1 hw;rw[aKr,mY]at hkr;have hk1:∀j,j<t.kids.length→xQ (t.kids.getD j default)=true∧bMa (decide (t.kind=8)) j (t.kids.getD j default)=true:=fun j hj=>by
   have:=hkr j hj;rwa[aD]at this
  rw[aKw,aD,bC]at hf;have IH:∀k∈t.kids,wfT pwB k=true∧wfT (exC s) k=true:=fun k hm=>by
   obtain⟨j,hj,rfl⟩:=dJ.1 hm;have e:t.kids[j]=t.kids.getD j default:=by simp[List.getD,hj]
   exact hk _ hm (hw'.2 _ hm) (by rw[e];exact(hk1 j hj).1) (hf.1 _ hm)
  have hrn:=wY hw'.1;refine⟨eN.2 ⟨?_,fun k hm=>(IH k hm).1⟩,eN.2 ⟨?_,fun k hm=>(IH k hm).2⟩⟩
  ·rw[pwB,aD]
   constructor
   ·rw[cB,aD];exact .inr ⟨zt (qE t hw'.1),bC.2 fun r hr=>zt (hrn r hr).1⟩
   ·by_cases h8:t.kind=8
    ·rw[zt h8,aA,dD,aD,bC,decide_eq_true_eq];refine⟨aTh hw'.1 h8,fun i hi=>?_⟩;rw[eC]at hi;have h2:=(hk1 (2*i) (by omega)).2;rw[bMa,zt h8,aR,zt (by omega:2*i % 2=0),aR]at h2;by_cases h6:(t.kids.getD (2*i) default).kind=6
     ·rw[zt h6,bG]
     ·rw[zf h6,aB,bG,bA,Bool.not_not]at h2;rw[h2,bH]
    ·rw[zf h8];rfl
  ·rw[exC,aD,bC]
   refine⟨?_,fun r hr=>?_⟩
   ·by_cases h6:t.kind=6
    ·have:=hf.2;rw[if_pos h6]at this;rw[this,bH]
    ·rw[zf h6];rfl
   ·obtain⟨_,_,h3,h4,h5⟩:=hrn r hr;rw[h4,h5,rH (by rcases h3 with e|e<;>rw[e]<;>decide)];rfl
theorem bYf{g:Str→Str}:∀(t:LTerm),wfT nodeB t=true→∀d:Int,((vis t d).any fun v=>isV v.1 && !decide (v.1.sort=g v.1.text))=false→wfT (sgB g) t=true:=
 fW (Q := fun t=>wfT nodeB t=true→∀d:Int,((vis t d).any fun v=>isV v.1 && !decide (v.1.sort=g v.1.text))=false→wfT (sgB g) t=true) fun t hk _ hw d h=>by
  have hw':=eN.1 hw;rw[wE (f:=fun x=>isV x && !decide (x.sort=g x.text)),jV,gV]at h;have one:∀x:LTerm,(isV x && !decide (x.sort=g x.text))=false→x.kind=6→x.text=[95]∨x.sort=g x.text:=fun x hx h6=>by
   rw[isV,zt h6,aR]at hx;by_cases hw:x.text=[95]
   ·exact .inl hw
   ·rw[zf hw]at hx;exact .inr (by simpa using hx)
  refine eN.2 ⟨?_,fun k hm=>hk k hm (hw'.2 k hm) (d+1) (by have:=h.2 k (dZ _ hm);simpa using this)⟩;rw[sgB,aD,bC];refine⟨?_,fun r hr=>?_⟩
  ·by_cases h6:t.kind=6
   ·have:=one t h.1 h6;simp[this]
   ·rw[zf h6];rfl
  ·have hr2:=h.2 r (eK _ hr);rw[pL,wE (f:=fun x=>isV x && !decide (x.sort=g x.text)),jV]at hr2;have:=one r hr2.1 (wY hw'.1 r hr).1;simp[this]
theorem aJe:∀(t:LTerm),wfT nodeB t=true→∀d:Int,((vis t d).any fun v=>isV v.1&&decide (v.1.text.head? = some 95))=false:=
 fW (Q := fun t=>wfT nodeB t=true→∀d:Int,((vis t d).any fun v=>isV v.1&&decide (v.1.text.head? = some 95))=false) fun t hk _ hw d=>by
  have hw':=eN.1 hw;have one:∀x:LTerm,(x.kind=6→x.text=[95]∨x.text=[36]∨isName x.text=true)→(isV x&&decide (x.text.head? = some 95))=false:=fun x hx=>by
   by_cases h6:x.kind=6
   ·rcases hx h6 with e|e|e
    ·simp[isV,e]
    ·simp[e]
    ·rw[zf (xI e),aS]
   ·simp[isV,h6]
  rw[wE (f:=fun x=>isV x&&decide (x.text.head? = some 95)),jV,gV];refine⟨one t fun h6=>?_,fun k hm=>?_⟩
  ·have:=hw'.1;simp only[nodeB,h6,Int.reduceEq,if_true,if_false]at this;split at this
   ·rename_i ho;simp only[xE,cB,decide_eq_true_eq]at ho;rcases ho with e|e
    ·exact .inl e
    ·exact .inr (.inl e)
   ·simp only[aD]at this;exact .inr (.inr this.1.1)
  ·rw[pL];rcases cQ.1 hm with hm|hm
   ·exact hk k hm (hw'.2 k hm) (d+1)
   ·obtain⟨r1,r2,_,r4,r5⟩:=wY hw'.1 k hm;rw[wE (f:=fun x=>isV x&&decide (x.text.head? = some 95)),r4,r5,one k fun _=>.inr (.inr r2)];rfl
theorem aSj{s:dK}{p:LTerm}(z:Str)(h:D3 s p=true):∃g:Str→Str,bOz s (fun x=>if x.head? = some 95 then z else g x) p:=by
 rw[D3,aD,bAs,bYs]at h;simp only[aD,eG]at h;obtain⟨_,⟨hV,hf⟩,_,hk,_,ho⟩:=h;have hw:=uA hV;obtain⟨h1,h2⟩:=bYp p hw hk hf;have hc:=(aTb (l:=G4 p) (fun a ha b hb e=>aSn (wJ hw ha) (wJ hw hb) e)).1 ho;let g:Str→Str:=fun x=>match (G4 p).find? fun v=>decide (v.text=x)with
  |some v=>v.sort
  |none=>[]
 have hg:∀v∈G4 p,v.sort=g v.text:=fun v hv=>by
  show v.sort=match (G4 p).find? fun w=>decide (w.text=v.text)with|some v=>v.sort|none=>[]
  cases hx:(G4 p).find? fun w=>decide (w.text=v.text)with
  |none=>
   rw[F7]at hx;exact absurd (zt rfl) (hx v hv)
  |some w=>
   have hw1:=List.find?_some hx;have hw2:=lB hx;simp only[decide_eq_true_eq]at hw1;exact hc _ (dX.2 ⟨v,hv,rfl⟩) _ (dX.2 ⟨w,hw2,rfl⟩) hw1.symm
 refine⟨g,hw,h1,h2,bYf p hw 1 ?_⟩;rw[gV];intro v hv hb;rw[aD]at hb;have hm:v.1∈G4 p:=rN.2 ⟨dX.2 ⟨v,hv,rfl⟩,hb.1⟩;have h6:=(wJ hw hm).2;have hw0:¬v.1.text=[95]:=by have:=hb.1;rw[isV,aD]at this;simpa using this.2
 have hh:¬v.1.text.head? = some 95:=by
  have:=gV.1 (aJe p hw 1) v hv;rw[hb.1,aR,decide_eq_true_eq]at this;exact this
 have e:v.1.sort=(if v.1.text.head? = some 95 then z else g v.1.text):=by rw[if_neg hh];exact hg _ hm
 have h9:=hb.2;rw[← e]at h9;simp at h9
theorem bOu(t:LTerm)(c:Nat):(alT t c).1.kind=t.kind:=by rw[vK];split<;>rfl
theorem aYh{x:LTerm}:∀{l:List LTerm} {c:Nat},x∈(alL l c).1→∃k∈l,∃c',x=(alT k c').1
 | [],c,h=>by rw[alL]at h;cases h
 |t :: l,c,h=>by
  rw[alL]at h;rcases dA.1 h with rfl|h
  ·exact⟨t,dC,c,rfl⟩
  ·obtain⟨k,hk,c',e⟩:=aYh h;exact⟨k,bU _ hk,c',e⟩
def fA(g:Str→Str)(x:Str):Str:=if x.head? = some 95 then anyS else g x
theorem cBh{s:dK}{g:Str→Str}{z:Str}:∀(p:LTerm),bOz s (fun x=>if x.head? = some 95 then z else g x) p→∀c,QW s (fA g) (alT p c).1:=
 fW (Q := fun p=>bOz s (fun x=>if x.head? = some 95 then z else g x) p→∀c,QW s (fA g) (alT p c).1) fun p hk _ hp c=>by
  have hnd:=eN.1 hp.nd;have hpw:=eN.1 hp.pw;have hex:=eN.1 hp.ex;have hsg:=eN.1 hp.sg;have hrn:=wY hnd.1;have kid:∀k∈p.kids,∀c,QW s (fA g) (alT k c).1:=fun k hm=>hk k hm ⟨hnd.2 k hm,hpw.2 k hm,hex.2 k hm,hsg.2 k hm⟩;have hZ:=yY hnd.1;by_cases hw:p.kind=6∧p.text=[95]
  ·have z1:=hZ.d hw.1;have e:(alT p c).1=.mk 6 0 (nm (c+1)) anyS [] []:=by
    rw[vK,if_pos hw];have hs:p.sort=anyS:=by
     have:=hnd.1;simp only[nodeB,hw.1,Int.reduceEq,if_true,if_false]at this;rw[if_pos (by rw[xE,zt hw.2];rfl)]at this;simp only[aD,decide_eq_true_eq]at this;exact this.1.trans rfl
    exact P4 hw.1 z1.1 rfl hs z1.2.1 z1.2.2
   rw[e];have nk:∀k∈(LTerm.mk 6 0 (nm (c+1)) anyS [] []).kids,False:=fun k h=>by cases h
   refine⟨⟨eN.2 ⟨?_,fun k h=>(nk k h).elim⟩,eN.2 ⟨?_,fun k h=>(nk k h).elim⟩⟩,eN.2 ⟨?_,fun k h=>(nk k h).elim⟩,eN.2 ⟨?_,fun k h=>(nk k h).elim⟩⟩
   ·simp[pwB,LTerm.kind]
   ·have:fA g (nm (c+1))=anyS:=by rw[fA];exact if_pos rfl
    simp[sgB,LTerm.kind,LTerm.text,LTerm.sort,LTerm.rest,this]
   ·have:=aTe (c+1);simp[nwB,LTerm.kind,LTerm.text,LTerm.rest,this]
   ·simp[exC,LTerm.kind,LTerm.sort,LTerm.rest,bIf]
  ·have e:(alT p c).1=.mk p.kind p.n p.text p.sort (alL p.kids c).1 p.rest:=by rw[vK,if_neg hw]
   rw[e];have mem:∀x∈(LTerm.mk p.kind p.n p.text p.sort (alL p.kids c).1 p.rest).kids,QW s (fA g) x:=fun x hx=>by
    obtain⟨k,hm,c',rfl⟩:=aYh hx;exact kid k hm c'
   have hl:=tT p.kids c;refine⟨⟨eN.2 ⟨?_,fun k h=>(mem k h).pw.pw⟩,eN.2 ⟨?_,fun k h=>(mem k h).pw.sg⟩⟩,eN.2 ⟨?_,fun k h=>(mem k h).nw⟩,eN.2 ⟨?_,fun k h=>(mem k h).ex⟩⟩
   ·have h1:=hpw.1;rw[pwB,aD]at h1 ⊢;refine⟨h1.1,?_⟩;have h2:=h1.2;show(!decide (p.kind=8)||(decide ((alL p.kids c).1.length % 2=0)&&(List.range ((alL p.kids c).1.length / 2)).all fun i=>decide (((alL p.kids c).1.getD (2*i) default).kind=6)||isKey ((alL p.kids c).1.getD (2*i) default)))=true;rw[hl];by_cases h8:p.kind=8
    ·rw[zt h8,aA,dD,aD,bC]at h2 ⊢;refine⟨h2.1,fun i hi=>?_⟩;have h3:=h2.2 i hi;rw[eC]at hi;obtain⟨c',e'⟩:=aMp (l:=p.kids) (i:=2*i) (c:=c) (by omega);rw[e',isKey,bOu];exact h3
    ·rw[zf h8];rfl
   ·have h1:=hsg.1;rw[sgB,aD]at h1 ⊢;refine⟨?_,?_⟩
    ·show(!decide (p.kind=6)||(decide (p.text=[95])||decide (p.sort=fA g p.text)))=true;by_cases h6:p.kind=6
     ·have h2:=h1.1;rw[zt h6,aA,dD,cB,decide_eq_true_eq,decide_eq_true_eq]at h2 ⊢;have hnw:¬p.text=[95]:=fun e=>hw ⟨h6,e⟩;have hh:¬p.text.head? = some 95:=by
       have:=gV.1 (aJe p hp.nd 1) (p,1) (by rw[vB];exact dC);simpa[isV,h6,hnw]using this
      have h3:=h2.resolve_left hnw;rw[if_neg hh]at h3;exact .inr (by rw[fA,if_neg hh];exact h3)
     ·rw[zf h6];rfl
    ·show(p.rest.all fun r=>decide (r.text=[95])||decide (r.sort=fA g r.text))=true;rw[bC];intro r hr;have h2:=bC.1 h1.2 r hr;have hnr:=(hrn r hr).2.1;rw[cB,decide_eq_true_eq,decide_eq_true_eq]at h2 ⊢;have h3:=h2.resolve_left (aDk hnr);rw[if_neg (xI hnr)]at h3;exact .inr (by rw[fA,if_neg (xI hnr)];exact h3)
   ·rw[nwB,aD,bC];refine⟨?_,fun r hr=>?_⟩
    ·show(!(decide (p.kind=6)&&decide (p.text=[95])))=true;rw[← Bool.decide_and,zf hw];rfl
    ·have:=aDk (hrn r hr).2.1;simp[this]
   ·exact hex.1
theorem Z0{s:dK}(hv:iH s=true)(y:Str):iQ s y []=false:=by
 rcases lY (existsA s y)with h|h
 ·rw[dG]
  intro e;rcases(qO h).1 e with e|e
  ·cases e
  ·have:=(wK hv).up_ex e h;rw[existsA,eY,keysOf]at this;rcases cQ.1 this with h1|h1
   ·exact absurd h1 (by decide)
   ·have:=((wK hv).fresh _ h1).1;cases this
 ·rw[iQ,aBh,h];rfl
theorem aHo{T:LTerm→LTerm}:∀{u:LSub} {x:Str},mOf (u.map fun e=>(e.1,T e.2)) x=(mOf u x).map T
 | [],x=>by simp[mOf]
 |e::u,x=>by
  rw[aQ,sZ,sZ];dsimp only;split
  ·rfl
  ·exact aHo
theorem cBj{s:dK}{t:LTerm}(h:jW s t=true):PT s t:=by
 rw[jW,aD]at h;exact⟨uA h.1,h.2⟩
theorem aZx{s:dK}{p:LTerm}(h:D3 s p=true):lX s p p=(true,0):=by
 obtain⟨g,hg⟩:=aSj [] h;obtain⟨v,hv,_⟩:=bFl s (nodesT p) p ⟨⟨hg.pw,hg.sg⟩,hg.nd⟩ hg.ex (bV _) 0 [] ⟨fun x q hx=>by simp[mOf]at hx,by simp[NoW,mOf]⟩;rw[lX,if_pos ⟨h,h⟩];cases hl:oF s (nodesT p) [] p (alT p 0).1 with
 |nil=>rw[hl]at hv;cases hv
 |cons a l=>rfl
theorem aId{s:dK}{p q t:LTerm}(hc:lX s p q=(true,0))(hm:(kM s q t []).2=0)(hl:(kM s q t []).1 ≠ []):(kM s p t []).2=3∨((kM s p t []).2=0∧(kM s p t []).1 ≠ []):=by
 rw[lX]at hc;split at hc
 ·rename_i hpq;obtain⟨hp,hq⟩:=hpq;have hne:oF s (nodesT p) [] p (alT q 0).1 ≠ []:=fun e=>by rw[e]at hc;simp at hc
  rw[kM]at hm hl;split at hm
  ·rename_i hA;rw[if_pos hA]at hl;obtain⟨_,ht,hu⟩:=hA;split at hm
   ·simp at hm
   ·rename_i hb;rw[if_neg hb]at hl;rw[pL]at hb;have hv:iH s=true:=by rw[D3,aD]at hp;exact hp.1
    have PTt:=cBj ht;obtain⟨gq,hgq⟩:=aSj [] hq;have hf:=bOt (nodesT q) q t [[]] hb;dsimp only at hl;rw[rM,hf,List.flatMap_cons,List.flatMap_nil,List.append_nil]at hl;obtain⟨u,hu1⟩:=lC _ hl;have nW:NoW ([]:LSub):=by simp[NoW,mOf]
    obtain⟨a1,a2⟩:=aYb (s:=s) (nodesT q) q ⟨hgq.pw,hgq.sg⟩ (bV _) t [] u PTt nW hu1;have hsi:=a1.si (fun x y hx=>by simp[mOf]at hx);have hno:∀k,mOf u (nm k)=none:=fun k=>by
     cases ho:mOf u (nm k)with
     |none=>rfl
     |some o=>
      have:=hsi _ _ ho;rw[show(fun x:Str=>if x.head? = some 95 then([]:Str)else gq x) (nm k)=[]from if_pos rfl,Z0 hv]at this;cases this
    obtain⟨W,b1,b2⟩:=cBi q hgq.nd 0 u t a2 (fun k _=>hno k);have hQ:=cBh q hgq 0;have hW:SI s (fA gq) W:=fun x y hx=>by
     rcases b1.nw x y hx with h1|⟨k,rfl⟩
     ·have h2:=hsi x y h1;dsimp only at h2;by_cases hh:x.head? = some 95
      ·rw[if_pos hh,Z0 hv]at h2;cases h2
      ·rw[if_neg hh]at h2;rw[fA,if_neg hh];exact h2
     ·rw[fA,if_pos (by rfl)];exact V9
    obtain⟨gp,hgp⟩:=aSj [] hp;obtain⟨v,hv1⟩:=lC _ hne;obtain⟨c1,c2⟩:=bHz (f:=fA gq) (g:=fun x=>if x.head? = some 95 then []else gp x) hv hW (nodesT p) p ⟨⟨hgp.pw,hgp.sg⟩,hgp.nd⟩ [] _ t v hQ PTt b2 (fun x y hx=>by simp[mOf]at hx) hv1;have hsp:=c1.sp (fun x y hx=>by simp[mOf]at hx);have cho:∀y:LTerm,∃t',(∃t,PT s t∧MT s W y t)→PT s t'∧MT s W y t':=fun y=>by
     by_cases h:∃t,PT s t∧MT s W y t
     ·obtain⟨t',h'⟩:=h;exact⟨t',fun _=>h'⟩
     ·exact⟨default,fun h'=>absurd h' h⟩
    obtain⟨T,hT⟩:=Classical.axiomOfChoice cho;have hU:∀x y,mOf v x=some y→PT s (T y)∧MT s W y (T y):=fun x y hx=>hT y (c1.io x y hx).2;have eU:∀x t,mOf (v.map fun e=>(e.1,T e.2)) x=some t→∃y,mOf v x=some y∧t=T y:=fun x t hx=>by
     rw[aHo,dH]at hx;obtain⟨y,h1,h2⟩:=hx;exact⟨y,h1,h2.symm⟩
    have hMT:=c2 (v.map fun e=>(e.1,T e.2)) (fun x y hx=>⟨T y,(hU x y hx).1,(hU x y hx).2,by rw[aHo,hx];rfl⟩);have sU:SI s (fun x=>if x.head? = some 95 then []else gp x) (v.map fun e=>(e.1,T e.2)):=fun x t hx=>by
     obtain⟨y,h1,rfl⟩:=eU x t hx;obtain⟨h2,h3⟩:=hU x y h1;exact C5 (wK hv) (yR hv h2.zn.f h2.pl).2 (aRb hv h2 hW (c1.io x y h1).1.var h3) (hsp x y h1)
    have nU:NoW (v.map fun e=>(e.1,T e.2)):=by
     cases ho:mOf (v.map fun e=>(e.1,T e.2)) [95]with
     |none=>exact ho
     |some o=>
      have:=sU _ _ ho;rw[show(fun x:Str=>if x.head? = some 95 then([]:Str)else gp x) [95]=[]from if_pos rfl,Z0 hv]at this;cases this
    obtain⟨w,hw1,_⟩:=aYc (s:=s) (nodesT p) p ⟨hgp.pw,hgp.sg⟩ (bV _) t [] _ PTt nU bMy sU hMT;rw[kM,if_pos ⟨hp,ht,hu⟩];by_cases hb2:(rM s p t []).2=true
    ·rw[if_pos hb2];exact .inl rfl
    ·rw[if_neg hb2];rw[pL]at hb2;refine .inr ⟨rfl,fun e=>?_⟩;dsimp only at e;rw[rM,bOt (nodesT p) p t [[]] hb2,List.flatMap_cons,List.flatMap_nil,List.append_nil]at e;rw[e]at hw1;cases hw1
  ·simp at hm
 ·simp at hc
end Go.Proofs.YtdjcggcjlphdoaaGreatDoor
