/-
  Functions of the chapter, as plain functions of what they are given; no condition.
-/
import Derived.Test.YtdjcggcjlphdoaaGreatDoorVeP11
import Derived.Test.YtdjcggcjlphdoaaGreatDoorVcP13
set_option maxRecDepth 100000
set_option linter.unusedSimpArgs false
set_option linter.unusedVariables false
set_option maxHeartbeats 4000000
namespace Go.Proofs.YtdjcggcjlphdoaaGreatDoor
open Go Go.Vo
open Nat (reduceAdd reduceSub reduceMul reduceLeDiff reduceLT reduceEqDiff)
open Int (reduceNeg)
def Ext(u W:LSub):Prop:=∀x t,mOf u x=some t→mOf W x=some t
theorem Ext.refl(u:LSub):Ext u u:=fun _ _ h=>h
theorem Ext.trans{u v w:LSub}(a:Ext u v)(b:Ext v w):Ext u w:=fun x t h=>b x t (a x t h)
def NoW(u:LSub):Prop:=mOf u [95]=none
def SI(s:dX)(f:Str→Str)(u:LSub):Prop:=∀x t,mOf u x=some t→nQ s (qM s t) (f x)=true
def MB(s:dX)(W:LSub)(v t:LTerm):Prop:=if v.text=[95]then nQ s (qM s t) v.sort=true else mOf W v.text=some t
abbrev liT(ks:List LTerm):LTerm:=.mk 7 0 [] [] ks []
abbrev maT(ks:List LTerm):LTerm:=.mk 8 0 [] [] ks []
mutual
def MT(s:dX)(W:LSub):LTerm→LTerm→Prop
 | .mk k n x so ks rs,t=>
   if k=5 then t.kind=5∧t.text=x∧ML s W ks t.kids
   else if k=7 then t.kind=7∧ks.length≤t.kids.length∧ML s W ks (t.kids.take ks.length)∧(if rs=[]then t.kids.length=ks.length else MB s W (rs.getD 0 default) (liT (t.kids.drop ks.length)))
   else if k=8 then t.kind=8∧∃L es left:List PE,t.kids=fl L∧L.Perm (es++left)∧left.Sublist L∧ML s W ks (fl es)∧(if rs=[]then left=[]else MB s W (rs.getD 0 default) (maT (fl left)))
   else if k=6 then MB s W (.mk k n x so ks rs) t
   else LTerm.mk k n x so ks rs=t
def ML(s:dX)(W:LSub):List LTerm→List LTerm→Prop
 | [],[]=>True
 |p::ps,t::ts=>MT s W p t∧ML s W ps ts
 | [],_::_=>False
 |_::_,[]=>False
end
theorem sP(s:dX)(W:LSub)(p t:LTerm):MT s W p t ↔
 if p.kind=5 then t.kind=5∧t.text=p.text∧ML s W p.kids t.kids
 else if p.kind=7 then t.kind=7∧p.kids.length≤t.kids.length∧ML s W p.kids (t.kids.take p.kids.length)∧(if p.rest=[]then t.kids.length=p.kids.length else MB s W (p.rest.getD 0 default) (liT (t.kids.drop p.kids.length)))
 else if p.kind=8 then t.kind=8∧∃L es left:List PE,t.kids=fl L∧L.Perm (es++left)∧left.Sublist L∧ML s W p.kids (fl es)∧(if p.rest=[]then left=[]else MB s W (p.rest.getD 0 default) (maT (fl left)))
 else if p.kind=6 then MB s W p t
 else p=t:=by cases p;rw[MT];rfl
theorem bLj{s:dX}{W:LSub}:∀{ps ts qs us:List LTerm},ML s W ps ts→ML s W qs us→ML s W (ps++qs) (ts++us)
 | [],[],_,_,_,h=>h
 |p::ps,t::ts,_,_,h,h2=>by
  rw[ML]at h;rw[aH,aH,ML];exact⟨h.1,bLj h.2 h2⟩
 | [],_::_,_,_,h,_=>by rw[ML]at h;exact h.elim
 |_::_,[],_,_,h,_=>by rw[ML]at h;exact h.elim
theorem aKn{s:dX}{u W:LSub}{v t:LTerm}(e:Ext u W)(h:MB s u v t):MB s W v t:=by
 rw[MB]at h ⊢;split at h
 ·rename_i hw;rw[if_pos hw];exact h
 ·rename_i hw;rw[if_neg hw];exact e _ _ h
theorem bBb{s:dX}{u W:LSub}:∀{ps ts:List LTerm},(∀p∈ps,∀t,MT s u p t→MT s W p t)→ML s u ps ts→ML s W ps ts
 | [],[],_,_=>by rw[ML];trivial
 |p::ps,t::ts,hp,h=>by
  rw[ML]at h ⊢;exact⟨hp p cQ _ h.1,bBb (fun q hq=>hp q (cJ _ hq)) h.2⟩
 | [],_::_,_,h=>by rw[ML]at h;exact h.elim
 |_::_,[],_,h=>by rw[ML]at h;exact h.elim
theorem aKl{s:dX}{u W:LSub}(e:Ext u W):∀(p t:LTerm),MT s u p t→MT s W p t:=
 fH (Q:=fun p=>∀t,MT s u p t→MT s W p t) fun p hk _ t h=>by
  rw[sP]at h ⊢;split at h
  ·rename_i h5;rw[if_pos h5];exact⟨h.1,h.2.1,bBb hk h.2.2⟩
  rename_i h5;rw[if_neg h5];split at h
  ·rename_i h7;rw[if_pos h7];refine⟨h.1,h.2.1,bBb hk h.2.2.1,?_⟩;have h4:=h.2.2.2;split at h4
   ·rename_i hr;rw[if_pos hr];exact h4
   ·rename_i hr;rw[if_neg hr];exact aKn e h4
  rename_i h7;rw[if_neg h7];split at h
  ·rename_i h8;rw[if_pos h8];obtain⟨h0,L,es,left,h1,h2,h3,h4,h6⟩:=h;refine⟨h0,L,es,left,h1,h2,h3,bBb hk h4,?_⟩;split at h6
   ·rename_i hr;rw[if_pos hr];exact h6
   ·rename_i hr;rw[if_neg hr];exact aKn e h6
  rename_i h8;rw[if_neg h8];split at h
  ·rename_i h6;rw[if_pos h6];exact aKn e h
  ·rename_i h6;rw[if_neg h6];exact h
theorem aKm{s:dX}{u W:LSub}(e:Ext u W){ps ts:List LTerm}(h:ML s u ps ts):ML s W ps ts:=bBb (fun p _ t=>aKl e p t) h
def pwB(p:LTerm):Bool:=(!(decide (p.kind=7)||decide (p.kind=8))||(decide (p.rest.length≤1)&&p.rest.all fun r=>decide (r.kind=6))) &&
 (!decide (p.kind=8)||(decide (p.kids.length % 2=0)&&(List.range (p.kids.length / 2)).all fun i=>decide ((p.kids.getD (2*i) default).kind=6)||isKey (p.kids.getD (2*i) default)))
def sgB(f:Str→Str)(p:LTerm):Bool:=(!decide (p.kind=6)||(decide (p.text=[95])||decide (p.sort=f p.text)))&&p.rest.all fun r=>decide (r.text=[95])||decide (r.sort=f r.text)
structure PT(s:dX)(t:LTerm):Prop where
 wf:wfT nodeB t=true
 pl:plainP s t=true
theorem PT.kid{s:dX}{t k:LTerm}(h:PT s t)(hk:k∈t.kids):PT s k:=⟨(gS.1 h.wf).2 k hk,aAl h.pl k hk⟩
theorem PT.map{s:dX}{t:LTerm}(h:PT s t)(h8:t.kind=8):∃L,t.kids=fl L∧SrtE L∧KysE L:=by
 obtain⟨L,hL⟩:=bWa (aVs (gS.1 h.wf).1 h8);have hp:=h.pl;rw[oY,if_neg (by omega),if_pos h8]at hp;simp only[aA]at hp;have:=(aMr hL).1 hp.2;exact⟨L,hL,this.1,this.2⟩
theorem aMx{a b:List PE}(h:fl a=fl b):a=b:=by rw[← aHo (es:=a),h,aHo]
theorem aMm{u v:LSub}{x:Str}:mOf (u++v) x=match mOf u x with|some t=>some t|none=>mOf v x:=by
 rw[mOf,mOf,mOf,List.find?_append];cases u.find? fun p=>decide (p.1=x)<;>rfl
theorem aIy{p:LPr}{u:LSub}{x:Str}:mOf (p::u) x=if p.1=x then some p.2 else mOf u x:=by
 rw[mOf,nY];by_cases h:p.1=x
 ·rw[zt h,if_pos h];rfl
 ·rw[zf h,if_neg h];rfl
theorem bVm{u:LSub}{x y:Str}{t:LTerm}(h:¬x=y):mOf (X6 u x t) y=mOf u y:=by
 have e:mOf u y=mOf (u.take (aIx u x u.length)++u.drop (aIx u x u.length)) y:=by rw[cI]
 rw[e,X6,aMm,aMm,aIy,if_neg h]
theorem H9{u:LSub}{x y:Str}{t:LTerm}(h:mOf u x=none):mOf (X6 u x t) y=if x=y then some t else mOf u y:=by
 by_cases hx:x=y
 ·subst hx;rw[if_pos rfl,X6,aMm];have:mOf (u.take (aIx u x u.length)) x=none:=by
   have e:mOf u x=mOf (u.take (aIx u x u.length)++u.drop (aIx u x u.length)) x:=by rw[cI]
   rw[h,aMm]at e;cases ho:mOf (u.take (aIx u x u.length)) x with
   |none=>rfl
   |some o=>rw[ho]at e;cases e
  rw[this,aIy,if_pos rfl]
 ·rw[if_neg hx,bVm hx]
theorem Z4{s:dX}{v t:LTerm}{u u':LSub}(h:u'∈oK s v t u):nQ s (qM s t) v.sort=true∧((v.text=[95]∧u'=u)∨(¬v.text=[95]∧((mOf u v.text=some t∧u'=u)∨(mOf u v.text=none∧u'=X6 u v.text t)))):=by
 rw[oK]at h;split at h
 ·rename_i ha;refine⟨ha,?_⟩;split at h
  ·rename_i hw;exact .inl ⟨hw,aV.1 h⟩
  ·rename_i hw;refine .inr ⟨hw,?_⟩;cases ho:mOf u v.text with
   |some o=>
    rw[ho]at h;dsimp only at h;split at h
    ·rename_i e;exact .inl ⟨by rw[e],aV.1 h⟩
    ·cases h
   |none=>
    rw[ho]at h;exact .inr ⟨rfl,aV.1 h⟩
 ·cases h
structure Snd(s:dX)(f:Str→Str)(u u':LSub):Prop where
 ext:Ext u u'
 noW:NoW u'
 si:SI s f u→SI s f u'
theorem Snd.refl{s:dX}{f:Str→Str}{u:LSub}(h:NoW u):Snd s f u u:=⟨Ext.refl u,h,id⟩
theorem Snd.trans{s:dX}{f:Str→Str}{u v w:LSub}(a:Snd s f u v)(b:Snd s f v w):Snd s f u w:=⟨a.ext.trans b.ext,b.noW,fun h=>b.si (a.si h)⟩
theorem I4{s:dX}{f:Str→Str}{v t:LTerm}{u u':LSub}(hf:v.text=[95]∨v.sort=f v.text)(hn:NoW u)(h:u'∈oK s v t u):Snd s f u u'∧MB s u' v t:=by
 obtain⟨ha,⟨hw,rfl⟩|⟨hw,⟨ho,rfl⟩|⟨ho,rfl⟩⟩⟩:=Z4 h
 ·exact⟨Snd.refl hn,by rw[MB,if_pos hw];exact ha⟩
 ·exact⟨Snd.refl hn,by rw[MB,if_neg hw];exact ho⟩
 ·have hs:v.sort=f v.text:=hf.resolve_left hw;refine⟨⟨fun x y hx=>?_,?_,fun hi x y hx=>?_⟩,?_⟩
  ·rw[H9 ho];split
   ·rename_i e;rw[e,hx]at ho;cases ho
   ·exact hx
  ·show mOf _ _=none;rw[H9 ho,if_neg hw];exact hn
  ·rw[H9 ho]at hx;split at hx
   ·rename_i e;cases hx;rw[← e,← hs];exact ha
   ·exact hi x y hx
  ·rw[MB,if_neg hw,H9 ho,if_pos rfl]
def cBa(s:dX)(f:Str→Str)(F:FF)(p:LTerm):Prop:=∀t u u',PT s t→NoW u→u'∈F p t u→Snd s f u u'∧MT s u' p t
theorem cBx{s:dX}{W:LSub}{p t:LTerm}(h6:p.kind=6):MT s W p t↔MB s W p t:=by
 rw[sP,if_neg (by omega),if_neg (by omega),if_neg (by omega),if_pos h6]
theorem cBb{s:dX}{W:LSub}{p t:LTerm}(hk:isKey p=true):MT s W p t↔p=t:=by
 simp only[isKey,cC,decide_eq_true_eq]at hk;rw[sP,if_neg (by omega),if_neg (by omega),if_neg (by omega),if_neg (by omega)]
section
variable {s:dX} {f:Str→Str} {F:FF}
theorem aNh{ts:List LTerm}{u:LSub}:aQu F [] ts u=[u]:=by cases ts<;>rfl
theorem aAi:∀{ps ts:List LTerm} {u u':LSub},(∀p∈ps,cBa s f F p)→(∀t∈ts,PT s t)→ps.length=ts.length→NoW u→u'∈aQu F ps ts u→Snd s f u u'∧ML s u' ps ts
 | [],[],u,u',_,_,_,hn,h=>by
   rw[aNh,aV]at h;subst h;exact⟨Snd.refl hn,by rw[ML];trivial⟩
 |p::ps,t::ts,u,u',hF,ht,hl,hn,h=>by
  rw[aQu]at h;obtain⟨v,hv,h⟩:=dV.1 h;obtain⟨a1,a2⟩:=hF p cQ t u v (ht t cQ) hn hv;obtain⟨b1,b2⟩:=aAi (fun q hq=>hF q (cJ _ hq)) (fun q hq=>ht q (cJ _ hq)) (by simpa using hl) a1.noW h;exact⟨a1.trans b1,by rw[ML];exact⟨aKl b1.ext p t a2,b2⟩⟩
 | [],_::_,_,_,_,_,hl,_,_=>by simp at hl
 |_::_,[],_,_,_,_,hl,_,_=>by simp at hl
theorem aYj:∀{L:List PE} {k:Nat},aQf (fl L) (2*k)=fl (L.eraseIdx k)
 | [],k=>by rw[aQf];simp[fl]
 |e::L,0=>by rw[aQf,sG];rfl
 |e::L,k+1=>by
  have:=aYj (L:=L) (k:=k);rw[aQf]at this ⊢;rw[sG,show 2*(k+1)=2*k+1+1 by omega,aL,aL,aT,aT,List.eraseIdx_cons_succ,sG,← this];rfl
structure KOk(f:Str→Str)(q:LTerm):Prop where
 key:q.kind=6∨isKey q=true
 sg:q.kind=6→q.text=[95]∨q.sort=f q.text
theorem aTk{key:LTerm}{w:nJ}{k:Nat}{u':LSub}(hk:KOk f key)(hn:NoW w.u)(h:u'∈mG s key w k):Snd s f w.u u'∧MT s u' key (w.left.getD (2*k) default):=by
 rcases hk.key with h6|hK
 ·rw[mG,if_pos h6]at h
  rw[cBx h6];cases ho:mOf w.u key.text with
  |none=>rw[ho]at h;exact I4 (hk.sg h6) hn h
  |some a=>
   rw[ho]at h;dsimp only at h;split at h
   ·rename_i e;obtain rfl:=aV.1 h;refine⟨Snd.refl hn,?_⟩;have hw:¬key.text=[95]:=fun hw=>by rw[hw]at ho;rw[NoW]at hn;rw[hn]at ho;cases ho
    rw[MB,if_neg hw,ho,e]
   ·cases h
 ·have h6:¬key.kind=6:=by simp only[isKey,cC,decide_eq_true_eq]at hK;omega
  rw[mG,if_neg h6]at h;dsimp only at h;split at h
  ·rename_i e;obtain rfl:=aV.1 h;exact⟨Snd.refl hn,(cBb hK).2 e⟩
  ·cases h
theorem bNx{α:Type}{L:List α}{d:α}{k:Nat}(h:k<L.length):L.Perm (L.getD k d::L.eraseIdx k):=by
 have e:L=L.take k++L.getD k d::L.drop (k+1):=by
  rw[fN,bL h,gB,← eA h,cI]
 have e2:L.eraseIdx k=L.take k++L.drop (k+1):=List.eraseIdx_eq_take_drop_succ _ _;rw[e2];conv=>lhs;rw[e]
 exact xQ
theorem bQe{key value:LTerm}{w w':nJ}{left:List PE}(hk:KOk f key)(hv:cBa s f F value)(hl:w.left=fl left)(hp:∀e∈left,PT s e.2)(hn:NoW w.u)(h:w'∈bQb F s key value w) :
 ∃k,k<left.length∧Snd s f w.u w'.u∧MT s w'.u key (left.getD k default).1∧MT s w'.u value (left.getD k default).2∧w'.left=fl (left.eraseIdx k):=by
 rw[bQb]at h;obtain⟨k,hk1,h⟩:=dV.1 h;obtain⟨u',hu',rfl⟩:=dS.1 h;obtain⟨v,hv1,hv2⟩:=dV.1 hu';rw[fE,hl,aFn]at hk1;have hk2:k<left.length:=by omega
 rw[hl,bJw hk2]at hv2;obtain⟨a1,a2⟩:=aTk hk hn hv1;rw[hl,P0 hk2]at a2;obtain⟨b1,b2⟩:=hv _ _ _ (hp _ (cT hk2)) a1.noW hv2;exact⟨k,hk2,a1.trans b1,aKl b1.ext _ _ a2,b2,by dsimp only;rw[hl,aYj]⟩
theorem bBx{l:List LTerm}{k:Nat}(h:2*k+1<l.length):l.take (2*(k+1))=l.take (2*k)++[l.getD (2*k) default,l.getD (2*k+1) default]:=by
 rw[show 2*(k+1)=2*k+1+1 by omega,fO (d:=default) h,fO (d:=default) (by omega:2*k<l.length),bU];rfl
theorem aTa{p:LTerm}{u:LSub}{L:List PE}(hk:∀i,2*i+1<p.kids.length→KOk f (p.kids.getD (2*i) default))(hv:∀q∈p.kids,cBa s f F q)(hp:∀e∈L,PT s e.2)(hn:NoW u):∀(k:Nat),2*k≤p.kids.length→∀w∈aXs F s p k ⟨u,fl L⟩,
 ∃es left:List PE,w.left=fl left∧L.Perm (es++left)∧left.Sublist L∧ML s w.u (p.kids.take (2*k)) (fl es)∧Snd s f u w.u
 |0,_,w,hw=>by
  rw[aXs,aV]at hw;subst hw;exact⟨[],L,rfl,mX _,List.Sublist.refl _,by simp[ML,fl],Snd.refl hn⟩
 |k + 1,hle,w,hw=>by
  rw[aXs]at hw;obtain⟨w0,hw0,hw⟩:=dV.1 hw;obtain⟨es,left,h1,h2,h3,h4,h5⟩:=aTa hk hv hp hn k (by omega) w0 hw0;obtain⟨j,g1,g2,g3,g4,g5⟩:=bQe (hk k (by omega)) (hv _ (cT (by omega))) h1 (fun e he=>hp e (h3.subset he)) h5.noW hw;refine⟨es++[left.getD j default],left.eraseIdx j,g5,?_,(List.eraseIdx_sublist _ _).trans h3,?_,h5.trans g2⟩
  ·rw[bU];exact h2.trans (wQ es (bNx g1))
  ·rw[bBx (by omega),aXk];refine bLj (aKm g2.ext h4) ?_;simp only[fl,List.flatMap_cons,List.flatMap_nil,List.append_nil,ML,and_true];exact⟨g3,g4⟩
end
structure PW(f:Str→Str)(p:LTerm):Prop where
 pw:wfT pwB p=true
 sg:wfT (sgB f) p=true
section
variable {s:dX} {f:Str→Str} {p:LTerm}
theorem PW.kid(h:PW f p){k:LTerm}(hk:k∈p.kids):PW f k:=⟨(gS.1 h.pw).2 k hk,(gS.1 h.sg).2 k hk⟩
theorem PW.var(h:PW f p)(h6:p.kind=6):p.text=[95]∨p.sort=f p.text:=by
 have:=(gS.1 h.sg).1;rw[sgB,aA,zt h6]at this;simpa using this.1
theorem PW.rst(h:PW f p)(h7:p.kind=7∨p.kind=8){r:LTerm}(hr:r∈p.rest):r.kind=6∧(r.text=[95]∨r.sort=f r.text):=by
 have h1:=(gS.1 h.pw).1;have h2:=(gS.1 h.sg).1;rw[pwB,aA,show(decide (p.kind=7)||decide (p.kind=8))=true by rcases h7 with e|e<;>simp[e],aN,cU,aA]at h1;rw[sgB,aA]at h2;have h3:=bF.1 h1.1.2 r hr;have h4:=bF.1 h2.2 r hr;simp only[cC,decide_eq_true_eq]at h3 h4;exact⟨h3,h4⟩
theorem PW.even(h:PW f p)(h8:p.kind=8):p.kids.length % 2=0:=by
 have h1:=(gS.1 h.pw).1;rw[pwB,aA,zt h8,aN,cU,aA,decide_eq_true_eq]at h1;exact h1.2.1
theorem PW.key(h:PW f p)(h8:p.kind=8)(i:Nat)(hi:2*i+1<p.kids.length):KOk f (p.kids.getD (2*i) default):=by
 have h1:=(gS.1 h.pw).1;rw[pwB,aA,zt h8,aN,cU,aA]at h1;have h2:=bF.1 h1.2.2 i (fE.2 (by omega));rw[cC,decide_eq_true_eq]at h2;exact⟨h2,fun h6=>(h.kid (cT (by omega))).var h6⟩
theorem vN(h:¬p.rest=[]):p.rest.getD 0 default∈p.rest:=cT (qR.2 h)
theorem bEy(h5:¬p.kind=5)(h7:¬p.kind=7)(h8:¬p.kind=8)(hp:p.kind=6→p.text=[95]∨p.sort=f p.text){t:LTerm}{u u':LSub}(hn:NoW u)(h:u'∈iT s p t u):Snd s f u u'∧MT s u' p t:=by
 rw[iT]at h;split at h
 ·rename_i h6;rw[cBx h6];exact I4 (hp h6) hn h
 ·rename_i h6;split at h
  ·rename_i e;obtain rfl:=aV.1 h;exact⟨Snd.refl hn,by rw[sP,if_neg h5,if_neg h7,if_neg h8,if_neg h6];exact e⟩
  ·cases h
theorem qH{t:LTerm}{L:List PE}(h:t.kids=fl L){e:PE}(he:e∈L):e.1∈t.kids∧e.2∈t.kids:=by
 rw[h];exact⟨aMz.2 ⟨e,he,.inl rfl⟩,aMz.2 ⟨e,he,.inr rfl⟩⟩
theorem aSz{p:LTerm}(h:p.kids.length % 2=0):p.kids.take (2*(p.kids.length / 2))=p.kids:=by
 rw[show 2*(p.kids.length / 2)=p.kids.length by omega,gD]
theorem bAr:∀(n:Nat) (p:LTerm),PW f p→nodesT p≤n→cBa s f (S6 s n) p
 |0,p,_,h=>by rw[iO]at h;omega
 |n + 1,p,hp,hn=>fun t u u' ht hu h=>by
  have hno:=iO p;have IH:∀k∈p.kids,cBa s f (S6 s n) k:=fun k hk=>bAr n k (hp.kid hk) (by have:=(nC hk).1;omega);rw[S6]at h;by_cases h5:p.kind=5
  ·rw[if_pos h5]at h;split at h
   ·rename_i hc;obtain⟨a,b⟩:=aAi IH (fun k hk=>ht.kid hk) hc.2.2.symm hu h;exact⟨a,by rw[sP,if_pos h5];exact⟨hc.1,hc.2.1,b⟩⟩
   ·cases h
  rw[if_neg h5]at h;by_cases h7:p.kind=7
  ·rw[if_pos h7]at h
   split at h
   ·rename_i hc;have htk:∀k∈t.kids.take p.kids.length,PT s k:=fun k hk=>ht.kid (dH hk);have hlen:p.kids.length=(t.kids.take p.kids.length).length:=by rw[List.length_take];omega
    split at h
    ·rename_i hr;obtain⟨v,hv,h⟩:=dV.1 h;obtain⟨a,b⟩:=aAi IH htk hlen hu hv;have hrn:¬p.rest=[]:=qR.1 hr;obtain⟨r1,r2⟩:=hp.rst (.inl h7) (vN hrn);rw[iT,if_pos r1]at h;obtain⟨c,d⟩:=I4 r2 a.noW h;exact⟨a.trans c,by rw[sP,if_neg h5,if_pos h7,if_neg hrn];exact⟨hc.1,hc.2.1,aKm c.ext b,d⟩⟩
    ·rename_i hr;obtain⟨a,b⟩:=aAi IH htk hlen hu h;have hrn:p.rest=[]:=List.eq_nil_of_length_eq_zero (by omega);have:=hc.2.2 (by omega);exact⟨a,by rw[sP,if_neg h5,if_pos h7,if_pos hrn];exact⟨hc.1,hc.2.1,b,by omega⟩⟩
   ·cases h
  rw[if_neg h7]at h;by_cases h8:p.kind=8
  ·rw[if_pos h8]at h
   split at h
   ·rename_i hc;obtain⟨L,hL,hLs,hLk⟩:=ht.map hc;rw[hL]at h;obtain⟨w,hw,h⟩:=dV.1 h;have hev:=hp.even h8;obtain⟨es,left,g1,g2,g3,g4,g5⟩:=aTa (L:=L) (fun i hi=>hp.key h8 i hi) IH (fun e he=>ht.kid (qH hL he).2) hu _ (by omega) w hw;rw[aSz hev]at g4;rw[G2]at h;split at h
    ·rename_i hr;have hrn:¬p.rest=[]:=qR.1 hr;obtain⟨r1,r2⟩:=hp.rst (.inr h8) (vN hrn);obtain⟨c,d⟩:=I4 r2 g5.noW h;rw[g1]at d;exact⟨g5.trans c,by rw[sP,if_neg h5,if_neg h7,if_pos h8];exact⟨hc,L,es,left,hL,g2,g3,aKm c.ext g4,by rw[if_neg hrn];exact d⟩⟩
    ·rename_i hr;have hrn:p.rest=[]:=List.eq_nil_of_length_eq_zero (by omega);split at h
     ·rename_i hl;obtain rfl:=aV.1 h;refine⟨g5,?_⟩;rw[sP,if_neg h5,if_neg h7,if_pos h8];exact⟨hc,L,es,left,hL,g2,g3,g4,by rw[if_pos hrn];exact List.eq_nil_of_length_eq_zero (by rw[g1,aFn]at hl;omega)⟩
     ·cases h
   ·cases h
  rw[if_neg h8]at h;exact bEy h5 h7 h8 hp.var hu h
end
end Go.Proofs.YtdjcggcjlphdoaaGreatDoor
