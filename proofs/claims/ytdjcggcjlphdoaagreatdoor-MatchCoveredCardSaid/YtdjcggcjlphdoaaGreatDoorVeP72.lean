/-
  Functions of the chapter, as plain functions of what they are given; no condition.
-/
import Derived.Test.YtdjcggcjlphdoaaGreatDoorVeP71
import Derived.Test.YtdjcggcjlphdoaaGreatDoorVcP72
set_option maxRecDepth 100000
set_option linter.unusedSimpArgs false
set_option linter.unusedVariables false
set_option maxHeartbeats 4000000
namespace Go.Proofs.YtdjcggcjlphdoaaGreatDoor
open Go Go.Vo
open Nat (reduceAdd reduceSub reduceMul reduceLeDiff reduceLT reduceEqDiff)
open Int (reduceNeg)
def Ext(u W:LSub):Prop:=∀x t,mOf u x=some t→mOf W x=some t
theorem Ext.refl(u:LSub):Ext u u:=fun _ _ h=>h
theorem Ext.trans{u v w:LSub}(a:Ext u v)(b:Ext v w):Ext u w:=fun x t h=>b x t (a x t h)
theorem bMy{W:LSub}:Ext [] W:=fun x t h=>by simp[mOf]at h
def NoW(u:LSub):Prop:=mOf u [95]=none
def SI(s:dK)(f:Str→Str)(u:LSub):Prop:=∀x t,mOf u x=some t→iQ s (kI s t) (f x)=true
def MB(s:dK)(W:LSub)(v t:LTerm):Prop:=if v.text=[95]then iQ s (kI s t) v.sort=true else mOf W v.text=some t
abbrev liT(ks:List LTerm):LTerm:=.mk 7 0 [] [] ks []
abbrev maT(ks:List LTerm):LTerm:=.mk 8 0 [] [] ks []
mutual
def MT(s:dK)(W:LSub):LTerm→LTerm→Prop
 | .mk k n x so ks rs,t=>
   if k=5 then t.kind=5∧t.text=x∧ML s W ks t.kids
   else if k=7 then t.kind=7∧ks.length≤t.kids.length∧ML s W ks (t.kids.take ks.length)∧(if rs=[]then t.kids.length=ks.length else MB s W (rs.getD 0 default) (liT (t.kids.drop ks.length)))
   else if k=8 then t.kind=8∧∃L es left:List PE,t.kids=fl L∧L.Perm (es++left)∧left.Sublist L∧ML s W ks (fl es)∧(if rs=[]then left=[]else MB s W (rs.getD 0 default) (maT (fl left)))
   else if k=6 then MB s W (.mk k n x so ks rs) t
   else LTerm.mk k n x so ks rs=t
def ML(s:dK)(W:LSub):List LTerm→List LTerm→Prop
 | [],[]=>True
 |p::ps,t::ts=>MT s W p t∧ML s W ps ts
 | [],_::_=>False
 |_::_,[]=>False
end
theorem nI(s:dK)(W:LSub)(p t:LTerm):MT s W p t ↔
 if p.kind=5 then t.kind=5∧t.text=p.text∧ML s W p.kids t.kids
 else if p.kind=7 then t.kind=7∧p.kids.length≤t.kids.length∧ML s W p.kids (t.kids.take p.kids.length)∧(if p.rest=[]then t.kids.length=p.kids.length else MB s W (p.rest.getD 0 default) (liT (t.kids.drop p.kids.length)))
 else if p.kind=8 then t.kind=8∧∃L es left:List PE,t.kids=fl L∧L.Perm (es++left)∧left.Sublist L∧ML s W p.kids (fl es)∧(if p.rest=[]then left=[]else MB s W (p.rest.getD 0 default) (maT (fl left)))
 else if p.kind=6 then MB s W p t
 else p=t:=by cases p;rw[MT];rfl
theorem C7{s:dK}{W:LSub}:∀{ps ts:List LTerm},ML s W ps ts→ps.length=ts.length
 | [],[],_=>rfl
 |p::ps,t::ts,h=>by rw[ML]at h;simp[C7 h.2]
 | [],_::_,h=>by rw[ML]at h;exact h.elim
 |_::_,[],h=>by rw[ML]at h;exact h.elim
theorem aYt{s:dK}{W:LSub}:∀{ps ts qs us:List LTerm},ML s W ps ts→ML s W qs us→ML s W (ps++qs) (ts++us)
 | [],[],_,_,_,h=>h
 |p::ps,t::ts,_,_,h,h2=>by
  rw[ML]at h;rw[aC,aC,ML];exact⟨h.1,aYt h.2 h2⟩
 | [],_::_,_,_,h,_=>by rw[ML]at h;exact h.elim
 |_::_,[],_,_,h,_=>by rw[ML]at h;exact h.elim
theorem aYs{s:dK}{W:LSub}:∀{ps ts:List LTerm} {i:Nat},ML s W ps ts→i<ps.length→MT s W (ps.getD i default) (ts.getD i default)
 |p::ps,t::ts,0,h,_=>by rw[ML]at h;exact h.1
 |p::ps,t::ts,i+1,h,hi=>by
  rw[ML]at h;rw[dF,dF];exact aYs h.2 (by simpa using hi)
 | [],_,_,_,hi=>by simp at hi
 |_::_,[],_,h,_=>by rw[ML]at h;exact h.elim
theorem O8{s:dK}{u W:LSub}{v t:LTerm}(e:Ext u W)(h:MB s u v t):MB s W v t:=by
 rw[MB]at h ⊢;split at h
 ·rename_i hw;rw[if_pos hw];exact h
 ·rename_i hw;rw[if_neg hw];exact e _ _ h
theorem aYp{s:dK}{u W:LSub}:∀{ps ts:List LTerm},(∀p∈ps,∀t,MT s u p t→MT s W p t)→ML s u ps ts→ML s W ps ts
 | [],[],_,_=>by rw[ML];trivial
 |p::ps,t::ts,hp,h=>by
  rw[ML]at h ⊢;exact⟨hp p dC _ h.1,aYp (fun q hq=>hp q (bU _ hq)) h.2⟩
 | [],_::_,_,h=>by rw[ML]at h;exact h.elim
 |_::_,[],_,h=>by rw[ML]at h;exact h.elim
theorem aBi{s:dK}{u W:LSub}(e:Ext u W):∀(p t:LTerm),MT s u p t→MT s W p t:=
 fW (Q:=fun p=>∀t,MT s u p t→MT s W p t) fun p hk _ t h=>by
  rw[nI]at h ⊢;split at h
  ·rename_i h5;rw[if_pos h5];exact⟨h.1,h.2.1,aYp hk h.2.2⟩
  rename_i h5;rw[if_neg h5];split at h
  ·rename_i h7;rw[if_pos h7];refine⟨h.1,h.2.1,aYp hk h.2.2.1,?_⟩;have h4:=h.2.2.2;split at h4
   ·rename_i hr;rw[if_pos hr];exact h4
   ·rename_i hr;rw[if_neg hr];exact O8 e h4
  rename_i h7;rw[if_neg h7];split at h
  ·rename_i h8;rw[if_pos h8];obtain⟨h0,L,es,left,h1,h2,h3,h4,h6⟩:=h;refine⟨h0,L,es,left,h1,h2,h3,aYp hk h4,?_⟩;split at h6
   ·rename_i hr;rw[if_pos hr];exact h6
   ·rename_i hr;rw[if_neg hr];exact O8 e h6
  rename_i h8;rw[if_neg h8];split at h
  ·rename_i h6;rw[if_pos h6];exact O8 e h
  ·rename_i h6;rw[if_neg h6];exact h
theorem aBj{s:dK}{u W:LSub}(e:Ext u W){ps ts:List LTerm}(h:ML s u ps ts):ML s W ps ts:=aYp (fun p _ t=>aBi e p t) h
def pwB(p:LTerm):Bool:=(!(decide (p.kind=7)||decide (p.kind=8))||(decide (p.rest.length≤1)&&p.rest.all fun r=>decide (r.kind=6))) &&
 (!decide (p.kind=8)||(decide (p.kids.length % 2=0)&&(List.range (p.kids.length / 2)).all fun i=>decide ((p.kids.getD (2*i) default).kind=6)||isKey (p.kids.getD (2*i) default)))
def sgB(f:Str→Str)(p:LTerm):Bool:=(!decide (p.kind=6)||(decide (p.text=[95])||decide (p.sort=f p.text)))&&p.rest.all fun r=>decide (r.text=[95])||decide (r.sort=f r.text)
structure PT(s:dK)(t:LTerm):Prop where
 wf:wfT nodeB t=true
 pl:plainP s t=true
theorem PT.kid{s:dK}{t k:LTerm}(h:PT s t)(hk:k∈t.kids):PT s k:=⟨(eN.1 h.wf).2 k hk,bKs h.pl k hk⟩
theorem PT.map{s:dK}{t:LTerm}(h:PT s t)(h8:t.kind=8):∃L,t.kids=fl L∧aPp L∧bPn L:=by
 obtain⟨L,hL⟩:=bMm (aTh (eN.1 h.wf).1 h8);have hp:=h.pl;rw[lT,if_neg (by omega),if_pos h8]at hp;simp only[aD]at hp;have:=(aKq hL).1 hp.2;exact⟨L,hL,this.1,this.2⟩
theorem A8{L:List PE}(h:aPp L):L.Nodup:=by
 refine(aCe.1 h).imp fun{a b} hab e=>?_;rw[e,bBa]at hab;omega
theorem uM{a b:List PE}(h:fl a=fl b):a=b:=by rw[← aGc (es:=a),h,aGc]
theorem B6{u v:LSub}{x:Str}:mOf (u++v) x=match mOf u x with|some t=>some t|none=>mOf v x:=by
 rw[mOf,mOf,mOf,List.find?_append];cases u.find? fun p=>decide (p.1=x)<;>rfl
theorem sZ{p:LPr}{u:LSub}{x:Str}:mOf (p::u) x=if p.1=x then some p.2 else mOf u x:=by
 rw[mOf,zX];by_cases h:p.1=x
 ·rw[zt h,if_pos h];rfl
 ·rw[zf h,if_neg h];rfl
theorem bRw{u:LSub}{x y:Str}{t:LTerm}(h:¬x=y):mOf (T8 u x t) y=mOf u y:=by
 have e:mOf u y=mOf (u.take (aHn u x u.length)++u.drop (aHn u x u.length)) y:=by rw[dU]
 rw[e,T8,B6,B6,sZ,if_neg h]
theorem xK{u:LSub}{x y:Str}{t:LTerm}(h:mOf u x=none):mOf (T8 u x t) y=if x=y then some t else mOf u y:=by
 by_cases hx:x=y
 ·subst hx;rw[if_pos rfl,T8,B6];have:mOf (u.take (aHn u x u.length)) x=none:=by
   have e:mOf u x=mOf (u.take (aHn u x u.length)++u.drop (aHn u x u.length)) x:=by rw[dU]
   rw[h,B6]at e;cases ho:mOf (u.take (aHn u x u.length)) x with
   |none=>rfl
   |some o=>rw[ho]at e;cases e
  rw[this,sZ,if_pos rfl]
 ·rw[if_neg hx,bRw hx]
theorem aOu{s:dK}{v t:LTerm}{u u':LSub}(h:u'∈mM s v t u):iQ s (kI s t) v.sort=true∧((v.text=[95]∧u'=u)∨(¬v.text=[95]∧((mOf u v.text=some t∧u'=u)∨(mOf u v.text=none∧u'=T8 u v.text t)))):=by
 rw[mM]at h;split at h
 ·rename_i ha;refine⟨ha,?_⟩;split at h
  ·rename_i hw;exact .inl ⟨hw,aP.1 h⟩
  ·rename_i hw;refine .inr ⟨hw,?_⟩;cases ho:mOf u v.text with
   |some o=>
    rw[ho]at h;dsimp only at h;split at h
    ·rename_i e;exact .inl ⟨by rw[e],aP.1 h⟩
    ·cases h
   |none=>
    rw[ho]at h;exact .inr ⟨rfl,aP.1 h⟩
 ·cases h
structure Snd(s:dK)(f:Str→Str)(u u':LSub):Prop where
 ext:Ext u u'
 noW:NoW u'
 si:SI s f u→SI s f u'
theorem Snd.refl{s:dK}{f:Str→Str}{u:LSub}(h:NoW u):Snd s f u u:=⟨Ext.refl u,h,id⟩
theorem Snd.trans{s:dK}{f:Str→Str}{u v w:LSub}(a:Snd s f u v)(b:Snd s f v w):Snd s f u w:=⟨a.ext.trans b.ext,b.noW,fun h=>b.si (a.si h)⟩
theorem F0{s:dK}{f:Str→Str}{v t:LTerm}{u u':LSub}(hf:v.text=[95]∨v.sort=f v.text)(hn:NoW u)(h:u'∈mM s v t u):Snd s f u u'∧MB s u' v t:=by
 obtain⟨ha,⟨hw,rfl⟩|⟨hw,⟨ho,rfl⟩|⟨ho,rfl⟩⟩⟩:=aOu h
 ·exact⟨Snd.refl hn,by rw[MB,if_pos hw];exact ha⟩
 ·exact⟨Snd.refl hn,by rw[MB,if_neg hw];exact ho⟩
 ·have hs:v.sort=f v.text:=hf.resolve_left hw;refine⟨⟨fun x y hx=>?_,?_,fun hi x y hx=>?_⟩,?_⟩
  ·rw[xK ho];split
   ·rename_i e;rw[e,hx]at ho;cases ho
   ·exact hx
  ·show mOf _ _=none;rw[xK ho,if_neg hw];exact hn
  ·rw[xK ho]at hx;split at hx
   ·rename_i e;cases hx;rw[← e,← hs];exact ha
   ·exact hi x y hx
  ·rw[MB,if_neg hw,xK ho,if_pos rfl]
theorem F3{s:dK}{f:Str→Str}{v t:LTerm}{u W:LSub}(hf:v.text=[95]∨v.sort=f v.text)(hi:SI s f W)(he:Ext u W)(h:MB s W v t):∃u'∈mM s v t u,Ext u' W:=by
 rw[MB]at h;split at h
 ·rename_i hw;exact⟨u,by rw[mM,if_pos h,if_pos hw];exact aP.2 rfl,he⟩
 ·rename_i hw;have ha:iQ s (kI s t) v.sort=true:=by rw[hf.resolve_left hw];exact hi _ _ h
  cases ho:mOf u v.text with
  |some o=>
   have:=he _ _ ho;rw[h]at this;cases this;exact⟨u,by rw[mM,if_pos ha,if_neg hw,ho];dsimp only;rw[if_pos rfl];exact aP.2 rfl,he⟩
  |none=>
   refine⟨T8 u v.text t,by rw[mM,if_pos ha,if_neg hw,ho];exact aP.2 rfl,fun x y hx=>?_⟩;rw[xK ho]at hx;split at hx
   ·rename_i e;cases hx;rw[← e];exact h
   ·exact he _ _ hx
def bWr(s:dK)(f:Str→Str)(F:FF)(p:LTerm):Prop:=∀t u u',PT s t→NoW u→u'∈F p t u→Snd s f u u'∧MT s u' p t
def bXo(s:dK)(f:Str→Str)(F:FF)(p:LTerm):Prop:=∀t u W,PT s t→NoW W→Ext u W→SI s f W→MT s W p t→∃u'∈F p t u,Ext u' W
theorem aZb{s:dK}{W:LSub}{p t:LTerm}(h6:p.kind=6):MT s W p t↔MB s W p t:=by
 rw[nI,if_neg (by omega),if_neg (by omega),if_neg (by omega),if_pos h6]
theorem bIm{s:dK}{W:LSub}{p t:LTerm}(hk:isKey p=true):MT s W p t↔p=t:=by
 simp only[isKey,cB,decide_eq_true_eq]at hk;rw[nI,if_neg (by omega),if_neg (by omega),if_neg (by omega),if_neg (by omega)]
section
variable {s:dK} {f:Str→Str} {F:FF}
theorem aLd{ts:List LTerm}{u:LSub}:aPo F [] ts u=[u]:=by cases ts<;>rfl
theorem X5:∀{ps ts:List LTerm} {u u':LSub},(∀p∈ps,bWr s f F p)→(∀t∈ts,PT s t)→ps.length=ts.length→NoW u→u'∈aPo F ps ts u→Snd s f u u'∧ML s u' ps ts
 | [],[],u,u',_,_,_,hn,h=>by
   rw[aLd,aP]at h;subst h;exact⟨Snd.refl hn,by rw[ML];trivial⟩
 |p::ps,t::ts,u,u',hF,ht,hl,hn,h=>by
  rw[aPo]at h;obtain⟨v,hv,h⟩:=cH.1 h;obtain⟨a1,a2⟩:=hF p dC t u v (ht t dC) hn hv;obtain⟨b1,b2⟩:=X5 (fun q hq=>hF q (bU _ hq)) (fun q hq=>ht q (bU _ hq)) (by simpa using hl) a1.noW h;exact⟨a1.trans b1,by rw[ML];exact⟨aBi b1.ext p t a2,b2⟩⟩
 | [],_::_,_,_,_,_,hl,_,_=>by simp at hl
 |_::_,[],_,_,_,_,hl,_,_=>by simp at hl
theorem aGk:∀{ps ts:List LTerm} {u W:LSub},(∀p∈ps,bXo s f F p)→(∀t∈ts,PT s t)→NoW W→Ext u W→SI s f W→ML s W ps ts→∃u'∈aPo F ps ts u,Ext u' W
 | [],[],u,W,_,_,_,he,_,_=>⟨u,by rw[aLd];exact aP.2 rfl,he⟩
 |p::ps,t::ts,u,W,hF,ht,hn,he,hi,h=>by
  rw[ML]at h;obtain⟨v,hv,e1⟩:=hF p dC t u W (ht t dC) hn he hi h.1;obtain⟨w,hw,e2⟩:=aGk (fun q hq=>hF q (bU _ hq)) (fun q hq=>ht q (bU _ hq)) hn e1 hi h.2;exact⟨w,by rw[aPo];exact cH.2 ⟨v,hv,hw⟩,e2⟩
 | [],_::_,_,_,_,_,_,_,_,h=>by rw[ML]at h;exact h.elim
 |_::_,[],_,_,_,_,_,_,_,h=>by rw[ML]at h;exact h.elim
theorem aVv:∀{L:List PE} {k:Nat},aKk (fl L) (2*k)=fl (L.eraseIdx k)
 | [],k=>by rw[aKk];simp[fl]
 |e::L,0=>by rw[aKk,lL];rfl
 |e::L,k+1=>by
  have:=aVv (L:=L) (k:=k);rw[aKk]at this ⊢;rw[lL,show 2*(k+1)=2*k+1+1 by omega,aO,aO,aV,aV,List.eraseIdx_cons_succ,lL,← this];rfl
structure KOk(f:Str→Str)(q:LTerm):Prop where
 key:q.kind=6∨isKey q=true
 sg:q.kind=6→q.text=[95]∨q.sort=f q.text
theorem aQw{key:LTerm}{w:mS}{k:Nat}{u':LSub}(hk:KOk f key)(hn:NoW w.u)(h:u'∈lE s key w k):Snd s f w.u u'∧MT s u' key (w.left.getD (2*k) default):=by
 rcases hk.key with h6|hK
 ·rw[lE,if_pos h6]at h
  rw[aZb h6];cases ho:mOf w.u key.text with
  |none=>rw[ho]at h;exact F0 (hk.sg h6) hn h
  |some a=>
   rw[ho]at h;dsimp only at h;split at h
   ·rename_i e;obtain rfl:=aP.1 h;refine⟨Snd.refl hn,?_⟩;have hw:¬key.text=[95]:=fun hw=>by rw[hw]at ho;rw[NoW]at hn;rw[hn]at ho;cases ho
    rw[MB,if_neg hw,ho,e]
   ·cases h
 ·have h6:¬key.kind=6:=by simp only[isKey,cB,decide_eq_true_eq]at hK;omega
  rw[lE,if_neg h6]at h;dsimp only at h;split at h
  ·rename_i e;obtain rfl:=aP.1 h;exact⟨Snd.refl hn,(bIm hK).2 e⟩
  ·cases h
theorem aQx{key:LTerm}{w:mS}{k:Nat}{W:LSub}(hk:KOk f key)(hn:NoW W)(he:Ext w.u W)(hi:SI s f W)(h:MT s W key (w.left.getD (2*k) default)):∃u'∈lE s key w k,Ext u' W:=by
 rcases hk.key with h6|hK
 ·rw[aZb h6]at h;rw[lE,if_pos h6];cases ho:mOf w.u key.text with
  |none=>exact F3 (hk.sg h6) hi he h
  |some a=>
   have ha:=he _ _ ho;have hw:¬key.text=[95]:=fun hw=>by rw[hw,show mOf W [95]=none from hn]at ha;cases ha
   rw[MB,if_neg hw,ha]at h;cases h;dsimp only;rw[if_pos rfl];exact⟨w.u,aP.2 rfl,he⟩
 ·have h6:¬key.kind=6:=by simp only[isKey,cB,decide_eq_true_eq]at hK;omega
  rw[lE,if_neg h6];dsimp only;rw[if_pos ((bIm hK).1 h)];exact⟨w.u,aP.2 rfl,he⟩
theorem aSi{α:Type}{L:List α}{d:α}{k:Nat}(h:k<L.length):L.Perm (L.getD k d::L.eraseIdx k):=by
 have e:L=L.take k++L.getD k d::L.drop (k+1):=by
  rw[cW,bO h,fG,← eV h,dU]
 have e2:L.eraseIdx k=L.take k++L.drop (k+1):=List.eraseIdx_eq_take_drop_succ _ _;rw[e2];conv=>lhs;rw[e]
 exact List.perm_middle
theorem bNc{key value:LTerm}{w w':mS}{left:List PE}(hk:KOk f key)(hv:bWr s f F value)(hl:w.left=fl left)(hp:∀e∈left,PT s e.2)(hn:NoW w.u)(h:w'∈bMx F s key value w) :
 ∃k,k<left.length∧Snd s f w.u w'.u∧MT s w'.u key (left.getD k default).1∧MT s w'.u value (left.getD k default).2∧w'.left=fl (left.eraseIdx k):=by
 rw[bMx]at h;obtain⟨k,hk1,h⟩:=cH.1 h;obtain⟨u',hu',rfl⟩:=dX.1 h;obtain⟨v,hv1,hv2⟩:=cH.1 hu';rw[eC,hl,nF]at hk1;have hk2:k<left.length:=by omega
 rw[hl,aEd hk2]at hv2;obtain⟨a1,a2⟩:=aQw hk hn hv1;rw[hl,xY hk2]at a2;obtain⟨b1,b2⟩:=hv _ _ _ (hp _ (cS hk2)) a1.noW hv2;exact⟨k,hk2,a1.trans b1,aBi b1.ext _ _ a2,b2,by dsimp only;rw[hl,aVv]⟩
theorem aJi{l:List LTerm}{k:Nat}(h:2*k+1<l.length):l.take (2*(k+1))=l.take (2*k)++[l.getD (2*k) default,l.getD (2*k+1) default]:=by
 rw[show 2*(k+1)=2*k+1+1 by omega,fI (d:=default) h,fI (d:=default) (by omega:2*k<l.length),cM];rfl
theorem aQm{p:LTerm}{u:LSub}{L:List PE}(hk:∀i,2*i+1<p.kids.length→KOk f (p.kids.getD (2*i) default))(hv:∀q∈p.kids,bWr s f F q)(hp:∀e∈L,PT s e.2)(hn:NoW u):∀(k:Nat),2*k≤p.kids.length→∀w∈aVg F s p k ⟨u,fl L⟩,
 ∃es left:List PE,w.left=fl left∧L.Perm (es++left)∧left.Sublist L∧ML s w.u (p.kids.take (2*k)) (fl es)∧Snd s f u w.u
 |0,_,w,hw=>by
  rw[aVg,aP]at hw;subst hw;exact⟨[],L,rfl,List.Perm.refl _,List.Sublist.refl _,by simp[ML,fl],Snd.refl hn⟩
 |k + 1,hle,w,hw=>by
  rw[aVg]at hw;obtain⟨w0,hw0,hw⟩:=cH.1 hw;obtain⟨es,left,h1,h2,h3,h4,h5⟩:=aQm hk hv hp hn k (by omega) w0 hw0;obtain⟨j,g1,g2,g3,g4,g5⟩:=bNc (hk k (by omega)) (hv _ (cS (by omega))) h1 (fun e he=>hp e (h3.subset he)) h5.noW hw;refine⟨es++[left.getD j default],left.eraseIdx j,g5,?_,(List.eraseIdx_sublist _ _).trans h3,?_,h5.trans g2⟩
  ·rw[cM];exact h2.trans (List.Perm.append_left es (aSi g1))
  ·rw[aJi (by omega),bGr];refine aYt (aBj g2.ext h4) ?_;simp only[fl,List.flatMap_cons,List.flatMap_nil,List.append_nil,ML,and_true];exact⟨g3,g4⟩
theorem bQo{α:Type}{d:α}:∀{left rem:List α} {j:Nat},left.Sublist rem→j<rem.length→¬rem.getD j d∈left→left.Sublist (rem.eraseIdx j):=by
 intro left rem j h;induction h generalizing j with
 |slnil=>intro hj;simp at hj
 | @cons l1 l2 a h ih=>
   intro hj hn;cases j with
   |zero=>exact h
   |succ j=>exact(ih (by simpa using hj) (by simpa using hn)).cons a
 | @cons_cons l1 l2 a h ih=>
   intro hj hn;cases j with
   |zero=>exact absurd dC hn
   |succ j=>exact(ih (by simpa using hj) (fun hm=>hn (bU _ (by simpa using hm)))).cons_cons a
theorem aQo{p:LTerm}{u W:LSub}{L es left:List PE}(hk:∀i,2*i+1<p.kids.length→KOk f (p.kids.getD (2*i) default))(hv:∀q∈p.kids,bXo s f F q)(hp:∀e∈L,PT s e.2)(hn:NoW W)(he:Ext u W)(hi:SI s f W)
 (hnd:L.Nodup) (hP:L.Perm (es++left)) (hS:left.Sublist L) (hm:ML s W p.kids (fl es)):∀(k:Nat),k≤es.length→∃w∈aVg F s p k ⟨u,fl L⟩,∃rem:List PE,w.left=fl rem∧rem.Perm (es.drop k++left)∧left.Sublist rem∧rem.Sublist L∧Ext w.u W
 |0,_=>⟨⟨u,fl L⟩,by rw[aVg];exact aP.2 rfl,L,rfl,hP,hS,List.Sublist.refl _,he⟩
 |k + 1,hle=>by
  obtain⟨w,hw,rem,h1,h2,h3,h4,h5⟩:=aQo hk hv hp hn he hi hnd hP hS hm k (by omega);have hlen:p.kids.length=2*es.length:=by rw[C7 hm,nF]
  have hke:k<es.length:=by omega
  rw[eV hke,aC]at h2;have hmem:es[k]∈rem:=h2.mem_iff.2 dC;obtain⟨j,hj,hje⟩:=dJ.1 hmem;have hjd:rem.getD j default=es[k]:=by rw[cW,bO hj,hje];rfl
  have hed:es.getD k default=es[k]:=by rw[cW,bO hke];rfl
  have hrn:rem.Nodup:=h4.nodup hnd;have hP2:(rem.eraseIdx j).Perm (es.drop (k+1)++left):=by
   have:=(aSi (d:=default) hj).symm.trans h2;rw[hjd]at this;exact this.cons_inv
  have hnl:¬es[k]∈left:=fun hl=>by
   have hn2:(es[k]::(es.drop (k+1)++left)).Nodup:=h2.nodup_iff.1 hrn;exact(jJ.1 hn2).1 (eK _ hl)
  have hS2:left.Sublist (rem.eraseIdx j):=bQo (d:=default) h3 hj (by rw[hjd];exact hnl);have a1:MT s W (p.kids.getD (2*k) default) (w.left.getD (2*j) default):=by
   have:=aYs hm (i:=2*k) (by omega);rw[xY hke,hed]at this;rw[h1,xY hj,hjd];exact this
  have a2:MT s W (p.kids.getD (2*k+1) default) (w.left.getD (2*j+1) default):=by
   have:=aYs hm (i:=2*k+1) (by omega);rw[aEd hke,hed]at this;rw[h1,aEd hj,hjd];exact this
  obtain⟨v,hv1,hv2⟩:=aQx (hk k (by omega)) hn h5 hi a1;obtain⟨x,hx1,hx2⟩:=hv _ (cS (by omega)) _ v W (by rw[h1,aEd hj];exact hp _ (h4.subset (cS hj))) hn hv2 hi a2;refine⟨⟨x,aKk w.left (2*j)⟩,?_,rem.eraseIdx j,by dsimp only;rw[h1,aVv],hP2,hS2,(List.eraseIdx_sublist _ _).trans h4,hx2⟩;rw[aVg];refine cH.2 ⟨w,hw,?_⟩;rw[bMx];refine cH.2 ⟨j,eC.2 (by rw[h1,nF];omega),dX.2 ⟨x,cH.2 ⟨v,hv1,hx1⟩,rfl⟩⟩
end
structure PW(f:Str→Str)(p:LTerm):Prop where
 pw:wfT pwB p=true
 sg:wfT (sgB f) p=true
section
variable {s:dK} {f:Str→Str} {p:LTerm}
theorem PW.kid(h:PW f p){k:LTerm}(hk:k∈p.kids):PW f k:=⟨(eN.1 h.pw).2 k hk,(eN.1 h.sg).2 k hk⟩
theorem PW.var(h:PW f p)(h6:p.kind=6):p.text=[95]∨p.sort=f p.text:=by
 have:=(eN.1 h.sg).1;rw[sgB,aD,zt h6]at this;simpa using this.1
theorem PW.rst(h:PW f p)(h7:p.kind=7∨p.kind=8){r:LTerm}(hr:r∈p.rest):r.kind=6∧(r.text=[95]∨r.sort=f r.text):=by
 have h1:=(eN.1 h.pw).1;have h2:=(eN.1 h.sg).1;rw[pwB,aD,show(decide (p.kind=7)||decide (p.kind=8))=true by rcases h7 with e|e<;>simp[e],aA,dD,aD]at h1;rw[sgB,aD]at h2;have h3:=bC.1 h1.1.2 r hr;have h4:=bC.1 h2.2 r hr;simp only[cB,decide_eq_true_eq]at h3 h4;exact⟨h3,h4⟩
theorem PW.even(h:PW f p)(h8:p.kind=8):p.kids.length % 2=0:=by
 have h1:=(eN.1 h.pw).1;rw[pwB,aD,zt h8,aA,dD,aD,decide_eq_true_eq]at h1;exact h1.2.1
theorem PW.key(h:PW f p)(h8:p.kind=8)(i:Nat)(hi:2*i+1<p.kids.length):KOk f (p.kids.getD (2*i) default):=by
 have h1:=(eN.1 h.pw).1;rw[pwB,aD,zt h8,aA,dD,aD]at h1;have h2:=bC.1 h1.2.2 i (eC.2 (by omega));rw[cB,decide_eq_true_eq]at h2;exact⟨h2,fun h6=>(h.kid (cS (by omega))).var h6⟩
theorem lG(h:¬p.rest=[]):p.rest.getD 0 default∈p.rest:=cS (fE.2 h)
theorem bBy(h5:¬p.kind=5)(h7:¬p.kind=7)(h8:¬p.kind=8)(hp:p.kind=6→p.text=[95]∨p.sort=f p.text){t:LTerm}{u u':LSub}(hn:NoW u)(h:u'∈iJ s p t u):Snd s f u u'∧MT s u' p t:=by
 rw[iJ]at h;split at h
 ·rename_i h6;rw[aZb h6];exact F0 (hp h6) hn h
 ·rename_i h6;split at h
  ·rename_i e;obtain rfl:=aP.1 h;exact⟨Snd.refl hn,by rw[nI,if_neg h5,if_neg h7,if_neg h8,if_neg h6];exact e⟩
  ·cases h
theorem bBz(h5:¬p.kind=5)(h7:¬p.kind=7)(h8:¬p.kind=8)(hp:p.kind=6→p.text=[95]∨p.sort=f p.text){t:LTerm}{u W:LSub}(he:Ext u W)(hi:SI s f W)(h:MT s W p t):∃u'∈iJ s p t u,Ext u' W:=by
 rw[iJ];by_cases h6:p.kind=6
 ·rw[if_pos h6];exact F3 (hp h6) hi he ((aZb h6).1 h)
 ·rw[if_neg h6];rw[nI,if_neg h5,if_neg h7,if_neg h8,if_neg h6]at h;rw[if_pos h];exact⟨u,aP.2 rfl,he⟩
theorem lP{t:LTerm}{L:List PE}(h:t.kids=fl L){e:PE}(he:e∈L):e.1∈t.kids∧e.2∈t.kids:=by
 rw[h];exact⟨L7.2 ⟨e,he,.inl rfl⟩,L7.2 ⟨e,he,.inr rfl⟩⟩
theorem aQl{p:LTerm}(h:p.kids.length % 2=0):p.kids.take (2*(p.kids.length / 2))=p.kids:=by
 rw[show 2*(p.kids.length / 2)=p.kids.length by omega,fH]
theorem aYb:∀(n:Nat) (p:LTerm),PW f p→nodesT p≤n→bWr s f (U9 s n) p
 |0,p,_,h=>by rw[eW]at h;omega
 |n + 1,p,hp,hn=>fun t u u' ht hu h=>by
  have hno:=eW p;have IH:∀k∈p.kids,bWr s f (U9 s n) k:=fun k hk=>aYb n k (hp.kid hk) (by have:=(iI hk).1;omega);rw[U9]at h;by_cases h5:p.kind=5
  ·rw[if_pos h5]at h;split at h
   ·rename_i hc;obtain⟨a,b⟩:=X5 IH (fun k hk=>ht.kid hk) hc.2.2.symm hu h;exact⟨a,by rw[nI,if_pos h5];exact⟨hc.1,hc.2.1,b⟩⟩
   ·cases h
  rw[if_neg h5]at h;by_cases h7:p.kind=7
  ·rw[if_pos h7]at h
   split at h
   ·rename_i hc;have htk:∀k∈t.kids.take p.kids.length,PT s k:=fun k hk=>ht.kid (dI hk);have hlen:p.kids.length=(t.kids.take p.kids.length).length:=by rw[cN];omega
    split at h
    ·rename_i hr;obtain⟨v,hv,h⟩:=cH.1 h;obtain⟨a,b⟩:=X5 IH htk hlen hu hv;have hrn:¬p.rest=[]:=fE.1 hr;obtain⟨r1,r2⟩:=hp.rst (.inl h7) (lG hrn);rw[iJ,if_pos r1]at h;obtain⟨c,d⟩:=F0 r2 a.noW h;exact⟨a.trans c,by rw[nI,if_neg h5,if_pos h7,if_neg hrn];exact⟨hc.1,hc.2.1,aBj c.ext b,d⟩⟩
    ·rename_i hr;obtain⟨a,b⟩:=X5 IH htk hlen hu h;have hrn:p.rest=[]:=List.eq_nil_of_length_eq_zero (by omega);have:=hc.2.2 (by omega);exact⟨a,by rw[nI,if_neg h5,if_pos h7,if_pos hrn];exact⟨hc.1,hc.2.1,b,by omega⟩⟩
   ·cases h
  rw[if_neg h7]at h;by_cases h8:p.kind=8
  ·rw[if_pos h8]at h
   split at h
   ·rename_i hc;obtain⟨L,hL,hLs,hLk⟩:=ht.map hc;rw[hL]at h;obtain⟨w,hw,h⟩:=cH.1 h;have hev:=hp.even h8;obtain⟨es,left,g1,g2,g3,g4,g5⟩:=aQm (L:=L) (fun i hi=>hp.key h8 i hi) IH (fun e he=>ht.kid (lP hL he).2) hu _ (by omega) w hw;rw[aQl hev]at g4;rw[B7]at h;split at h
    ·rename_i hr;have hrn:¬p.rest=[]:=fE.1 hr;obtain⟨r1,r2⟩:=hp.rst (.inr h8) (lG hrn);obtain⟨c,d⟩:=F0 r2 g5.noW h;rw[g1]at d;exact⟨g5.trans c,by rw[nI,if_neg h5,if_neg h7,if_pos h8];exact⟨hc,L,es,left,hL,g2,g3,aBj c.ext g4,by rw[if_neg hrn];exact d⟩⟩
    ·rename_i hr;have hrn:p.rest=[]:=List.eq_nil_of_length_eq_zero (by omega);split at h
     ·rename_i hl;obtain rfl:=aP.1 h;refine⟨g5,?_⟩;rw[nI,if_neg h5,if_neg h7,if_pos h8];exact⟨hc,L,es,left,hL,g2,g3,g4,by rw[if_pos hrn];exact List.eq_nil_of_length_eq_zero (by rw[g1,nF]at hl;omega)⟩
     ·cases h
   ·cases h
  rw[if_neg h8]at h;exact bBy h5 h7 h8 hp.var hu h
theorem aYc:∀(n:Nat) (p:LTerm),PW f p→nodesT p≤n→bXo s f (U9 s n) p
 |0,p,_,h=>by rw[eW]at h;omega
 |n + 1,p,hp,hn=>fun t u W ht hu he hi h=>by
  have hno:=eW p;have IH:∀k∈p.kids,bXo s f (U9 s n) k:=fun k hk=>aYc n k (hp.kid hk) (by have:=(iI hk).1;omega);rw[U9];by_cases h5:p.kind=5
  ·rw[nI,if_pos h5]at h;rw[if_pos h5,if_pos ⟨h.1,h.2.1,(C7 h.2.2).symm⟩];exact aGk IH (fun k hk=>ht.kid hk) hu he hi h.2.2
  rw[if_neg h5];by_cases h7:p.kind=7
  ·rw[nI,if_neg h5,if_pos h7]at h;obtain⟨g1,g2,g3,g4⟩:=h;have htk:∀k∈t.kids.take p.kids.length,PT s k:=fun k hk=>ht.kid (dI hk);have hc:t.kind=7∧p.kids.length≤t.kids.length∧(p.rest.length=0→t.kids.length≤p.kids.length):=⟨g1,g2,fun h0=>by
    rw[if_pos (List.eq_nil_of_length_eq_zero h0)]at g4;omega⟩
   rw[if_pos h7,if_pos hc];obtain⟨v,hv,e1⟩:=aGk IH htk hu he hi g3;by_cases hr:0<p.rest.length
   ·have hrn:¬p.rest=[]:=fE.1 hr;rw[if_neg hrn]at g4;obtain⟨r1,r2⟩:=hp.rst (.inl h7) (lG hrn);obtain⟨x,hx,e2⟩:=F3 r2 hi e1 g4;rw[if_pos hr];exact⟨x,cH.2 ⟨v,hv,by rw[iJ,if_pos r1];exact hx⟩,e2⟩
   ·rw[if_neg hr];exact⟨v,hv,e1⟩
  rw[if_neg h7];by_cases h8:p.kind=8
  ·rw[nI,if_neg h5,if_neg h7,if_pos h8]at h;obtain⟨g1,L,es,left,hL,g2,g3,g4,g5⟩:=h;obtain⟨L',hL',hLs,hLk⟩:=ht.map g1;obtain rfl:L=L':=uM (hL.symm.trans hL');rw[if_pos h8,if_pos g1,hL];have hlen:p.kids.length=2*es.length:=by rw[C7 g4,nF]
   obtain⟨w,hw,rem,k1,k2,k3,k4,k5⟩:=aQo (f:=f) (fun i hi=>hp.key h8 i hi) IH (fun e he=>ht.kid (lP hL he).2) hu he hi (A8 hLs) g2 g3 g4 es.length (bV _);rw[List.drop_length,aE]at k2;obtain rfl:left=rem:=k3.eq_of_length k2.length_eq.symm;rw[show p.kids.length / 2=es.length by omega];by_cases hr:p.rest=[]
   ·rw[if_pos hr]at g5;refine⟨w.u,cH.2 ⟨w,hw,?_⟩,k5⟩;rw[B7,if_neg (by rw[hr];simp),if_pos (by rw[k1,g5];rfl)];exact aP.2 rfl
   ·rw[if_neg hr]at g5;obtain⟨r1,r2⟩:=hp.rst (.inr h8) (lG hr);rw[← k1]at g5;obtain⟨x,hx,e2⟩:=F3 r2 hi k5 g5;exact⟨x,cH.2 ⟨w,hw,by rw[B7,if_pos (fE.2 hr)];exact hx⟩,e2⟩
  rw[if_neg h8];exact bBz h5 h7 h8 hp.var he hi h
end
end Go.Proofs.YtdjcggcjlphdoaaGreatDoor
