/-
  Functions of the chapter, as plain functions of what they are given; no condition.
-/
import Derived.Test.YtdjcggcjlphdoaaGreatDoorTeP13
import Derived.Test.YtdjcggcjlphdoaaGreatDoorVaP11
import Derived.Test.YtdjcggcjlphdoaaGreatDoorVoP18
import Derived.Test.YtdjcggcjlphdoaaGreatDoorSoP12
set_option maxRecDepth 100000
set_option linter.unusedSimpArgs false
set_option linter.unusedVariables false
set_option maxHeartbeats 4000000
namespace Go.Proofs.YtdjcggcjlphdoaaGreatDoor
open Go Go.Vo
open Nat (reduceAdd reduceSub reduceMul reduceLeDiff reduceLT reduceEqDiff)
open Int (reduceNeg)
def D4(n:Nat)(h h':List AObj):Prop:=∀(i:Nat) (z:List AV),n≤i→h[i]? = some (.box false z)→h'[i]? = some (.box false z)
theorem D4.trans{n:Nat}{a b c:List AObj}(x:D4 n a b)(y:D4 n b c):D4 n a c:=fun i z hi h=>y i z hi (x i z hi h)
theorem D4.app(n:Nat)(h m:List AObj):D4 n h (h++m):=fun i z _ x=>by rw[aG (bP x)];exact x
abbrev WalkC{α:Type}(n:Nat)(R:α→List AObj→Prop)(h:List AObj)(b:α):AV→List AObj→Prop:=fun r h'=>r=.tup []∧R b h'∧D4 n h h'
structure bSa{α:Type}(F:FuncId)(capt:List AV)(n:Nat)(R:α→List AObj→Prop)(φ:LTerm×Int→α→α)(P:α→List (LTerm×Int)→Prop):Prop where
 app:∀a h z,R a h→R a (h++z)
 len:∀a h,R a h→n≤h.length
 ok:∀a v l h,P a (v::l)→OkT v.1→R a h→(0≤v.2∧v.2≤1000∧v.1.kids.length+v.1.rest.length≤1000000)∧P (φ v a) l∧ACalls Tryz.prog G0 F (elT v.1::.i .i64 v.2::capt) h (WalkC n R h (φ v a))
theorem bSa.all{α:Type}{F:FuncId}{capt:List AV}{n:Nat}{R:α→List AObj→Prop}{φ:LTerm×Int→α→α}{P:α→List (LTerm×Int)→Prop}(V:bSa F capt n R φ P)(a0:α)(h0:List AObj)(hh:∀a,∃h,R a h){m:List (LTerm×Int)}:∀{l:List (LTerm×Int)} {a:α},P a (l++m)→(∀v∈l,OkT v.1)→P (oB φ a l) m
 | [],a,h,_=>h
 |v::l,a,h,ho=>by
  obtain⟨h1,r1⟩:=hh a;exact V.all a0 h0 hh (l:=l) (V.ok a v _ h1 h (ho v (by simp)) r1).2.1 (fun x hx=>ho x (by simp[hx]))
theorem bTd{α:Type}{F:FuncId}{capt:List AV}{n:Nat}{R:α→List AObj→Prop}{φ:LTerm×Int→α→α}{P:α→List (LTerm×Int)→Prop}(V:bSa F capt n R φ P)(hh:∀a,∃h,R a h)(t:LTerm)(d:Int)(a:α)(m:List (LTerm×Int))(h:List AObj)(ht:OkT t)(hR:R a h)(hP:P a (vis t d++m))(ih:∀k∈t.kids++t.rest,∀(d:Int) (a:α) (m:List (LTerm×Int)) (h:List AObj),R a h→P a (vis k d++m)→ACalls Tryz.prog G0 99 [elT k,.i .i64 d,.fn F [] capt] h (WalkC n R h (oB φ a (vis k d)))): ACalls Tryz.prog G0 99 [elT t,.i .i64 d,.fn F [] capt] h (WalkC n R h (oB φ a (vis t d))):=by
 refine eJ (rx:=false) (th:=fun _=>none) cZ Tryz.func99 ?_
 ·simp -implicitDefEqProofs (disch:=omega) only[Tryz.f99,go_sem,List.replicate,simprocAttr];rw[pW,aH]at hP;obtain⟨⟨hd0,hd,hlen⟩,hP2,cv⟩:=V.ok a (t,d) _ (h++[.box false (tmC t)]) hP ht (V.app _ _ _ hR);have hn:=V.len _ _ hR;dsimp only at hd0 hd hlen hP2 cv;have hr:oB φ a (vis t d)=oB φ (φ (t,d) a) (visL (t.kids++t.rest) (d+1)):=by rw[pW];rfl
  rw[hr];have hoL:∀x∈t.kids++t.rest,OkT x:=fun x hx=>by
   rcases bM.1 hx with hx|hx
   ·exact ht.kid x hx
   ·exact ht.rst x hx
  have c:CT 164 [.sl [avt t.kids,avt t.rest] 2] (avt (t.kids++t.rest)):=by
   have:=bKx [t.kids,t.rest] (by simp) (by simp[aAf];omega);simpa using this
  have hLl:(t.kids++t.rest).length≤1000000:=by rw[List.length_append];exact hlen
  simp only[elT,aW,avt]at cv;generalize t.kids++t.rest=L at *
  generalize φ (t,d) a=a1 at *
  (refine zs0 ?_;repeat' first|exact trivial|refine zJ ?_ ?_|refine zH fun hc=>?_);refine fM cv ?_;rintro r h1 ⟨rfl,hR1,hs1⟩;have hb:h1[h.length]? = some (.box false (tmC t)):=hs1 _ _ hn (by simp);have hsg:D4 n h h1:=(D4.app n h _).trans hs1;refine zh hb ?_;(refine zy1 hb c ?_;repeat' first|exact trivial|refine zJ ?_ ?_|refine zH fun hc=>?_);have hite:∀(c:Bool) (k:Nat) (x:List AV),∃z,(if c=true then h1++[AObj.arr false k x]else h1++[AObj.arr true k x])=h1++[z]:=fun c k x=>by cases c<;>exact⟨_,rfl⟩
  obtain⟨z,hz⟩:=hite ((List.flatMap aP L).isEmpty&&L.length == 0) 1 [.sl (t.kids.flatMap aP) t.kids.length,.sl (t.rest.flatMap aP) t.rest.length];rw[hz];refine dF (fun(s:Nat×α×List AObj)=>(rp 7 .k (.j::(rp 11 .k (.v (.i .i64 (s.1:Nat))::(rp 9 .j [])))))) (fun s=>s.2.2) (fun s=>s.1≤L.length∧P s.2.1 (visL (L.drop s.1) (d+1)++m)∧oB φ a1 (visL L (d+1))=oB φ s.2.1 (visL (L.drop s.1) (d+1))∧R s.2.1 s.2.2∧D4 n h s.2.2) (fun s=>L.length-s.1) ((0,a1,h1++[z])) ⟨bJ _,hP2,rfl,V.app _ _ _ hR1,hsg.trans (.app _ _ _)⟩ rfl (by simp[hZ]) ?_;rintro⟨k,a2,h2⟩ j ⟨hk,hPk,he,hR2,hs2⟩;dsimp only at hk hPk he hR2 hs2;by_cases hlt:k<L.length
  ·have hki:(k:Int)<((L.length:Nat):Int):=by omega
   rw[J5 hlt,bU]at hPk;rw[J5 hlt,rL]at he;have hmm:=cT (d:=default) hlt;have ci:=ih _ hmm (d+1) a2 _ (h2++[.box false (tmC (L.getD k default))]) (V.app _ _ _ hR2) hPk;simp only[elT,aW,avt]at ci;refine zh (zt hki) ?_;(refine zx0 (zt hki) ?_;repeat' first|exact trivial|refine zJ ?_ ?_|refine zH fun hc=>?_);refine fM ci ?_;rintro r h3 ⟨rfl,hR3,hs3⟩;refine zg ?_;refine⟨(k+1,oB φ a2 (vis (L.getD k default) (d+1)),h3),⟨by dsimp only;omega,?_,he,hR3,hs2.trans ((D4.app _ _ _).trans hs3)⟩,by dsimp only;omega,rfl,by simp⟩;exact V.all a h hh hPk (bTf _ (hoL _ hmm) _)
  ·have hki:¬(k:Int)<((L.length:Nat):Int):=by omega
   refine zh (zf hki) ?_;(refine zx0 (zf hki) ?_;repeat' first|exact trivial|refine zJ ?_ ?_|refine zH fun hc=>?_);rw[cV (by omega)]at he;rw[he];exact⟨rfl,hR2,hs2⟩
theorem bLs{α:Type}{F:FuncId}{capt:List AV}{n:Nat}{R:α→List AObj→Prop}{φ:LTerm×Int→α→α}{P:α→List (LTerm×Int)→Prop}(V:bSa F capt n R φ P)(hh:∀a,∃h,R a h):∀(t:LTerm),OkT t→∀(d:Int) (a:α) (m:List (LTerm×Int)) (h:List AObj),R a h→P a (vis t d++m)→ACalls Tryz.prog G0 99 [elT t,.i .i64 d,.fn F [] capt] h (WalkC n R h (oB φ a (vis t d))):=
 fH fun t hk hr ht d a m h hR hP=>bTd V hh t d a m h ht hR hP fun k hm=>by
  rcases bM.1 hm with hm|hm
  ·exact hk k hm (ht.kid k hm)
  ·exact hr k hm (ht.rst k hm)
def cBu{α:Type}(_:α)(l:List (LTerm×Int)):Prop:=∀v∈l,0≤v.2∧v.2≤1000∧v.1.kids.length+v.1.rest.length≤1000000
theorem aSk{α:Type}{a:α}{t:LTerm}(h:iA nodeB t=true):cBu a (vis t 1++[]):=fun v hv=>(aSj h).2 v hv
theorem cDu(s:dX)(t:LTerm)(d:Int)(b:Bool)(x:AObj)(g:List AObj)(ht:OkT t): ACalls Tryz.prog G0 162 [elT t,.i .i64 d,.ptr 0 0,.ptr 2 0] (.box false [cM s]::x::.box false [.b b]::g) (fun r h'=>r=.tup []∧∃z,h'=.box false [cM s]::x::.box false [.b (aQm s (t,d) b)]::(g++z)):=by
 refine eJ (rx:=false) (th:=fun _=>none) cZ Tryz.func162 ?_
 ·simp -implicitDefEqProofs (disch:=omega) only[Tryz.f162,go_sem,List.replicate,simprocAttr];by_cases h5:t.kind=5
  ·have e:aQm s (t,d) b=(b||(lL s t.text).2.1):=by simp[aQm,h5]
   rw[e];refine zh (zt h5) ?_;(refine zy1 (zt h5) (aYu s t.text) ?_;repeat' first|exact trivial|refine zJ ?_ ?_|refine zH fun hc=>?_);all_goals
    subst_vars
    exact⟨_,rfl⟩
  ·have e:aQm s (t,d) b=b:=by simp[aQm,h5]
   rw[e];refine zh (zf h5) ?_;(refine zx0 (zf h5) ?_;repeat' first|exact trivial|refine zJ ?_ ?_|refine zH fun hc=>?_);all_goals exact⟨_,rfl⟩
theorem aFe{a b c c':AObj}{g z:List AObj}:D4 3 (a::b::c::g) (a::b::c'::(g++z)):=fun i y hi h=>by
 match i,hi with
 |i+3,_=>
  simp only[bZ]at h ⊢;rw[aG (bP h)];exact h
def HfR(s:dX)(x:AObj)(b:Bool)(h:List AObj):Prop:=∃g,h=.box false [cM s]::x::.box false [.b b]::g
theorem cCf(s:dX)(x:AObj):bSa 162 [.ptr 0 0,.ptr 2 0] 3 (HfR s x) (aQm s) cBu:=by
 refine⟨?_,?_,?_⟩
 ·rintro b h z ⟨g,rfl⟩;exact⟨g++z,rfl⟩
 ·rintro b h ⟨g,rfl⟩;simp
 ·rintro b ⟨t,d⟩ l h hP ho ⟨g,rfl⟩;refine⟨hP _ (by simp),fun v hv=>hP v (by simp[hv]),?_⟩;refine(cDu s t d b x g ho).mono ?_;rintro r h' ⟨rfl,z,rfl⟩;exact⟨rfl,⟨g++z,rfl⟩,aFe⟩
theorem bYd(s:dX)(t:LTerm)(ht:OkT t)(hv:iA nodeB t=true): CT 97 [cM s,elT t] (.b (oB (aQm s) false (vis t 1))):=by
 refine bQ cZ Tryz.func97 g0 ?_
 ·skip;have cw:=bLs (cCf s (.box false (tmC t))) (fun a=>⟨_,[],rfl⟩) t ht 1 false [] _ ⟨[],rfl⟩ (aSk (a:=false) hv);simp only[elT,aW,avt]at cw;(refine zs0 ?_;repeat' first|exact trivial|refine zJ ?_ ?_|refine zH fun hc=>?_);refine fM cw ?_;rintro r h' ⟨rfl,⟨g,rfl⟩,_⟩;refine zg ?_;exact bV rfl rfl
theorem aFs{l:List LTerm}{k:Nat}:nG l (k+1)=(nG l k&&bJr (l.getD (2*k) default)):=by
 unfold nG aKe;rw[sR,List.all_append];simp
theorem cKb(t:LTerm)(d:Int)(b:Bool)(x y:AObj)(g:List AObj)(ht:OkT t)(hl:t.kids.length≤1000000): ACalls Tryz.prog G0 100 [elT t,.i .i64 d,.ptr 2 0] (x::y::.box false [.b b]::g) (fun r h'=>r=.tup []∧∃z,h'=x::y::.box false [.b (bDs (t,d) b)]::(g++z)):=by
 refine eJ (rx:=false) (th:=fun _=>none) cZ Tryz.func100 ?_
 ·simp -implicitDefEqProofs (disch:=omega) only[Tryz.f100,go_sem,List.replicate,simprocAttr];obtain⟨q,hq⟩:∃q,(b && !(decide (t.kind=6)&&decide (t.text=[36])))=q:=⟨_,rfl⟩;have e:bDs (t,d) b=(q&&(!decide (t.kind=8)||nG t.kids ((t.kids.length+1) / 2))):=by
   rw[bDs,T0,← hq,wH]
  rw[e];by_cases h8:t.kind=8
  ·have h6:¬t.kind=6:=by omega
   have hb:b=q:=by rw[← hq];simp[h6]
   subst hb;rw[zt h8,aN,cU];cases b
   ·refine zh (zA2 (zt h8) (zf h6)) ?_;refine dF (fun(s:Nat×List AObj)=>(rp 5 .k (.v (.i .i64 ((2*s.1:Nat):Int))::.j::(rp 15 .k (rp 27 .j []))))) (fun s=>(x::y::.box false [.b (false&&nG t.kids s.1)]::(g++(.box false (tmC t)::s.2)))) (fun s=>s.1≤(t.kids.length+1) / 2) (fun s=>(t.kids.length+1) / 2-s.1) ((0,[])) (bJ _) rfl (by simp[hZ]) ?_;rintro⟨k,z⟩ j hk;dsimp only at hk;have q0:=aFs (l:=t.kids) (k:=k);obtain⟨v,hv⟩:∃v,(false&&nG t.kids k)=v:=⟨_,rfl⟩;by_cases hlt:2*k<t.kids.length
    ·have hki:(((2*k:Nat):Int)<((t.kids.length:Nat):Int)):=by omega
     have hkey:(false&&nG t.kids (k+1))=(v&&bJr (t.kids.getD (2*k) default)):=by rw[q0,← wH,hv]
     have hnx:(((2*k:Nat):Int)+2)=((2*(k+1):Nat):Int):=by omega
     refine zh (zA2 (zt hki) hv) ?_;(refine zy1 (zA2 (zt hki) (zA2 hv hnx)) (aFz (t.kids.getD (2*k) default)) ?_;repeat' first|exact trivial|refine zJ ?_ ?_|refine zH fun hc=>?_);all_goals
      refine⟨(k+1,z++[.box false (tmC (t.kids.getD (2*k) default))]),by dsimp only;omega,by dsimp only;omega,?_,by simp⟩
      try dsimp only
      try simp_all[bJr]
    ·have hki:¬(((2*k:Nat):Int)<((t.kids.length:Nat):Int)):=by omega
     have hke:k=(t.kids.length+1) / 2:=by omega
     subst hke;refine zh (zf hki) ?_;(refine zx0 (zf hki) ?_;repeat' first|exact trivial|refine zJ ?_ ?_|refine zH fun hc=>?_);all_goals exact⟨_,rfl⟩
   ·refine zh (zA2 (zt h8) (zf h6)) ?_;refine dF (fun(s:Nat×List AObj)=>(rp 5 .k (.v (.i .i64 ((2*s.1:Nat):Int))::.j::(rp 15 .k (rp 27 .j []))))) (fun s=>(x::y::.box false [.b (true&&nG t.kids s.1)]::(g++(.box false (tmC t)::s.2)))) (fun s=>s.1≤(t.kids.length+1) / 2) (fun s=>(t.kids.length+1) / 2-s.1) ((0,[])) (bJ _) rfl (by simp[hZ]) ?_;rintro⟨k,z⟩ j hk;dsimp only at hk;have q0:=aFs (l:=t.kids) (k:=k);obtain⟨v,hv⟩:∃v,(true&&nG t.kids k)=v:=⟨_,rfl⟩;by_cases hlt:2*k<t.kids.length
    ·have hki:(((2*k:Nat):Int)<((t.kids.length:Nat):Int)):=by omega
     have hkey:(true&&nG t.kids (k+1))=(v&&bJr (t.kids.getD (2*k) default)):=by rw[q0,← wH,hv]
     have hnx:(((2*k:Nat):Int)+2)=((2*(k+1):Nat):Int):=by omega
     refine zh (zA2 (zt hki) hv) ?_;(refine zy1 (zA2 (zt hki) (zA2 hv hnx)) (aFz (t.kids.getD (2*k) default)) ?_;repeat' first|exact trivial|refine zJ ?_ ?_|refine zH fun hc=>?_);all_goals
      refine⟨(k+1,z++[.box false (tmC (t.kids.getD (2*k) default))]),by dsimp only;omega,by dsimp only;omega,?_,by simp⟩
      try dsimp only
      try simp_all[bJr]
    ·have hki:¬(((2*k:Nat):Int)<((t.kids.length:Nat):Int)):=by omega
     have hke:k=(t.kids.length+1) / 2:=by omega
     subst hke;refine zh (zf hki) ?_;(refine zx0 (zf hki) ?_;repeat' first|exact trivial|refine zJ ?_ ?_|refine zH fun hc=>?_);all_goals exact⟨_,rfl⟩
  ·rw[zf h8,aS,bC,bA];(refine zx0 (zf h8) ?_;repeat' first|exact trivial|refine zJ ?_ ?_|refine zH fun hc=>?_);all_goals
    refine⟨[.box false (tmC t)],?_⟩
    rw[← hq]
    simp_all
theorem aQt{m:List (Str×Str)}{x:Str}(h:findS m x=none):((m.map (·.1)).findIdx? fun y=>decide (x=y))=none:=by
 rw[fW];intro y hy;obtain⟨p,hp,rfl⟩:=dS.1 hy;unfold findS at h;rw[Option.map_eq_none_iff,J0]at h;simpa using h p hp
theorem aQs{m:List (Str×Str)}{x y:Str}(h:findS m x=some y):∃j,((m.map (·.1)).findIdx? fun z=>decide (x=z))=some j∧((m.map (·.2)).map AV.s)[j]? = some (.s y):=by
 induction m with
 |nil=>simp[findS]at h
 |cons p m ih=>
  unfold findS at h;rw[nY]at h;by_cases hx:x=p.1
  ·rw[zt hx]at h;simp only[dO,aB]at h;exact⟨0,by simp[jB,hx],by simp[h]⟩
  ·rw[zf hx]at h;obtain⟨j,h1,h2⟩:=ih h;refine⟨j+1,?_,by simpa using h2⟩;rw[aK,jB,zf hx,h1];rfl
abbrev bBi(m:List (Str×Str)):AObj:=.map false ((m.map (·.1)).map .s) ((m.map (·.2)).map .s)
theorem cJp(t:LTerm)(d:Int)(m:List (Str×Str))(tw:Str)(g:List AObj)(ht:OkT t)(hl:m.length≤1000000): ACalls Tryz.prog G0 163 [elT t,.i .i64 d,.ptr 0 0,.ptr 1 0] (.box false [.mp 2]::.box false [.s tw]::.map false ((m.map (·.1)).map .s) ((m.map (·.2)).map .s)::g) (fun r h'=>r=.tup []∧∃z,h'=.box false [.mp 2]::.box false [.s (aHt (t,d) (m,tw)).2]::bBi (aHt (t,d) (m,tw)).1::(g++z)):=by
 refine eJ (rx:=false) (th:=fun _=>none) cZ Tryz.func163 ?_
 ·simp -implicitDefEqProofs (disch:=omega) only[Tryz.f163,go_sem,List.replicate,simprocAttr];by_cases h6:t.kind=6
  ·by_cases h95:t.text=[95]
   ·have e:aHt (t,d) (m,tw)=(m,tw):=by rw[aHt,if_neg (by simp[isV,h95])]
    rw[e];refine zh (zA2 (zt h6) (zt h95)) ?_;(refine zx0 (zA2 (zt h6) (zt h95)) ?_;repeat' first|exact trivial|refine zJ ?_ ?_|refine zH fun hc=>?_);all_goals exact⟨_,rfl⟩
   ·have hv:isV t=true:=by simp[isV,h6,h95]
    rw[aHt,if_pos hv,bCk];dsimp only[N6];cases hf:findS m t.text with
    |none=>
     have k1:=aQt hf;refine zh (zA2 (zt h6) (zA2 (zf h95) (zA2 @nD.eq_1 (zA2 @aMt @k1)))) ?_;(refine zx0 (zA2 (zt h6) (zA2 (zf h95) (zA2 @nD.eq_1 (zA2 @aMt @k1)))) ?_;repeat' first|exact trivial|refine zJ ?_ ?_|refine zH fun hc=>?_);all_goals exact⟨[.box false (tmC t)],by simp[bBi]⟩
    |some old=>
     obtain⟨j,k1,k2⟩:=aQs hf;refine zh (zA2 (zt h6) (zA2 (zf h95) (zA2 @nD.eq_1 (zA2 @aMt (zA2 @k1 @k2))))) ?_;(refine zx0 (zA2 (zt h6) (zA2 (zf h95) (zA2 @nD.eq_1 (zA2 @aMt (zA2 @k1 @k2))))) ?_;repeat' first|exact trivial|refine zJ ?_ ?_|refine zH fun hc=>?_);all_goals simp only[ne_eq,bytesLess_eq,decide_eq_true_eq,decide_eq_false_iff_not]at *
     all_goals by_cases hq:(¬old=t.sort∧(tw=[]∨t.text<tw))
     all_goals simp only[hq,and_self,true_and,not_false_eq_true,if_true,if_false]
     all_goals first|exact⟨_,rfl⟩|(exfalso;simp_all;done)|exact absurd hq (fun q=>q.2.elim (fun e=>absurd (eB.2 e) (by assumption)) (fun e=>absurd e (by assumption)))
  ·have e:aHt (t,d) (m,tw)=(m,tw):=by rw[aHt,if_neg (by simp[isV,h6])]
   rw[e];refine zh (zf h6) ?_;(refine zx0 (zf h6) ?_;repeat' first|exact trivial|refine zJ ?_ ?_|refine zH fun hc=>?_);all_goals exact⟨_,rfl⟩
def SrR(r:List (Str×Str)×Str)(h:List AObj):Prop:=∃g,h=.box false [.mp 2]::.box false [.s r.2]::bBi r.1::g
def SrP(r:List (Str×Str)×Str)(l:List (LTerm×Int)):Prop:=r.1.length+l.length≤1000000∧cBu () l
theorem bCl{v:LTerm×Int}{r:List (Str×Str)×Str}:(aHt v r).1.length≤r.1.length+1:=by
 unfold aHt bCk;split
 ·split
  ·split<;>simp
  ·simp
 ·omega
theorem aQi{a b b' c c':AObj}{g z:List AObj}:D4 3 (a::b::c::g) (a::b'::c'::(g++z)):=fun i y hi h=>by
 match i,hi with
 |i+3,_=>
  simp only[bZ]at h ⊢;rw[aG (bP h)];exact h
theorem cCd:bSa 163 [.ptr 0 0,.ptr 1 0] 3 SrR aHt SrP:=by
 refine⟨?_,?_,?_⟩
 ·rintro b h z ⟨g,rfl⟩;exact⟨g++z,rfl⟩
 ·rintro b h ⟨g,rfl⟩;simp
 ·rintro⟨m,tw⟩ ⟨t,d⟩ l h hP ho ⟨g,rfl⟩;have h1:=hP.1;have h2:=bCl (v:=(t,d)) (r:=(m,tw));rw[aQ]at h1;dsimp only at h1 h2;refine⟨hP.2 _ (by simp),⟨by omega,fun v hv=>hP.2 v (by simp[hv])⟩,?_⟩;refine(cJp t d m tw g ho (by omega)).mono ?_;rintro r h' ⟨rfl,z,rfl⟩;exact⟨rfl,⟨g++z,rfl⟩,aQi⟩
def uB(t:LTerm):List (Str×Str)×Str:=oB aHt ([],[]) (vis t 1)
def bEq(m:List (Str×Str)):AV:=.mapv ((m.map (·.1)).map .s) ((m.map (·.2)).map .s)
theorem bCm{H:List AObj}{id:Nat}{fz:Bool}{ks vs:List Str}(h:H[id]? = some (.map fz (ks.map .s) (vs.map .s))):gZ dep H (.mp id)=.mapv (ks.map .s) (vs.map .s):=by
 simp only[gE,pers,aE,if_false,rQ,h,mA,if_true]
theorem bPu{H:List AObj}{id:Nat}{fz:Bool}{m:List (Str×Str)}{x:Str}(h:H[id]? = some (.map fz ((m.map (·.1)).map .s) ((m.map (·.2)).map .s))):Fin H (.tup [.mp id,.s x]) (.tup [bEq m,.s x]):=by
 refine .inr ⟨⟨?_,rfl,trivial⟩,?_,?_⟩
 ·show bEq m=gZ dep H (.mp id);rw[bCm h];rfl
 ·show List.Nodup [];exact fI
 ·intro i hi;exact absurd hi (by show ¬i ∈ [];simp)
theorem bYc(t:LTerm)(ht:OkT t)(hv:iA nodeB t=true): CT 98 [avt [t]] (.tup [bEq (uB t).1,.s (uB t).2]):=by
 refine iS (rx:=true) (th:=fun i=>if i=7 then some ⟨none,[0],false,true,false,[],[],0⟩else none) cZ Tryz.func98 g0 ?_
 ·simp -implicitDefEqProofs (disch:=omega) only[Tryz.f98,go_sem,List.replicate,simprocAttr,avt];have hP:=aSj hv;have hP':SrP ([],[]) (vis t 1++[]):=⟨by have:=hP.1;simp at this ⊢;omega,fun v hv=>hP.2 v hv⟩;refine dF (fun(s:Nat×(List (Str×Str)×Str)×List AObj)=>(rp 5 .k (.j::.k::.k::.k::.v (.i .i64 (s.1:Nat))::(rp 7 .j [.k,.k])))) (fun s=>(.box false [.mp 2]::.box false [.s s.2.1.2]::bBi s.2.1.1::s.2.2)) (fun s=>s.1≤1∧(s.1=0→s.2.1=([],[]))∧(s.1=1→s.2.1=uB t)) (fun s=>1-s.1) ((0,([],[]),[])) ⟨bJ _,fun _=>rfl,fun h=>(by cases h)⟩ rfl (by simp[hZ]) ?_;rintro⟨k,r,g⟩ j ⟨hk,h0,h1⟩;dsimp only at hk h0 h1;have h01:((0:Int)<((1:Nat):Int))=True:=eq_true (by decide);have h11:(((1:Nat):Int)<((1:Nat):Int))=False:=eq_false (by decide);rcases(by omega:k=0∨k=1)with rfl|rfl
  ·obtain rfl:=h0 rfl;have cw:=bLs cCd (fun a=>⟨_,[],rfl⟩) t ht 1 ([],[]) [] (.box false [.mp 2]::.box false [.s []]::bBi []::(g++[.box false (tmC t)])) ⟨_,rfl⟩ hP';simp only[elT,aW,avt,bBi,aZ]at cw;refine zh (zA2 @bBi.eq_1 (zA2 @List.flatMap_cons.{0,0} (zA2 @List.flatMap_nil.{0,0} (zA2 @List.append_nil.{0} (zA2 @aW (zA2 @avt.eq_1 (zA2 h01 (zA2 @decide_true @aZ.{0,0})))))))) ?_;(refine zx0 (zA2 @bBi.eq_1 (zA2 @List.flatMap_cons.{0,0} (zA2 @List.flatMap_nil.{0,0} (zA2 @List.append_nil.{0} (zA2 @aW (zA2 @avt.eq_1 (zA2 h01 (zA2 @decide_true @aZ.{0,0})))))))) ?_;repeat' first|exact trivial|refine zJ ?_ ?_|refine zH fun hc=>?_);refine fM cw ?_;rintro r h' ⟨rfl,⟨g',rfl⟩,_⟩;refine zg ?_;exact⟨(1,uB t,g'),⟨bK _,fun h=>(by cases h),fun _=>rfl⟩,by simp,rfl,by simp⟩
  ·obtain rfl:=h1 rfl;refine zh (zA2 @bBi.eq_1 (zA2 h11 @decide_false)) ?_;(refine zx0 (zA2 @bBi.eq_1 (zA2 h11 @decide_false)) ?_;repeat' first|exact trivial|refine zJ ?_ ?_|refine zH fun hc=>?_);exact bPu rfl
end Go.Proofs.YtdjcggcjlphdoaaGreatDoor
