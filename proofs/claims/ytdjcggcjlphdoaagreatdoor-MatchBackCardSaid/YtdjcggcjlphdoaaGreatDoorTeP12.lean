/-
  How terms are measured: plain laws; no condition beyond those that each theorem names.
-/
import Derived.Test.YtdjcggcjlphdoaaGreatDoorTeP11
import Derived.Test.YtdjcggcjlphdoaaGreatDoorSoP13
import Derived.Test.YtdjcggcjlphdoaaGreatDoorSoP11
import Derived.Test.YtdjcggcjlphdoaaGreatDoorVoP16
set_option maxRecDepth 100000
set_option linter.unusedSimpArgs false
set_option linter.unusedVariables false
set_option maxHeartbeats 4000000
namespace Go.Proofs.YtdjcggcjlphdoaaGreatDoor
open Go Go.Vo
open Nat (reduceAdd reduceSub reduceMul reduceLeDiff reduceLT reduceEqDiff)
open Int (reduceNeg)
def yY:Str:=[73,110,116]
def aGn:Str:=[66,111,111,108]
def aPe:Str:=[84,101,120,116]
def idS:Str:=[73,100]
def bRr(s:Str):List Str:=if s=[97,100,100]then [yY,yY]else if s=[115,117,98]then [yY,yY]else if s=[109,117,108]then [yY,yY]else if s=[100,105,118]then [yY,yY]else if s=[109,111,100]then [yY,yY]else if s=[108,116]then [yY,yY]else if s=[108,101]then [yY,yY]else if s=[103,116]then [yY,yY]else if s=[103,101]then [yY,yY]else if s=[110,101,103]then [yY]else if s=[116,101,120,116]then [yY]else if s=[101,113]then [U3,U3]else if s=[110,101]then [U3,U3]else if s=[97,110,100]then [aGn,aGn]else if s=[111,114]then [aGn,aGn]else if s=[110,111,116]then [aGn]else if s=[112,105,99,107]then [aGn,U3,U3]else if s=[99,97,116]then [aPe,aPe]else if s=[108,101,110,103,116,104]then [B8]else if s=[106,111,105,110]then [B8,B8]else if s=[103,101,116]then [aHi,U3]else if s=[104,97,115]then [aHi,U3]else if s=[100,101,108]then [aHi,U3]else if s=[112,117,116]then [aHi,U3,U3]else if s=[107,101,121,115]then [aHi]else if s=[115,105,122,101]then [aHi]else if s=[105,115]then [U3,aPe]else [U3]
def aHx(s:Str):Str:=if s=[97,100,100]then yY else if s=[115,117,98]then yY else if s=[109,117,108]then yY else if s=[100,105,118]then yY else if s=[109,111,100]then yY else if s=[110,101,103]then yY else if s=[108,101,110,103,116,104]then yY else if s=[115,105,122,101]then yY else if s=[99,97,116]then aPe else if s=[116,101,120,116]then aPe else if s=[106,111,105,110]then B8 else if s=[107,101,121,115]then B8 else if s=[112,117,116]then aHi else if s=[100,101,108]then aHi else if s=[112,105,99,107]then U3 else if s=[103,101,116]then U3 else aGn
def strs:List AV→List Str
 | .s x::l=>x::strs l
 |_=>[]
theorem aTn{H:List AObj}{i:Nat}{fz t:Bool}{l:List Str}(h1:H[i]? = some (.arr fz 1 (l.map .s))):avs l=gZ dep H (.hs i 0 l.length t):=by
 simp only[gE,pers,rQ,h1,aE,if_false,dM,bBa,dP,bK,if_true,bG];rw[bE (by simp)];simp only[mA,if_true,avs]
theorem aNf{H:List AObj}{i n:Nat}{cells:List AV}{fz t:Bool}{l:List Str}(h1:H[i]? = some (.arr fz 1 cells))(hl:l=strs cells)(hc:(strs cells).map .s=cells)(hn:n=(strs cells).length):Fin H (.hs i 0 n t) (avs l):=by
 rw[← hl]at hc hn;rw[← hc]at h1;subst hn;exact .inr ⟨aTn h1,by simp[dJ,avs],by simp[dJ,avs]⟩
theorem bYs(s:Str): CT 256 [.s s] (avs (bRr s)):=by
 refine bQ cZ Tryz.func256 g0 ?_
 ·skip;(refine zs0 ?_;repeat' first|exact trivial|refine zJ ?_ ?_|refine zH fun hc=>?_);all_goals first
   |(subst hc;exact aNf rfl (by decide +kernel) rfl rfl)
   |(simp only[bRr, *,if_false];exact aNf rfl rfl rfl rfl)
theorem bYr(s:Str): CT 257 [.s s] (.s (aHx s)):=by
 refine bQ cZ Tryz.func257 g0 ?_
 ·skip;(refine zs0 ?_;repeat' first|exact trivial|refine zJ ?_ ?_|refine zH fun hc=>?_);all_goals first
   |(subst hc;exact bV (congrArg AV.s (by decide +kernel)) rfl)
   |(simp only[aHx, *,if_false];exact bV rfl rfl)
def C5(x:Str):Option LOp:=if sN.contains x then some ⟨x,bRr x,aHx x,[],0,0,[]⟩else none
theorem wC{H:List AObj}{o o':LOp}{a b a' b':Bool}(h:(o',a',b')=(o,a,b)):Fin H (.tup [.agg [.s o.name,.sl (o.args.map .s) o.args.length,.s o.sort,.sl (o.pieces.flatMap fX) o.pieces.length,.i .i64 o.prec,.i .i64 o.assoc,.sl (o.strict.map (.i .i64)) o.strict.length],.b a,.b b]) (.tup [.agg [.s o'.name,.sl (o'.args.map .s) o'.args.length,.s o'.sort,.sl (o'.pieces.flatMap fX) o'.pieces.length,.i .i64 o'.prec,.i .i64 o'.assoc,.sl (o'.strict.map (.i .i64)) o'.strict.length],.b a',.b b']):=by
 injection h with h1 h2;injection h2 with h2 h3;subst h1 h2 h3;exact bV rfl (by simp only[pers,persL,mA,mE,uH,eZ])
theorem aXo{H:List AObj}{x r:Str}{l:List Str}:Fin H (.tup [.agg [.s x,.sl (l.map .s) l.length,.s r,.e0,.i .i64 0,.i .i64 0,.e0],.b true]) (.tup [elO ⟨x,l,r,[],0,0,[]⟩,.b true]):=
 .inr ⟨⟨⟨rfl,by show _=gZ dep H _;simp only[gE,pers,mA,if_true];rfl,rfl,rfl,rfl,rfl,rfl,trivial⟩,rfl,trivial⟩,by simp[elO,eU,dJ,finIdsL,avs,avb,avi],by simp[elO,eU,dJ,finIdsL,avs,avb,avi]⟩
theorem bYw(x:Str): CT 219 [.s x] (tF (C5 x)):=by
 refine bQ cZ Tryz.func219 g0 ?_
 ·skip;(refine zt3 (bQq x) (bYs x) (bYr x) ?_;repeat' first|exact trivial|refine zJ ?_ ?_|refine zH fun hc=>?_)
  ·rw[C5,if_neg (by rw[hc];simp)];exact aXl
  ·rw[C5,if_pos hc];exact aXo
def lL(s:dX)(x:Str):LOp×Bool×Bool:=match bDz s x with
 |some o=>(o,false,true)
 |none=>match aJm s x with
  |some o=>(o,true,true)
  |none=>match C5 x with
   |some o=>(o,true,true)
   |none=>(default,true,false)
theorem aYu(s:dX)(x:Str): CT 160 [cM s,.s x] (.tup [elO (lL s x).1,.b (lL s x).2.1,.b (lL s x).2.2]):=by
 refine bQ cZ Tryz.func160 g0 ?_
 ·skip;have c1:=bWx s x;have c2:=cFc s x;have c3:=bYw x;cases h1:bDz s x with
  |some o=>
   rw[h1]at c1;(repeat'(first|refine gT ?_ ?_|refine gF ?_ ?_|refine gC ?_ ?_|((refine dA (c1) ?_ ?_;(focus(simp -implicitDefEqProofs (disch:=omega) only[tF,zdB,go_sem,simprocAttr];done)));simp -implicitDefEqProofs (disch:=omega) only[tF,go_sem,simprocAttr])|refine bX (by omega) ?_|(intro hr;have hc:=hr;(try simp only[zdz]at hc);simp -implicitDefEqProofs (disch:=omega) only[hr,tF,go_sem,simprocAttr];(try clear hr))));exact wC (by simp only[lL,h1])
  |none=>
  rw[h1]at c1;cases h2:aJm s x with
  |some o=>
   rw[h2]at c2;(repeat'(first|refine gT ?_ ?_|refine gF ?_ ?_|refine gC ?_ ?_|((first|(refine dA (c1) ?_ ?_;(focus(simp -implicitDefEqProofs (disch:=omega) only[tF,zdB,go_sem,simprocAttr];done)))|(refine dA (c2) ?_ ?_;(focus(simp -implicitDefEqProofs (disch:=omega) only[tF,zdB,go_sem,simprocAttr];done))));simp -implicitDefEqProofs (disch:=omega) only[tF,go_sem,simprocAttr])|refine bX (by omega) ?_|(intro hr;have hc:=hr;(try simp only[zdz]at hc);simp -implicitDefEqProofs (disch:=omega) only[hr,tF,go_sem,simprocAttr];(try clear hr))));exact wC (by simp only[lL,h1,h2])
  |none=>
  rw[h2]at c2;cases h3:C5 x with
  |some o=>
   rw[h3]at c3;(repeat'(first|refine gT ?_ ?_|refine gF ?_ ?_|refine gC ?_ ?_|((first|(refine dA (c1) ?_ ?_;(focus(simp -implicitDefEqProofs (disch:=omega) only[tF,zdB,go_sem,simprocAttr];done)))|(refine dA (c2) ?_ ?_;(focus(simp -implicitDefEqProofs (disch:=omega) only[tF,zdB,go_sem,simprocAttr];done)))|(refine dA (c3) ?_ ?_;(focus(simp -implicitDefEqProofs (disch:=omega) only[tF,zdB,go_sem,simprocAttr];done))));simp -implicitDefEqProofs (disch:=omega) only[tF,go_sem,simprocAttr])|refine bX (by omega) ?_|(intro hr;have hc:=hr;(try simp only[zdz]at hc);simp -implicitDefEqProofs (disch:=omega) only[hr,tF,go_sem,simprocAttr];(try clear hr))));exact wC (by simp only[lL,h1,h2,h3])
  |none=>
   rw[h3]at c3;(repeat'(first|refine gT ?_ ?_|refine gF ?_ ?_|refine gC ?_ ?_|((first|(refine dA (c1) ?_ ?_;(focus(simp -implicitDefEqProofs (disch:=omega) only[tF,zdB,go_sem,simprocAttr];done)))|(refine dA (c2) ?_ ?_;(focus(simp -implicitDefEqProofs (disch:=omega) only[tF,zdB,go_sem,simprocAttr];done)))|(refine dA (c3) ?_ ?_;(focus(simp -implicitDefEqProofs (disch:=omega) only[tF,zdB,go_sem,simprocAttr];done))));simp -implicitDefEqProofs (disch:=omega) only[tF,go_sem,simprocAttr])|refine bX (by omega) ?_|(intro hr;have hc:=hr;(try simp only[zdz]at hc);simp -implicitDefEqProofs (disch:=omega) only[hr,tF,go_sem,simprocAttr];(try clear hr))));exact wC (by simp only[lL,h1,h2,h3])
def qM(s:dX)(t:LTerm):Str:=if t.kind=1 then yY else if t.kind=2 then aGn else if t.kind=3 then aPe else if t.kind=4 then idS else if t.kind=7 then B8 else if t.kind=8 then aHi else if t.kind=5 then(lL s t.text).1.sort else if jE s t.sort then t.sort else []
theorem aGa(s:dX)(t:LTerm): CT 119 [cM s,elT t] (.s (qM s t)):=by
 refine bQ cZ Tryz.func119 g0 ?_
 ·skip;(refine zt2 (aYu s t.text) (aFw s t.sort) ?_;repeat' first|exact trivial|refine zJ ?_ ?_|refine zH fun hc=>?_);all_goals refine bV (congrArg AV.s ?_) rfl
  all_goals simp only[qM, *,if_true,if_false,aE,Int.reduceEq]
  all_goals rfl
theorem mQ(b:Bool):b=true∨b=false:=by cases b<;>simp
theorem aNt(l m:List LTerm)(hl:l.length≤1466015503701)(hm:m.length≤1466015503701)(ih:∀a∈l,∀b∈m,CT 24 [elT a,elT b] (.b (decide (a=b)))): CT 64 [avt l,avt m] (.b (decide (l=m))):=by
 refine eG cZ Tryz.func64 g0 ?_
 ·simp -implicitDefEqProofs (disch:=omega) only[Tryz.f64,go_sem,List.replicate,simprocAttr,avt];(refine zs0 ?_;repeat' first|exact trivial|refine zJ ?_ ?_|refine zH fun hc=>?_)
  ·refine bV ?_ (by rfl);have:l≠m:=fun h=>by rw[h]at hc;exact hc rfl
   rw[zf this]
  refine dF (fun(k:Nat)=>(.k::.k::.k::.k::.j::.j::(rp 7 .k (.v (.i .i64 k)::(rp 13 .j []))))) (fun k=>[]) (fun k=>k≤l.length∧∀j,j<k→l.getD j default=m.getD j default) (fun k=>l.length-k) (0) ⟨bJ _,fun j h=>by omega⟩ rfl (by simp[hZ]) ?_;rintro k j ⟨hk,ha⟩;have o:k<l.length→k<m.length→CT 24 [elT (l.getD k default),elT (m.getD k default)] (.b (decide (l.getD k default=m.getD k default))):=fun h h'=>ih _ (cT h) _ (cT h');refine zg ?_;(refine zt1 o ?_;repeat' first|exact trivial|refine zJ ?_ ?_|refine zH fun hc=>?_)
  ·refine bV ?_ (by rfl);have:l≠m:=fun h=>by simp[h]at *
   rw[zf this]
  ·exact⟨k+1,⟨by omega,fD ha (by simpa using hc)⟩,by omega,by simp⟩
  ·refine bV ?_ (by rfl);have:l=m:=aXt (d:=default) (by omega) (fun j hj=>ha j (by omega));rw[zt this]
theorem aNo(l m:List LTerm)(hl:l.length≤1466015503701)(hm:m.length≤1466015503701)(ih:∀a∈l,∀b∈m,CT 69 [elT a,elT b] (.b (decide (a=b)))): CT 129 [avt l,avt m,.fn 69 [] []] (.b (decide (l=m))):=by
 refine eG cZ Tryz.func129 g0 ?_
 ·simp -implicitDefEqProofs (disch:=omega) only[Tryz.f129,go_sem,List.replicate,simprocAttr,avt];(refine zs0 ?_;repeat' first|exact trivial|refine zJ ?_ ?_|refine zH fun hc=>?_)
  ·refine bV ?_ (by rfl);have:l≠m:=fun h=>by rw[h]at hc;exact hc rfl
   rw[zf this]
  refine kI (fun(k:Nat)=>(rp 6 .k (.j::.j::.j::.j::(rp 7 .k (.v (.i .i64 k)::(rp 14 .j [])))))) (fun k=>[]) (fun k=>k≤l.length∧∀j,j<k→l.getD j default=m.getD j default) (fun k=>l.length-k) (0) _ ⟨bJ _,fun j h=>by omega⟩ rfl (by simp[hZ]) ?_;rintro k g j ⟨hk,ha⟩;have o:k<l.length→k<m.length→CT 69 [elT (l.getD k default),elT (m.getD k default)] (.b (decide (l.getD k default=m.getD k default))):=fun h h'=>ih _ (cT h) _ (cT h');refine zg ?_;(refine zt1 o ?_;repeat' first|exact trivial|refine zJ ?_ ?_|refine zH fun hc=>?_)
  ·refine bV ?_ (by rfl);have:l≠m:=fun h=>by simp[h]at *
   rw[zf this]
  ·exact⟨k+1,_,⟨by omega,fD ha (by simpa using hc)⟩,by omega,rfl,by simp⟩
  ·refine bV ?_ (by rfl);have:l=m:=aXt (d:=default) (by omega) (fun j hj=>ha j (by omega));rw[zt this]
def bCs(a b:LTerm):Bool:=decide (a.kind=b.kind)&&decide (a.n=b.n)&&decide (a.text=b.text)&&decide (a.sort=b.sort)&&decide (a.kids=b.kids)&&decide (a.rest=b.rest)
theorem aLh(a b:LTerm):bCs a b=decide (a=b):=by
 rw[fA];simp only[bCs,aA,decide_eq_true_eq,LTerm.ext_iff,and_assoc]
theorem bGv(a b:LTerm)(ha:OkT a)(hb:OkT b)(ihk:∀x∈a.kids,∀y∈b.kids,CT 24 [elT x,elT y] (.b (decide (x=y))))(ihr:∀x∈a.rest,∀y∈b.rest,CT 24 [elT x,elT y] (.b (decide (x=y)))): CT 24 [elT a,elT b] (.b (decide (a=b))):=by
 refine bQ cZ Tryz.func24 g0 ?_
 ·skip;have h1:=ha.kids;have h2:=ha.rest;have h3:=hb.kids;have h4:=hb.rest;rw[← aLh];(refine zt2 (aNt a.kids b.kids h1 h3 ihk) (aNt a.rest b.rest h2 h4 ihr) ?_;repeat' first|exact trivial|refine zJ ?_ ?_|refine zH fun hc=>?_);all_goals refine bV ?_ rfl
  all_goals simp only[bCs, *,decide_true,decide_false,aI,aO,bA,aM]
theorem aYx(a:LTerm):∀(b:LTerm),OkT a→OkT b→CT 24 [elT a,elT b] (.b (decide (a=b))):=
 fH (Q:=fun a=>∀(b:LTerm),OkT a→OkT b→CT 24 [elT a,elT b] (.b (decide (a=b)))) (fun a hk hr b ha hb=>bGv a b ha hb (fun x hx y hy=>hk x hx y (ha.kid x hx) (hb.kid y hy)) (fun x hx y hy=>hr x hx y (ha.rst x hx) (hb.rst y hy))) a
theorem bGr(a b:LTerm)(ha:OkT a)(hb:OkT b)(ihk:∀x∈a.kids,∀y∈b.kids,CT 69 [elT x,elT y] (.b (decide (x=y))))(ihr:∀x∈a.rest,∀y∈b.rest,CT 69 [elT x,elT y] (.b (decide (x=y)))): CT 69 [elT a,elT b] (.b (decide (a=b))):=by
 refine bQ cZ Tryz.func69 g0 ?_
 ·skip;have h1:=ha.kids;have h2:=ha.rest;have h3:=hb.kids;have h4:=hb.rest;rw[← aLh];(refine zt2 (aNo a.kids b.kids h1 h3 ihk) (aNo a.rest b.rest h2 h4 ihr) ?_;repeat' first|exact trivial|refine zJ ?_ ?_|refine zH fun hc=>?_);all_goals refine bV ?_ rfl
  all_goals simp only[bCs, *,decide_true,decide_false,aI,aO,bA,aM]
theorem aFy(a:LTerm):∀(b:LTerm),OkT a→OkT b→CT 69 [elT a,elT b] (.b (decide (a=b))):=
 fH (Q:=fun a=>∀(b:LTerm),OkT a→OkT b→CT 69 [elT a,elT b] (.b (decide (a=b)))) (fun a hk hr b ha hb=>bGr a b ha hb (fun x hx y hy=>hk x hx y (ha.kid x hx) (hb.kid y hy)) (fun x hx y hy=>hr x hx y (ha.rst x hx) (hb.rst y hy))) a
mutual
def mH:LTerm→LTerm→Int
 | .mk k n t s ks rs,.mk k' n' t' s' ks' rs'=>
   if tK k k'=0 then(if tK n n'=0 then(if tP t t'=0 then(if tP s s'=0 then(if ordPL ks ks'=0 then ordPL rs rs' else ordPL ks ks')else tP s s')else tP t t')else tK n n')else tK k k'
def ordPL:List LTerm→List LTerm→Int
 | [],[]=>0
 | [],_::_ => -1
 |_::_,[]=>1
 |a::l,b::m=>if mH a b=0 then ordPL l m else mH a b
end
theorem aIk(a b:LTerm):mH a b=if tK a.kind b.kind=0 then(if tK a.n b.n=0 then(if tP a.text b.text=0 then(if tP a.sort b.sort=0 then(if ordPL a.kids b.kids=0 then ordPL a.rest b.rest else ordPL a.kids b.kids)else tP a.sort b.sort)else tP a.text b.text)else tK a.n b.n)else tK a.kind b.kind:=by
 cases a;cases b;rw[mH];rfl
theorem aZa{a b:Int}(h:a<b):tK a b = -1:=if_pos h
theorem aZb{a b:Int}(h:b<a):tK a b=1:=by rw[tK,if_neg (by omega),if_pos h]
theorem aZc{a b:Int}(h:a=b):tK a b=0:=by rw[tK,if_neg (by omega),if_neg (by omega)]
theorem aMa{l m:List LTerm}{k:Nat}(h:k<l.length)(h':k<m.length):ordPL (l.drop k) (m.drop k)=if mH (l.getD k default) (m.getD k default)=0 then ordPL (l.drop (k+1)) (m.drop (k+1))else mH (l.getD k default) (m.getD k default):=by
 rw[eA h,eA h',ordPL];simp[List.getD,h,h']
theorem N9{l m:List LTerm}{k:Nat}(h:k=l.length∨k=m.length)(h1:k≤l.length)(h2:k≤m.length):ordPL (l.drop k) (m.drop k)=tK l.length m.length:=by
 by_cases h3:k<l.length
 ·rw[eA h3,cV (l:=m) (by omega),ordPL,aZb (by omega)]
 ·by_cases h4:k<m.length
  ·rw[eA h4,cV (l:=l) (by omega),ordPL,aZa (by omega)]
  ·rw[cV (l:=l) (by omega),cV (l:=m) (by omega),ordPL,aZc (by omega)]
theorem aNp(l m:List LTerm)(hl:l.length≤1466015503701)(hm:m.length≤1466015503701)(ih:∀a∈l,∀b∈m,CT 166 [elT a,elT b] (.i .i64 (mH a b))): CT 224 [avt l,avt m,.fn 166 [] []] (.i .i64 (ordPL l m)):=by
 refine eG cZ Tryz.func224 g0 ?_
 ·simp -implicitDefEqProofs (disch:=omega) only[Tryz.f224,go_sem,List.replicate,simprocAttr,avt];refine kI (fun(k:Nat)=>(rp 6 .k (rp 5 .j (.k::.k::.v (.i .i64 k)::(rp 20 .j (rp 5 .k [])))))) (fun k=>[]) (fun k=>k≤l.length∧k≤m.length∧ordPL l m=ordPL (l.drop k) (m.drop k)) (fun k=>l.length-k) (0) _ ⟨bJ _,bJ _,rfl⟩ rfl (by simp[hZ]) ?_;rintro k g j ⟨hk,hk2,he⟩;have o:k<l.length→k<m.length→CT 166 [elT (l.getD k default),elT (m.getD k default)] (.i .i64 (mH (l.getD k default) (m.getD k default))):=fun h h'=>ih _ (cT h) _ (cT h');refine zg ?_;(refine zt1 o ?_;repeat' first|exact trivial|refine zJ ?_ ?_|refine zH fun hc=>?_)
  ·exact bV (congrArg _ (by rw[he,N9 (.inr (by omega)) hk hk2,aZb (by omega)])) rfl
  ·exact bV (congrArg _ (by rw[he,aMa (by omega) (by omega),if_neg hc])) rfl
  ·exact⟨k+1,_,⟨by omega,by omega,by rw[he,aMa (by omega) (by omega),if_pos hc]⟩,by omega,rfl,by simp⟩
  ·exact bV (congrArg _ (by rw[he,N9 (.inl (by omega)) hk hk2,aZa (by omega)])) rfl
  ·exact bV (congrArg _ (by rw[he,N9 (.inl (by omega)) hk hk2,aZc (by omega)])) rfl
theorem bJe(a b:LTerm):(if orI [tK a.kind b.kind,tK a.n b.n,tP a.text b.text,tP a.sort b.sort]=0 then orI [ordPL a.kids b.kids,ordPL a.rest b.rest]else orI [tK a.kind b.kind,tK a.n b.n,tP a.text b.text,tP a.sort b.sort])=mH a b:=by
 rw[aIk];by_cases h1:tK a.kind b.kind=0<;>by_cases h2:tK a.n b.n=0<;>by_cases h3:tP a.text b.text=0<;>by_cases h4:tP a.sort b.sort=0<;>by_cases h5:ordPL a.kids b.kids=0<;>by_cases h6:ordPL a.rest b.rest=0<;>simp only[orI,h1,h2,h3,h4,h5,h6,if_true,if_false]
theorem bGs(a b:LTerm)(ha:OkT a)(hb:OkT b)(ihk:∀x∈a.kids,∀y∈b.kids,CT 166 [elT x,elT y] (.i .i64 (mH x y)))(ihr:∀x∈a.rest,∀y∈b.rest,CT 166 [elT x,elT y] (.i .i64 (mH x y))): CT 166 [elT a,elT b] (.i .i64 (mH a b)):=by
 refine bQ cZ Tryz.func166 g0 ?_
 ·skip;have e:=aIk a b;(repeat'(first|refine gT ?_ ?_|refine gF ?_ ?_|refine gC ?_ ?_|((first|refine cF (bYo a.kind b.kind) ?_|refine cF (bYn a.n b.n) ?_|(refine dA (aYs a.text b.text) ?_ ?_;(focus(simp -implicitDefEqProofs (disch:=omega) only[aK,aZ,aQ,cB,Nat.reduceAdd,zdB,go_sem,simprocAttr];done)))|(refine dA (aYs a.sort b.sort) ?_ ?_;(focus(simp -implicitDefEqProofs (disch:=omega) only[aK,aZ,aQ,cB,Nat.reduceAdd,zdB,go_sem,simprocAttr];done)))|(refine dA (bKw [tK a.kind b.kind,tK a.n b.n,tP a.text b.text,tP a.sort b.sort] (by simp)) ?_ ?_;(focus(simp -implicitDefEqProofs (disch:=omega) only[aK,aZ,aQ,cB,Nat.reduceAdd,zdB,go_sem,simprocAttr];done)))|(refine dA (aNp a.kids b.kids ha.kids hb.kids ihk) ?_ ?_;(focus(simp -implicitDefEqProofs (disch:=omega) only[aK,aZ,aQ,cB,Nat.reduceAdd,zdB,go_sem,simprocAttr];done)))|(refine dA (aNp a.rest b.rest ha.rest hb.rest ihr) ?_ ?_;(focus(simp -implicitDefEqProofs (disch:=omega) only[aK,aZ,aQ,cB,Nat.reduceAdd,zdB,go_sem,simprocAttr];done)))|(refine dA (bKw [ordPL a.kids b.kids,ordPL a.rest b.rest] (by simp)) ?_ ?_;(focus(simp -implicitDefEqProofs (disch:=omega) only[aK,aZ,aQ,cB,Nat.reduceAdd,zdB,go_sem,simprocAttr];done))));simp -implicitDefEqProofs (disch:=omega) only[aK,aZ,aQ,cB,Nat.reduceAdd,go_sem,simprocAttr])|refine bX (by omega) ?_|(intro hr;have hc:=hr;(try simp only[zdz]at hc);simp -implicitDefEqProofs (disch:=omega) only[hr,aK,aZ,aQ,cB,Nat.reduceAdd,go_sem,simprocAttr];(try clear hr))));all_goals refine bV (congrArg _ ?_) rfl
  ·rw[← bJe a b,if_neg hc]
  ·rw[← bJe a b,if_pos hc]
theorem bKy(a b:LTerm)(ha:OkT a)(hb:OkT b):CT 166 [elT a,elT b] (.i .i64 (mH a b)):=
 fH (Q:=fun a=>∀(b:LTerm),OkT a→OkT b→CT 166 [elT a,elT b] (.i .i64 (mH a b))) (fun a hk hr b ha hb=>bGs a b ha hb (fun x hx y hy=>hk x hx y (ha.kid x hx) (hb.kid y hy)) (fun x hx y hy=>hr x hx y (ha.rst x hx) (hb.rst y hy))) a b ha hb
theorem bOv:eQ [95]=false:=by decide
theorem bEm:eQ [36]=false:=by decide
theorem bOe{s:Str}(h:yM s=true):eQ s=false:=by
 simp only[yM,cC,decide_eq_true_eq]at h;rcases h with rfl|rfl<;>decide
theorem bEd(s:Str):eQ s=true→¬s=[95]∧¬s=[36]:=by
 intro h;constructor<;>(rintro rfl;revert h;decide)
theorem aYt(t:LTerm)(ht:OkT t)(h6:t.kind=6): CT 193 [elT t] (.b (nodeB t)):=by
 refine iS (rx:=true) (th:=fun i=>if i=19 then some ⟨some 1,[],false,false,false,[],[],0⟩else none) cZ Tryz.func193 g0 ?_
 ·simp -implicitDefEqProofs (disch:=omega) only[Tryz.f193,go_sem,List.replicate,simprocAttr];have no1:=bEd t.text;(refine zy2 (zA2 h6 (zA2 @decide_true @decide_false)) (U0 t.text ht.text) (U0 t.sort ht.sort) ?_;repeat' first|exact trivial|refine zJ ?_ ?_|refine zH fun hc=>?_);all_goals try simp only[Q5,Q6,sK,sJ]at *
  all_goals refine bV ?_ rfl
  all_goals(simp_all[nodeB,yM,gK,bOv,bEm];done)
theorem aPs{t:LTerm}{so:Str}(hs:eQ so=true)(h1:t.rest.length=1)(h6:(t.rest.getD 0 default).kind=6):(nodeB (t.rest.getD 0 default)&&eQ (t.rest.getD 0 default).text&&decide ((t.rest.getD 0 default).sort=so))=oH t so:=by
 have h0:t.rest.length≠0:=by omega
 generalize hr:t.rest.getD 0 default=r at *
 have h3:oH t so=(eQ r.text&&decide (r.sort=so)&&gK r false true true false false):=by
  simp only[oH,hr,h1,h6,decide_true,Nat.one_ne_zero,decide_false,cU,aI]
 rw[h3];have h4:nodeB r=(if yM r.text=true then decide (r.sort=cBt)&&gK r false true true false false else eQ r.text&&eQ r.sort&&gK r false true true false false):=by
  simp only[nodeB,h6];rfl
 rw[h4];cases ho:yM r.text with
 |true=>rw[bOe ho];simp
 |false=>
  by_cases hq:r.sort=so
  ·rw[hq,hs];cases eQ r.text<;>cases gK r false true true false false<;>simp
  ·simp[hq]
theorem bKu(t:LTerm)(so:Str)(ht:OkT t)(hso:eQ so=true): CT 243 [elT t,.s so] (.b (oH t so)):=by
 refine bQ cZ Tryz.func243 g0 ?_
 ·skip;have h1:0<t.rest.length→OkT (t.rest.getD 0 default):=fun h=>ht.rst _ (cT h);have hA:=fun a b=>aPs (t:=t) hso a b;(repeat'(first|refine gT ?_ ?_|refine gF ?_ ?_|refine gC ?_ ?_|((first|(refine dA (aYt (t.rest.getD 0 default) (h1 (by omega)) (by assumption)) ?_ ?_;(focus(simp -implicitDefEqProofs (disch:=omega) only[zdB,go_sem,simprocAttr];done)))|(refine dA (U0 (t.rest.getD 0 default).text (h1 (by omega)).text) ?_ ?_;(focus(simp -implicitDefEqProofs (disch:=omega) only[zdB,go_sem,simprocAttr];done))));simp -implicitDefEqProofs (disch:=omega) only[go_sem,simprocAttr])|refine bX (by omega) ?_|(intro hr;have hc:=hr;(try simp only[zdz]at hc);simp -implicitDefEqProofs (disch:=omega) only[hr,go_sem,simprocAttr];(try clear hr))));all_goals try simp only[Q5,Q6]at *
  all_goals refine bV ?_ rfl
  all_goals first
   |(have e:=hA (by assumption) (by assumption);clear hA;rw[← e];clear e;simp_all only[decide_true,decide_false,bC,cU,aI,aO,aM,bA];done)
   |(clear hA;simp_all only[oH,decide_true,decide_false,bC,cU,aI,aO,aM,bA,Nat.one_ne_zero];done)
theorem bOr{t:LTerm}(h:t.kind=1):nodeB t=(sA t.n&&gK t true false false false false):=by simp only[nodeB,h];rfl
theorem bOq{t:LTerm}(h:t.kind=2):nodeB t=((decide (t.n=0)||decide (t.n=1))&&gK t true false false false false):=by simp only[nodeB,h];rfl
theorem bOp{t:LTerm}(h:t.kind=3):nodeB t=(E6 t.text&&gK t false true false false false):=by simp only[nodeB,h];rfl
theorem bOo{t:LTerm}(h:t.kind=4):nodeB t=(bJs t.text&&gK t false true false false false):=by simp only[nodeB,h];rfl
theorem bOn{t:LTerm}(h:t.kind=5):nodeB t=(aEk t.text&&decide (t.kids.length≤8)&&gK t false true false true false):=by simp only[nodeB,h];rfl
theorem bOm{t:LTerm}(h:t.kind=7):nodeB t=(oH t B8&&gK t false false false true true):=by simp only[nodeB,h];rfl
theorem bOl{t:LTerm}(h:t.kind=8):nodeB t=(oH t aHi&&decide (t.kids.length % 2=0)&&gK t false false false true true):=by simp only[nodeB,h];rfl
theorem bPa{α:Type}{l:List α}:l.length=0↔l=[]:=eB
theorem bGp(t:LTerm)(ht:OkT t)(hk:t.kind=1): CT 193 [elT t] (.b (nodeB t)):=by
 refine iS (rx:=true) (th:=fun i=>if i=19 then some ⟨some 1,[],false,false,false,[],[],0⟩else none) cZ Tryz.func193 g0 ?_
 ·simp -implicitDefEqProofs (disch:=omega) only[Tryz.f193,go_sem,List.replicate,simprocAttr];(refine zy1 (zA2 hk (zA2 @decide_true @decide_false)) (bKv t.n) ?_;repeat' first|exact trivial|refine zJ ?_ ?_|refine zH fun hc=>?_);all_goals try simp only[Q5,Q6,sK,sJ,bPa]at *
  all_goals refine bV ?_ rfl
  all_goals rw[bOr hk]
  all_goals clear ht
  all_goals first
   |(simp_all only[gK,sA,decide_true,decide_false,bC,cU,aI,aO,aM,bA,bD,aF,not_true_eq_false,not_false_eq_true];done)
   |(simp_all[gK,sA]<;>(intros;omega))
theorem bGo(t:LTerm)(ht:OkT t)(hk:t.kind=2): CT 193 [elT t] (.b (nodeB t)):=by
 refine iS (rx:=true) (th:=fun i=>if i=19 then some ⟨some 1,[],false,false,false,[],[],0⟩else none) cZ Tryz.func193 g0 ?_
 ·simp -implicitDefEqProofs (disch:=omega) only[Tryz.f193,go_sem,List.replicate,simprocAttr];(refine zy1 (zA2 hk (zA2 @decide_true @decide_false)) (bKv t.n) ?_;repeat' first|exact trivial|refine zJ ?_ ?_|refine zH fun hc=>?_);all_goals try simp only[Q5,Q6,sK,sJ,bPa]at *
  all_goals refine bV ?_ rfl
  all_goals rw[bOq hk]
  all_goals clear ht
  all_goals first
   |(simp_all only[gK,sA,decide_true,decide_false,bC,cU,aI,aO,aM,bA,bD,aF,not_true_eq_false,not_false_eq_true];done)
   |(simp_all[gK,sA]<;>(intros;omega))
theorem bGn(t:LTerm)(ht:OkT t)(hk:t.kind=3): CT 193 [elT t] (.b (nodeB t)):=by
 refine iS (rx:=true) (th:=fun i=>if i=19 then some ⟨some 1,[],false,false,false,[],[],0⟩else none) cZ Tryz.func193 g0 ?_
 ·simp -implicitDefEqProofs (disch:=omega) only[Tryz.f193,go_sem,List.replicate,simprocAttr];(refine zy1 (zA2 hk (zA2 @decide_true @decide_false)) (bYq t.text ht.text) ?_;repeat' first|exact trivial|refine zJ ?_ ?_|refine zH fun hc=>?_);all_goals try simp only[Q5,Q6,sK,sJ,bPa]at *
  all_goals refine bV ?_ rfl
  all_goals rw[bOp hk]
  all_goals clear ht
  all_goals first
   |(simp_all only[gK,sA,decide_true,decide_false,bC,cU,aI,aO,aM,bA,bD,aF,not_true_eq_false,not_false_eq_true];done)
   |(simp_all[gK,sA]<;>(intros;omega))
theorem bGm(t:LTerm)(ht:OkT t)(hk:t.kind=4): CT 193 [elT t] (.b (nodeB t)):=by
 refine iS (rx:=true) (th:=fun i=>if i=19 then some ⟨some 1,[],false,false,false,[],[],0⟩else none) cZ Tryz.func193 g0 ?_
 ·simp -implicitDefEqProofs (disch:=omega) only[Tryz.f193,go_sem,List.replicate,simprocAttr];(refine zy1 (zA2 hk (zA2 @decide_true @decide_false)) (bYk t.text ht.text) ?_;repeat' first|exact trivial|refine zJ ?_ ?_|refine zH fun hc=>?_);all_goals try simp only[Q5,Q6,sK,sJ,bPa]at *
  all_goals refine bV ?_ rfl
  all_goals rw[bOo hk]
  all_goals clear ht
  all_goals first
   |(simp_all only[gK,sA,decide_true,decide_false,bC,cU,aI,aO,aM,bA,bD,aF,not_true_eq_false,not_false_eq_true];done)
   |(simp_all[gK,sA]<;>(intros;omega))
theorem bGl(t:LTerm)(ht:OkT t)(hk:t.kind=5): CT 193 [elT t] (.b (nodeB t)):=by
 refine iS (rx:=true) (th:=fun i=>if i=19 then some ⟨some 1,[],false,false,false,[],[],0⟩else none) cZ Tryz.func193 g0 ?_
 ·simp -implicitDefEqProofs (disch:=omega) only[Tryz.f193,go_sem,List.replicate,simprocAttr];(refine zy1 (zA2 hk (zA2 @decide_true @decide_false)) (bYj t.text ht.text) ?_;repeat' first|exact trivial|refine zJ ?_ ?_|refine zH fun hc=>?_);all_goals try simp only[Q5,Q6,sK,sJ,bPa]at *
  all_goals refine bV ?_ rfl
  all_goals rw[bOn hk]
  all_goals clear ht
  all_goals first
   |(simp_all only[gK,sA,decide_true,decide_false,bC,cU,aI,aO,aM,bA,bD,aF,not_true_eq_false,not_false_eq_true];done)
   |(simp_all[gK,sA]<;>(intros;omega))
theorem bGk(t:LTerm)(ht:OkT t)(hk:t.kind=7): CT 193 [elT t] (.b (nodeB t)):=by
 refine iS (rx:=true) (th:=fun i=>if i=19 then some ⟨some 1,[],false,false,false,[],[],0⟩else none) cZ Tryz.func193 g0 ?_
 ·simp -implicitDefEqProofs (disch:=omega) only[Tryz.f193,go_sem,List.replicate,simprocAttr];(refine zy1 (zA2 hk (zA2 @decide_true @decide_false)) (bKu t B8 ht (by decide)) ?_;repeat' first|exact trivial|refine zJ ?_ ?_|refine zH fun hc=>?_);all_goals try simp only[Q5,Q6,sK,sJ,bPa]at *
  all_goals refine bV ?_ rfl
  all_goals rw[bOm hk]
  all_goals clear ht
  all_goals first
   |(simp_all only[gK,sA,decide_true,decide_false,bC,cU,aI,aO,aM,bA,bD,aF,not_true_eq_false,not_false_eq_true];done)
   |(simp_all[gK,sA]<;>(intros;omega))
theorem bGj(t:LTerm)(ht:OkT t)(hk:t.kind=8): CT 193 [elT t] (.b (nodeB t)):=by
 refine iS (rx:=true) (th:=fun i=>if i=19 then some ⟨some 1,[],false,false,false,[],[],0⟩else none) cZ Tryz.func193 g0 ?_
 ·simp -implicitDefEqProofs (disch:=omega) only[Tryz.f193,go_sem,List.replicate,simprocAttr];(refine zy1 (zA2 hk (zA2 @decide_true @decide_false)) (bKu t aHi ht (by decide)) ?_;repeat' first|exact trivial|refine zJ ?_ ?_|refine zH fun hc=>?_);all_goals try simp only[Q5,Q6,sK,sJ,bPa]at *
  all_goals refine bV ?_ rfl
  all_goals rw[bOl hk]
  all_goals clear ht
  all_goals first
   |(simp_all only[gK,sA,decide_true,decide_false,bC,cU,aI,aO,aM,bA,bD,aF,not_true_eq_false,not_false_eq_true];done)
   |(simp_all[gK,sA]<;>(intros;omega))
theorem bGq(t:LTerm)(h1:¬t.kind=1)(h2:¬t.kind=2)(h3:¬t.kind=3)(h4:¬t.kind=4)(h5:¬t.kind=5)(h6:¬t.kind=6)(h7:¬t.kind=7)(h8:¬t.kind=8): CT 193 [elT t] (.b (nodeB t)):=by
 refine iS (rx:=true) (th:=fun i=>if i=19 then some ⟨some 1,[],false,false,false,[],[],0⟩else none) cZ Tryz.func193 g0 ?_
 ·simp -implicitDefEqProofs (disch:=omega) only[Tryz.f193,go_sem,List.replicate,simprocAttr];have hn:nodeB t=false:=by simp only[nodeB,h1,h2,h3,h4,h5,h6,h7,h8,if_false]
  (refine zx0 (zA2 h1 (zA2 h2 (zA2 h3 (zA2 h4 (zA2 h5 (zA2 h6 (zA2 h7 (zA2 h8 (zA2 @decide_true @decide_false))))))))) ?_;repeat' first|exact trivial|refine zJ ?_ ?_|refine zH fun hc=>?_);all_goals exact bV (by rw[hn]) rfl
theorem bYp(t:LTerm)(ht:OkT t):CT 193 [elT t] (.b (nodeB t)):=by
 by_cases h1:t.kind=1
 ·exact bGp t ht h1
 by_cases h2:t.kind=2
 ·exact bGo t ht h2
 by_cases h3:t.kind=3
 ·exact bGn t ht h3
 by_cases h4:t.kind=4
 ·exact bGm t ht h4
 by_cases h5:t.kind=5
 ·exact bGl t ht h5
 by_cases h6:t.kind=6
 ·exact aYt t ht h6
 by_cases h7:t.kind=7
 ·exact bGk t ht h7
 by_cases h8:t.kind=8
 ·exact bGj t ht h8
 exact bGq t h1 h2 h3 h4 h5 h6 h7 h8
end Go.Proofs.YtdjcggcjlphdoaaGreatDoor
namespace Go.Vo
section
variable (p:LTerm→Bool)
mutual
def nO:LTerm→Int→Int→Int×Bool
 | .mk k n t s ks rs,d,m=>
   if(decide (d≤60)&&decide (m+1≤2000)&&p (.mk k n t s ks rs))=true then
    (if(lookL ks (d+1) (m+1)).2=true then((lookL ks (d+1) (m+1)).1+rs.length,decide (rs.length=0)||(decide (d<60)&&decide ((lookL ks (d+1) (m+1)).1+rs.length≤2000)))else((lookL ks (d+1) (m+1)).1,false))
   else(m+1,false)
def lookL:List LTerm→Int→Int→Int×Bool
 | [],d,m=>(m,true)
 |k::l,d,m=>if(nO k d m).2=true then lookL l d (nO k d m).1 else((nO k d m).1,false)
end
mutual
def iZ:LTerm→Int→Int→Bool×Int
 | .mk k n t s ks rs,d,left=>
   if(decide (left-(1+rs.length)<0)||decide (d<1)||(decide (0<rs.length)&&decide (d<2)) || !p (.mk k n t s ks rs))=true then(false,left-(1+rs.length))else formedL ks (d-1) (left-(1+rs.length))
def formedL:List LTerm→Int→Int→Bool×Int
 | [],d,left=>(true,left)
 |k::l,d,left=>if(iZ k d left).1=true then formedL l d (iZ k d left).2 else(false,(iZ k d left).2)
end
mutual
def wfT:LTerm→Bool
 | .mk k n t s ks rs=>p (.mk k n t s ks rs)&&wfL ks
def wfL:List LTerm→Bool
 | []=>true
 |k::l=>wfT k&&wfL l
end
end
mutual
def nodesT:LTerm→Nat
 | .mk k n t s ks rs=>1+rs.length+nodesL ks
def nodesL:List LTerm→Nat
 | []=>0
 |k::l=>nodesT k+nodesL l
end
mutual
def highT:LTerm→Nat
 | .mk k n t s ks rs=>1+max rs.length (highL ks)
def highL:List LTerm→Nat
 | []=>0
 |k::l=>max (highT k) (highL l)
end
section
variable {p:LTerm→Bool}
mutual
theorem B7(hp:∀t,p t=true→t.rest.length≤1):∀(t:LTerm) (d m:Int),((nO p t d m).2=true↔wfT p t=true∧d+highT t≤61∧m+nodesT t≤2000)∧((nO p t d m).2=true→(nO p t d m).1=m+nodesT t)
 | .mk k n t s ks rs,d,m=>by
   rw[nO,wfT,highT,nodesT];split
   ·rename_i hc;simp only[aA,decide_eq_true_eq]at hc;obtain⟨⟨h1,h2⟩,h3⟩:=hc;have hr:=hp _ h3;simp only[LTerm.rest]at hr;obtain⟨i1,i2⟩:=lookL_spec hp ks (d+1) (m+1) (by omega) (by omega);rw[h3,aI];split
    ·rename_i hl;have e:=i2 hl;obtain⟨w,w2,w3⟩:=i1.1 hl;simp only[cC,aA,decide_eq_true_eq,w,true_and,e];exact⟨by omega,fun _=>by omega⟩
    ·rename_i hl;refine⟨⟨(fun h=>by cases h),fun⟨a,b,c⟩=>?_⟩,fun h=>by cases h⟩;exact absurd (i1.2 ⟨a,by omega,by omega⟩) hl
   ·rename_i hc;refine⟨⟨(fun h=>by cases h),fun⟨a,b,c⟩=>?_⟩,fun h=>by cases h⟩;exfalso;refine hc ?_;simp only[aA,decide_eq_true_eq]at a ⊢;exact⟨⟨by omega,by omega⟩,a.1⟩
theorem lookL_spec(hp:∀t,p t=true→t.rest.length≤1):∀(l:List LTerm) (d m:Int),d≤61→m≤2000→((lookL p l d m).2=true↔wfL p l=true∧d+highL l≤61∧m+nodesL l≤2000)∧((lookL p l d m).2=true→(lookL p l d m).1=m+nodesL l)
 | [],d,m,hd,hm=>by
   rw[lookL,wfL,highL,nodesL];exact⟨⟨fun _=>⟨rfl,by omega,by omega⟩,fun _=>rfl⟩,fun _=>by omega⟩
 |k :: l,d,m,hd,hm=>by
  obtain⟨i1,i2⟩:=B7 hp k d m;rw[lookL,wfL,highL,nodesL];split
  ·rename_i hk;have e:=i2 hk;obtain⟨w,w2,w3⟩:=i1.1 hk;obtain⟨j1,j2⟩:=lookL_spec hp l d (nO p k d m).1 hd (by omega);rw[w,aI,j1];exact⟨⟨fun⟨a,b,c⟩=>⟨a,by omega,by omega⟩,fun⟨a,b,c⟩=>⟨a,by omega,by omega⟩⟩,fun h=>by have:=j2 (j1.2 h);omega⟩
  ·rename_i hk;refine⟨⟨(fun h=>by cases h),fun⟨a,b,c⟩=>?_⟩,fun h=>by cases h⟩;rw[aA]at a;exact absurd (i1.2 ⟨a.1,by omega,by omega⟩) hk
end
mutual
theorem uP(hp:∀t,p t=true→t.rest.length≤1):∀(t:LTerm) (d m:Int),((iZ p t d m).1=true↔wfT p t=true∧(highT t:Int)≤d∧(nodesT t:Int)≤m)∧((iZ p t d m).1=true→(iZ p t d m).2=m-nodesT t)
 | .mk k n t s ks rs,d,m=>by
   rw[iZ,wfT,highT,nodesT];split
   ·rename_i hc;refine⟨⟨(fun h=>by cases h),fun⟨h1,h2,h3⟩=>?_⟩,fun h=>by cases h⟩;exfalso;simp only[aA,cC,decide_eq_true_eq,eF]at h1 hc;rcases hc with((hc|hc)|⟨hc,hc'⟩)|hc
    ·omega
    ·omega
    ·omega
    ·rw[h1.1]at hc;cases hc
   ·rename_i hc;simp only[cC,aA,decide_eq_true_eq,eF,not_or,not_and,mC]at hc;obtain⟨⟨⟨h1,h2⟩,h4⟩,h3⟩:=hc;have hr:=hp _ h3;simp only[LTerm.rest]at hr;obtain⟨i1,i2⟩:=formedL_spec hp ks (d-1) (m-(1+rs.length)) (by omega) (by omega);rw[h3,aI,i1];exact⟨⟨fun⟨a,b,c⟩=>⟨a,by omega,by omega⟩,fun⟨a,b,c⟩=>⟨a,by omega,by omega⟩⟩,fun h=>by have:=i2 (i1.2 h);omega⟩
theorem formedL_spec(hp:∀t,p t=true→t.rest.length≤1):∀(l:List LTerm) (d m:Int),0≤d→0≤m→((formedL p l d m).1=true↔wfL p l=true∧(highL l:Int)≤d∧(nodesL l:Int)≤m)∧((formedL p l d m).1=true→(formedL p l d m).2=m-nodesL l)
 | [],d,m,hd,hm=>by
   rw[formedL,wfL,highL,nodesL];exact⟨⟨fun _=>⟨rfl,by omega,by omega⟩,fun _=>rfl⟩,fun _=>by omega⟩
 |k :: l,d,m,hd,hm=>by
  obtain⟨i1,i2⟩:=uP hp k d m;rw[formedL,wfL,highL,nodesL];split
  ·rename_i hk;have e:=i2 hk;obtain⟨w,w2,w3⟩:=i1.1 hk;obtain⟨j1,j2⟩:=formedL_spec hp l d (iZ p k d m).2 hd (by omega);rw[w,aI,j1];exact⟨⟨fun⟨a,b,c⟩=>⟨a,by omega,by omega⟩,fun⟨a,b,c⟩=>⟨a,by omega,by omega⟩⟩,fun h=>by have:=j2 (j1.2 h);omega⟩
  ·rename_i hk;refine⟨⟨(fun h=>by cases h),fun⟨a,b,c⟩=>?_⟩,fun h=>by cases h⟩;rw[aA]at a;exact absurd (i1.2 ⟨a.1,by omega,by omega⟩) hk
end
def iA(p:LTerm→Bool)(t:LTerm):Bool:=wfT p t&&decide (highT t≤60)&&decide (nodesT t≤2000)
theorem aQg(hp:∀t,p t=true→t.rest.length≤1)(t:LTerm):(nO p t 1 0).2=iA p t:=by
 rw[fA,(B7 hp t 1 0).1,iA];simp only[aA,decide_eq_true_eq];exact⟨fun⟨a,b,c⟩=>⟨⟨a,by omega⟩,by omega⟩,fun⟨⟨a,b⟩,c⟩=>⟨a,by omega,by omega⟩⟩
theorem aFj(hp:∀t,p t=true→t.rest.length≤1)(t:LTerm):(iZ p t 60 2000).1=iA p t:=by
 rw[fA,(uP hp t 60 2000).1,iA];simp only[aA,decide_eq_true_eq];exact⟨fun⟨a,b,c⟩=>⟨⟨a,by omega⟩,by omega⟩,fun⟨⟨a,b⟩,c⟩=>⟨a,by omega,by omega⟩⟩
end
end Go.Vo
namespace Go.Proofs.YtdjcggcjlphdoaaGreatDoor
open Go Go.Vo
open Nat (reduceAdd reduceSub reduceMul reduceLeDiff reduceLT reduceEqDiff)
open Int (reduceNeg)
theorem aMn(p:LTerm→Bool)(t:LTerm)(d m:Int):nO p t d m=if(decide (d≤60)&&decide (m+1≤2000)&&p t)=true then(if(lookL p t.kids (d+1) (m+1)).2=true then((lookL p t.kids (d+1) (m+1)).1+t.rest.length,decide (t.rest.length=0)||(decide (d<60)&&decide ((lookL p t.kids (d+1) (m+1)).1+t.rest.length≤2000)))else((lookL p t.kids (d+1) (m+1)).1,false))else(m+1,false):=by
 cases t;rw[nO];rfl
theorem bEw{p:LTerm→Bool}{l:List LTerm}{k:Nat}{d m:Int}(h:k<l.length):lookL p (l.drop k) d m=if(nO p (l.getD k default) d m).2=true then lookL p (l.drop (k+1)) d (nO p (l.getD k default) d m).1 else((nO p (l.getD k default) d m).1,false):=by
 rw[eA h,lookL];simp[List.getD,h]
theorem bEv{p:LTerm→Bool}{t:LTerm}{d m:Int}(hp:∀t,p t=true→t.rest.length≤1)(hm:0≤m)(h:(nO p t d m).2=true):0≤(nO p t d m).1∧(nO p t d m).1≤2000:=by
 have s:=B7 hp t d m;rw[s.2 h];have:=s.1.1 h;omega
theorem aIz{p:LTerm→Bool}{t:LTerm}{d m:Int}(h:(decide (d≤60)&&decide (m+1≤2000)&&p t)=false):nO p t d m=(m+1,false):=by
 rw[aMn,if_neg (by rw[h];simp)]
abbrev bIh(t:LTerm)(d m:Int):AV→List AObj→Prop:=fun r h'=>r=.tup []∧∃g,h'=.box false [.i .i64 (nO nodeB t d m).1,.b (nO nodeB t d m).2]::g
theorem yR{t:LTerm}{d m a:Int}{b:Bool}{h g:List AObj}(e:nO nodeB t d m=(a,b))(hh:h=.box false [.i .i64 a,.b b]::g):bIh t d m (.tup []) h:=⟨rfl,g,by rw[e];exact hh⟩
def L6(d m:Int)(j:Nat):Bool:=decide (j=0)||(decide (d<60)&&decide (m+j≤2000))
@[simp] theorem cBl{d m:Int}:L6 d m 0=true:=by simp[L6]
theorem xC{d m:Int}{j:Nat}:L6 d m (j+1)=(L6 d m j&&decide (d<60)&&decide (m+j+1≤2000)):=by
 rw[fA];simp only[L6,cC,aA,decide_eq_true_eq];omega
theorem cDm(t:LTerm)(d m:Int)(ht:OkT t)(hm0:0≤m)(hm:m≤2000)(hd0:0≤d)(hd:d≤100)(ih:∀k∈t.kids,∀(d m:Int),0≤m→m≤2000→0≤d→d≤100→ACalls Tryz.prog G0 121 [.ptr 0 0,elT k,.i .i64 d] [.box false [.i .i64 m,.b true]] (bIh k d m)): ACalls Tryz.prog G0 121 [.ptr 0 0,elT t,.i .i64 d] [.box false [.i .i64 m,.b true]] (bIh t d m):=by
 refine eJ (rx:=false) (th:=fun _=>none) cZ Tryz.func121 ?_
 ·simp -implicitDefEqProofs (disch:=omega) only[Tryz.f121,go_sem,List.replicate,simprocAttr];have hk1:=ht.kids;have hr1:=ht.rest;have c:=bYp t ht;cases hnb:nodeB t with
  |false=>
   rw[hnb]at c;(refine zt1 c ?_;repeat' first|exact trivial|refine zJ ?_ ?_|refine zH fun hc=>?_);all_goals exact yR (aIz (by simp only[hnb,aM])) rfl
  |true=>
  rw[hnb]at c;(refine zt1 c ?_;repeat' first|exact trivial|refine zJ ?_ ?_|refine zH fun hc=>?_);rotate_left
  ·exact yR (aIz (by simp only[*,decide_true,decide_false,aO,aM,aI])) rfl
  ·exact yR (aIz (by simp only[*,decide_true,decide_false,aO,aM,aI])) rfl
  have hif:nO nodeB t d m=_:=aMn nodeB t d m;rw[if_pos (by simp only[*,decide_true,eZ])]at hif;refine kI (fun(s:Nat×Int)=>(rp 7 .k (.j::(rp 37 .k (.v (.i .i64 (s.1:Nat))::(rp 14 .j (rp 31 .k []))))))) (fun s=>[.box false [.i .i64 s.2,.b true],.box false (tmC t)]) (fun s=>s.1≤t.kids.length∧lookL nodeB t.kids (d+1) (m+1)=lookL nodeB (t.kids.drop s.1) (d+1) s.2∧0≤s.2∧s.2≤2000) (fun s=>t.kids.length-s.1) ((0,m+1)) _ ⟨bJ _,rfl,by dsimp only;omega,by dsimp only;omega⟩ rfl (by simp[hZ]) ?_;rintro⟨k,m2⟩ g j ⟨hk,hL,hm20,hm2⟩;dsimp only at hk hL hm20 hm2;refine zg ?_;(refine zs0 ?_;repeat' first|exact trivial|refine zJ ?_ ?_|refine zH fun hc=>?_)
  ·have hlt:k<t.kids.length:=by omega
   rw[bEw hlt]at hL;refine bHb 0 g0 (ih _ (cT (d:=default) hlt) (d+1) m2 hm20 hm2 (by omega) (by omega)) rfl rfl rfl rfl ?_ ?_
   ·simp only[renL,ren,elT,aW,avt,renL_pers _ _ iL,T8]
   ·intro g2;refine zg ?_;(refine zs0 ?_;repeat' first|exact trivial|refine zJ ?_ ?_|refine zH fun hc=>?_)
    ·rw[if_neg (by rw[show(nO nodeB (t.kids.getD k default) (d+1) m2).2=false from hc];simp)]at hL;rw[hL,if_neg (by simp)]at hif;rw[show(nO nodeB (t.kids.getD k default) (d+1) m2).2=false from hc];exact yR hif rfl
    ·have e:(nO nodeB (t.kids.getD k default) (d+1) m2).2=true:=hc;rw[if_pos e]at hL;have hle:=bEv kQ hm20 e;rw[e];exact⟨(k+1,(nO nodeB (t.kids.getD k default) (d+1) m2).1),_,⟨by dsimp only;omega,hL,hle.1,hle.2⟩,by dsimp only;omega,rfl,by simp⟩
  ·rw[cV (by omega),lookL]at hL;rw[hL,if_pos rfl]at hif;refine dF (fun(i:Nat)=>(rp 63 .k (.v (.i .i64 (i:Nat))::(rp 27 .j [])))) (fun i=>.box false [.i .i64 (m2+(i:Nat)),.b (L6 d m2 i)]::.box false (tmC t)::g) (fun i=>i≤t.rest.length) (fun i=>t.rest.length-i) (0) (bJ _) (by simp[avs,avb,avi,avo,eU]) (by simp[hZ]) ?_;rintro i j hi;refine zg ?_;(refine zs0 ?_;repeat' first|exact trivial|refine zJ ?_ ?_|refine zH fun hc=>?_)
   ·exact⟨i+1,by omega,by omega,by rw[xC,show L6 d m2 i=true by assumption,Int.natCast_succ,← Int.add_assoc];simp only[aI,zt hc],by simp⟩
   ·exact⟨i+1,by omega,by omega,by rw[xC,Int.natCast_succ,← Int.add_assoc];simp only[zf hc,aM,aO],by simp⟩
   ·exact⟨i+1,by omega,by omega,by rw[xC,hc,Int.natCast_succ,← Int.add_assoc];simp only[aO],by simp⟩
   ·have e:i=t.rest.length:=by omega
    exact yR hif (by rw[e];rfl)
theorem look:∀(t:LTerm),OkT t→∀(d m:Int),0≤m→m≤2000→0≤d→d≤100→ACalls Tryz.prog G0 121 [.ptr 0 0,elT t,.i .i64 d] [.box false [.i .i64 m,.b true]] (bIh t d m):=
 fH fun t hk _ ht d m h1 h2 h3 h4=>cDm t d m ht h1 h2 h3 h4 (fun k hmem d m a b c e=>hk k hmem (ht.kid k hmem) d m a b c e)
theorem aNr(t:LTerm)(ht:OkT t): CT 59 [elT t] (.b (iA nodeB t)):=by
 refine bQ cZ Tryz.func59 g0 ?_
 ·skip;(refine zs0 ?_;repeat' first|exact trivial|refine zJ ?_ ?_|refine zH fun hc=>?_);refine bHb 1 g0 (look t ht 1 0 (by decide) (by decide) (by decide) (by decide)) rfl rfl rfl rfl ?_ ?_
  ·simp only[renL,ren,elT,aW,avt,renL_pers _ _ iL,T8]
  ·intro g2;refine zg ?_;(refine zs0 ?_;repeat' first|exact trivial|refine zJ ?_ ?_|refine zH fun hc=>?_);exact bV (by rw[aQg kQ]) rfl
theorem aQo(p:LTerm→Bool)(t:LTerm)(d m:Int):iZ p t d m=if(decide (m-(1+t.rest.length)<0)||decide (d<1)||(decide (0<t.rest.length)&&decide (d<2)) || !p t)=true then(false,m-(1+t.rest.length))else formedL p t.kids (d-1) (m-(1+t.rest.length)):=by
 cases t;rw[iZ];rfl
theorem aQp{p:LTerm→Bool}{l:List LTerm}{k:Nat}{d m:Int}(h:k<l.length):formedL p (l.drop k) d m=if(iZ p (l.getD k default) d m).1=true then formedL p (l.drop (k+1)) d (iZ p (l.getD k default) d m).2 else(false,(iZ p (l.getD k default) d m).2):=by
 rw[eA h,formedL];simp[List.getD,h]
theorem aQn{p:LTerm→Bool}{t:LTerm}{d m:Int}(hp:∀t,p t=true→t.rest.length≤1)(hm:m≤2000)(h:(iZ p t d m).1=true):0≤(iZ p t d m).2∧(iZ p t d m).2≤2000:=by
 have s:=uP hp t d m;rw[s.2 h];have:=s.1.1 h;omega
abbrev aCj(t:LTerm)(d m:Int):AV→List AObj→Prop:=fun r h'=>r=.b (iZ nodeB t d m).1∧∃g,h'=.box false [.i .i64 (iZ nodeB t d m).2]::g
theorem rD{t:LTerm}{d m a:Int}{b:Bool}{h g:List AObj}(e:iZ nodeB t d m=(b,a))(hh:h=.box false [.i .i64 a]::g):aCj t d m (.b b) h:=⟨by rw[e],g,by rw[e];exact hh⟩
theorem bPq(t:LTerm)(d m:Int)(ht:OkT t)(hm0:0≤m)(hm:m≤2000)(hd0:0≤d)(hd:d≤100)(ih:∀k∈t.kids,∀(d m:Int),0≤m→m≤2000→0≤d→d≤100→ACalls Tryz.prog G0 125 [elT k,.i .i64 d,.ptr 0 0] [.box false [.i .i64 m]] (aCj k d m)): ACalls Tryz.prog G0 125 [elT t,.i .i64 d,.ptr 0 0] [.box false [.i .i64 m]] (aCj t d m):=by
 refine eJ (rx:=false) (th:=fun _=>none) cZ Tryz.func125 ?_
 ·simp -implicitDefEqProofs (disch:=omega) only[Tryz.f125,go_sem,List.replicate,simprocAttr];have hk1:=ht.kids;have hr1:=ht.rest;have c:=bYl t ht;have e:=aQo nodeB t d m;rw[show decide (0<t.rest.length)=decide (0<(t.rest.length:Int)) by simp]at e;have w1:IntKind.i64.wrap (1+(t.rest.length:Int))=1+t.rest.length:=wrap64 (by omega) (by omega);have w2:IntKind.i64.wrap (m-(1+(t.rest.length:Int)))=m-(1+t.rest.length):=wrap64 (by omega) (by omega);cases hnb:nodeB t with
  |false=>
   rw[hnb]at c;rw[hnb,aS,bD,if_pos rfl]at e;(repeat'(first|refine gT ?_ ?_|refine gF ?_ ?_|refine gC ?_ ?_|((refine dA (c) ?_ ?_;(focus(simp -implicitDefEqProofs (disch:=omega) only[w1,w2,zdB,go_sem,simprocAttr];done)));simp -implicitDefEqProofs (disch:=omega) only[w1,w2,go_sem,simprocAttr])|refine bX (by omega) ?_|(intro hr;have hc:=hr;(try simp only[zdz]at hc);simp -implicitDefEqProofs (disch:=omega) only[hr,w1,w2,go_sem,simprocAttr];(try clear hr))));all_goals first
    |exact rD e rfl
    |(exfalso;simp only[w1,w2]at *;omega)
  |true=>
  rw[hnb]at c;rw[hnb,aN,aF]at e;(repeat'(first|refine gT ?_ ?_|refine gF ?_ ?_|refine gC ?_ ?_|((refine dA (c) ?_ ?_;(focus(simp -implicitDefEqProofs (disch:=omega) only[w1,w2,zdB,go_sem,simprocAttr];done)));simp -implicitDefEqProofs (disch:=omega) only[w1,w2,go_sem,simprocAttr])|refine bX (by omega) ?_|(intro hr;have hc:=hr;(try simp only[zdz]at hc);simp -implicitDefEqProofs (disch:=omega) only[hr,w1,w2,go_sem,simprocAttr];(try clear hr))));all_goals try(exfalso;simp only[w1,w2]at *;omega)
  all_goals try exact rD (e.trans (if_pos (by simp only[*,decide_true,decide_false,bC,bD,cU,aI,aO]))) rfl
  all_goals try exact rD (e.trans (if_pos (by simp[*]))) rfl
  all_goals
   rw[if_neg (by simp only[*,decide_true,decide_false,bC,bD,aF,cU,aI,aO,aE,not_false_eq_true];try omega)]at e
   refine kI (fun(s:Nat×Int)=>(rp 6 .k (.j::.k::.j::(rp 35 .k (.v (.i .i64 (s.1:Nat))::(rp 10 .j [])))))) (fun s=>[.box false [.i .i64 s.2],.box false (tmC t)]) (fun s=>s.1≤t.kids.length∧formedL nodeB t.kids (d-1) (m-(1+t.rest.length))=formedL nodeB (t.kids.drop s.1) (d-1) s.2∧0≤s.2∧s.2≤2000) (fun s=>t.kids.length-s.1) ((0,m-(1+t.rest.length))) _ ⟨bJ _,rfl,by dsimp only;omega,by dsimp only;omega⟩ rfl (by simp[hZ]) ?_
   rintro⟨k,m2⟩ g j ⟨hk,hL,hm20,hm2⟩
   dsimp only at hk hL hm20 hm2
   refine zg ?_
   (refine zs0 ?_;repeat' first|exact trivial|refine zJ ?_ ?_|refine zH fun hc=>?_)
   ·have hlt:k<t.kids.length:=by omega
    rw[aQp hlt]at hL;refine bHb 0 g0 (ih _ (cT (d:=default) hlt) (d-1) m2 hm20 hm2 (by omega) (by omega)) rfl rfl rfl rfl ?_ ?_
    ·simp only[renL,ren,elT,aW,avt,renL_pers _ _ iL,T8]
    ·intro g2;refine zg ?_;(refine zs0 ?_;repeat' first|exact trivial|refine zJ ?_ ?_|refine zH fun hc=>?_)
     ·rw[if_neg (by rw[show(iZ nodeB (t.kids.getD k default) (d-1) m2).1=false by assumption];simp)]at hL;exact rD (e.trans hL) rfl
     ·rw[if_pos (show(iZ nodeB (t.kids.getD k default) (d-1) m2).1=true by assumption)]at hL;have hle:=aQn kQ hm2 (show(iZ nodeB (t.kids.getD k default) (d-1) m2).1=true by assumption);exact⟨(k+1,(iZ nodeB (t.kids.getD k default) (d-1) m2).2),_,⟨by dsimp only;omega,hL,hle.1,hle.2⟩,by dsimp only;omega,rfl,by simp⟩
   ·rw[cV (by omega),formedL]at hL;exact rD (e.trans hL) rfl
theorem bVy:∀(t:LTerm),OkT t→∀(d m:Int),0≤m→m≤2000→0≤d→d≤100→ACalls Tryz.prog G0 125 [elT t,.i .i64 d,.ptr 0 0] [.box false [.i .i64 m]] (aCj t d m):=
 fH fun t hk _ ht d m h1 h2 h3 h4=>bPq t d m ht h1 h2 h3 h4 (fun k hmem d m a b c e=>hk k hmem (ht.kid k hmem) d m a b c e)
theorem bYt(t:LTerm)(ht:OkT t): CT 63 [elT t] (.b (iA nodeB t)):=by
 refine bQ cZ Tryz.func63 g0 ?_
 ·skip;(refine zs0 ?_;repeat' first|exact trivial|refine zJ ?_ ?_|refine zH fun hc=>?_);refine bHb 1 g0 (bVy t ht 60 2000 (by decide) (by decide) (by decide) (by decide)) rfl rfl rfl rfl ?_ ?_
  ·simp only[renL,ren,elT,aW,avt,renL_pers _ _ iL,T8]
  ·intro g2;refine zg ?_;(refine zs0 ?_;repeat' first|exact trivial|refine zJ ?_ ?_|refine zH fun hc=>?_);exact bV (by rw[aFj kQ]) rfl
def aKe(n:Nat)(f:Nat→Bool):Bool:=(List.range n).all f
theorem R6{n:Nat}{f:Nat→Bool}(h:∀j,j<n→f j=true):aKe n f=true:=by
 simp only[aKe,bF,fE];exact h
theorem wF{n:Nat}{f:Nat→Bool}(j:Nat)(hj:j<n)(h:f j=false):aKe n f=false:=by
 rw[dD];intro e;simp only[aKe,bF,fE]at e;rw[e j hj]at h;cases h
theorem nM{n:Nat}{f:Nat→Bool}:aKe n f=true↔∀j,j<n→f j=true:=by
 simp only[aKe,bF,fE]
theorem I7{l:List LTerm}{f:LTerm→Bool}(h:∀j,j<l.length→f (l.getD j default)=true):l.all f=true:=by
 rw[bF];intro x hx;obtain⟨j,hj,rfl⟩:=dC.1 hx;have:=h j hj;simpa[List.getD,hj]using this
theorem aGy{l:List LTerm}{f:LTerm→Bool}(j:Nat)(hj:j<l.length)(h:f (l.getD j default)=false):l.all f=false:=by
 rw[dD];intro e;rw[bF.1 e _ (cT hj)]at h;cases h
def aMd(s:dX)(t:LTerm):Bool:=match bDz s t.text with
 |none=>false
 |some o=>decide (o.args.length=t.kids.length)&&aKe t.kids.length (fun i=>nQ s (qM s (t.kids.getD i default)) (o.args.getD i []))
def B9(f:LTerm→LTerm→Int)(t:LTerm)(i:Nat):Bool:=isKey (t.kids.getD (2*i) default)&&(decide (i=0)||decide (f (t.kids.getD (2*i-2) default) (t.kids.getD (2*i) default)<0))
def E5(f:LTerm→LTerm→Int)(t:LTerm):Bool:=aKe ((t.kids.length+1) / 2) (B9 f t)
section
variable {f:LTerm→LTerm→Int} {t:LTerm} {i:Nat}
theorem aWp(h:isKey (t.kids.getD (2*i) default)=false):B9 f t i=false:=by rw[B9,h,aO]
theorem bFc(h:0<((2*i:Nat):Int))(h2:0≤f (t.kids.getD (2*i-2) default) (t.kids.getD (2*i) default)):B9 f t i=false:=by
 rw[B9,zf (by omega:¬i=0),zf (by omega:¬f (t.kids.getD (2*i-2) default) (t.kids.getD (2*i) default)<0),cU,aM]
theorem aWo(h:isKey (t.kids.getD (2*i) default)=true)(h2:¬0≤f (t.kids.getD (2*i-2) default) (t.kids.getD (2*i) default)):B9 f t i=true:=by
 rw[B9,h,zt (by omega:f (t.kids.getD (2*i-2) default) (t.kids.getD (2*i) default)<0),bD];rfl
theorem bPh(h:isKey (t.kids.getD (2*i) default)=true)(h2:¬0<((2*i:Nat):Int)):B9 f t i=true:=by
 rw[B9,h,zt (by omega:i=0)];rfl
end
mutual
def plainP(s:dX):LTerm→Bool
 | .mk k n x so ks rs => !decide (k=6)&&decide (rs=[])&&plainPL s ks&&(if k=5 then aMd s (.mk k n x so ks rs)else if k=8 then E5 mH (.mk k n x so ks rs)else true)
def plainPL(s:dX):List LTerm→Bool
 | []=>true
 |k::l=>plainP s k&&plainPL s l
end
theorem W5{s:dX}:∀l,plainPL s l=l.all (plainP s)
 | []=>rfl
 |k::l=>by rw[plainPL,W5 l];rfl
theorem oY(s:dX)(t:LTerm):plainP s t=(!decide (t.kind=6)&&decide (t.rest=[])&&t.kids.all (plainP s)&&(if t.kind=5 then aMd s t else if t.kind=8 then E5 mH t else true)):=by
 cases t;rw[plainP,W5];rfl
theorem bGt(s:dX)(t:LTerm)(hs:Small s)(ht:OkT t)(ih:∀k∈t.kids,CT 102 [cM s,elT k] (.b (plainP s k))): CT 102 [cM s,elT t] (.b (plainP s t)):=by
 refine bQ cZ Tryz.func102 g0 ?_
 ·skip;have e:=oY s t;have hk1:=ht.kids;by_cases h6:t.kind=6
  ·rw[zt h6,aN,aO,aO,aO]at e;(refine zs0 ?_;repeat' first|exact trivial|refine zJ ?_ ?_|refine zH fun hc=>?_);all_goals first
    |exact bV (by rw[e]) rfl
    |(exfalso;omega)
  by_cases hr:¬t.rest=[]
  ·rw[zf hr,aM,aO,aO]at e;have hr2:¬t.rest.length=0:=fun h=>hr (eB.1 h);(refine zs0 ?_;repeat' first|exact trivial|refine zJ ?_ ?_|refine zH fun hc=>?_);all_goals first
    |exact bV (by rw[e]) rfl
    |(exfalso;omega)
  have hr:t.rest=[]:=Classical.not_not.1 hr;have hr2:t.rest.length=0:=by rw[hr];rfl
  rw[zf h6,zt hr,aS,aI,aI]at e;(refine zs0 ?_;repeat' first|exact trivial|refine zJ ?_ ?_|refine zH fun hc=>?_)
  ·exfalso;omega
  refine kI (fun(k:Nat)=>(.k::.k::.k::.k::.j::.k::.j::(rp 17 .k (.v (.i .i64 (k:Nat))::(rp 8 .j (rp 77 .k [])))))) (fun k=>[.box false (tmC t)]) (fun k=>k≤t.kids.length∧∀j,j<k→plainP s (t.kids.getD j default)=true) (fun k=>t.kids.length-k) (0) _ ⟨bJ _,fun j h=>by omega⟩ rfl (by simp[hZ]) ?_;rintro k g j ⟨hk,ha⟩;have o:k<t.kids.length→CT 102 [cM s,elT (t.kids.getD k default)] (.b (plainP s (t.kids.getD k default))):=fun h=>ih _ (cT h);refine zg ?_;(refine zt1 o ?_;repeat' first|exact trivial|refine zJ ?_ ?_|refine zH fun hc=>?_)
  ·exact bV (by rw[e,aGy k (by omega) hc,aO]) rfl
  ·exact⟨k+1,_,⟨by omega,fD ha hc⟩,by omega,rfl,by simp⟩
  ·rw[I7 (fun j hj=>ha j (by omega)),aI,if_pos hc]at e
   have c1:=bWx s t.text;cases h1:bDz s t.text with
   |none=>
    rw[h1]at c1;simp only[aMd,h1]at e;(repeat'(first|refine gT ?_ ?_|refine gF ?_ ?_|refine gC ?_ ?_|((refine dA (c1) ?_ ?_;(focus(simp -implicitDefEqProofs (disch:=omega) only[tF,cM,zdB,go_sem,simprocAttr];done)));simp -implicitDefEqProofs (disch:=omega) only[tF,cM,go_sem,simprocAttr])|refine bX (by omega) ?_|(intro hr;have hc:=hr;(try simp only[zdz]at hc);simp -implicitDefEqProofs (disch:=omega) only[hr,tF,cM,go_sem,simprocAttr];(try clear hr))));all_goals exact bV (by rw[e]) rfl
   |some q=>
    rw[h1]at c1;simp only[aMd,h1]at e;(repeat'(first|refine gT ?_ ?_|refine gF ?_ ?_|refine gC ?_ ?_|((refine dA (c1) ?_ ?_;(focus(simp -implicitDefEqProofs (disch:=omega) only[tF,cM,zdB,go_sem,simprocAttr];done)));simp -implicitDefEqProofs (disch:=omega) only[tF,cM,go_sem,simprocAttr])|refine bX (by omega) ?_|(intro hr;have hc:=hr;(try simp only[zdz]at hc);simp -implicitDefEqProofs (disch:=omega) only[hr,tF,cM,go_sem,simprocAttr];(try clear hr))))
    ·have hn:¬q.args.length=t.kids.length:=by omega
     rw[zf hn,aO]at e;exact bV (by rw[e]) rfl
    have hn:q.args.length=t.kids.length:=by omega
    rw[zt hn,aI]at e;refine kI (fun(k:Nat)=>(.k::.k::.k::.k::.j::.k::.k::.k::.k::.j::.j::(rp 47 .k (.v (.i .i64 (k:Nat))::(rp 16 .j (rp 35 .k [])))))) (fun k=>(.box false (tmC t)::(g++[.box false (eU q)]))) (fun k=>k≤t.kids.length∧∀j,j<k→nQ s (qM s (t.kids.getD j default)) (q.args.getD j [])=true) (fun k=>t.kids.length-k) (0) [] ⟨bJ _,fun j h=>by omega⟩ (by simp[avs,avb,avi,avo,eU,dT]) (by simp[hZ]) ?_;rintro kk g2 j2 ⟨hkk,ha2⟩;refine zg ?_;(refine zt2 (aGa s (t.kids.getD kk default)) (aQw s (qM s (t.kids.getD kk default)) (q.args.getD kk []) hs) ?_;repeat' first|exact trivial|refine zJ ?_ ?_|refine zH fun hc=>?_)
    ·exact bV (by rw[e,wF kk (by omega) hc]) rfl
    ·exact⟨kk+1,_,⟨by omega,fD ha2 hc⟩,by omega,rfl,by simp⟩
    ·exact bV (by rw[e,R6 (fun j hj=>ha2 j (by omega))]) rfl
  ·rw[I7 (fun j hj=>ha j (by omega)),aI,if_neg (by assumption),if_pos hc]at e;refine dF (fun(i:Nat)=>(.k::.k::.k::.k::.j::(rp 6 .k (.v (.i .i64 ((2*i:Nat):Int))::(rp 65 .k (rp 33 .j [])))))) (fun i=>(.box false (tmC t)::g)) (fun i=>2*i≤t.kids.length+1∧∀j,j<i→B9 mH t j=true) (fun i=>t.kids.length+1-2*i) (0) ⟨bJ _,fun j h=>by omega⟩ rfl (by simp[hZ]) ?_;rintro i j2 ⟨hi,ha2⟩;have h0:(((2*i:Nat):Int)-2).toNat=2*i-2:=by omega
   have o1:2*i<t.kids.length→OkT (t.kids.getD (2*i) default):=fun h=>ht.kid _ (cT h);have o2:2*i<t.kids.length→OkT (t.kids.getD (2*i-2) default):=fun h=>ht.kid _ (cT (by omega));refine zh h0 ?_;(repeat'(first|refine gT ?_ ?_|refine gF ?_ ?_|refine gC ?_ ?_|((first|refine cF (aFz (t.kids.getD (2*i) default)) ?_|refine cF (bKy (t.kids.getD (2*i-2) default) (t.kids.getD (2*i) default) (o2 (by omega)) (o1 (by omega))) ?_);simp -implicitDefEqProofs (disch:=omega) only[h0,go_sem,simprocAttr])|refine bX (by omega) ?_|(intro hr;have hc:=hr;(try simp only[zdz]at hc);simp -implicitDefEqProofs (disch:=omega) only[hr,h0,go_sem,simprocAttr];(try clear hr))))
   ·exact bV (by rw[e,E5,wF i (by omega) (bFc (by assumption) hc)]) rfl
   ·exact⟨i+1,⟨by omega,fD ha2 (aWo (by assumption) hc)⟩,by omega,by rw[show((2*(i+1):Nat):Int)=((2*i:Nat):Int)+2 by omega]⟩
   ·exact⟨i+1,⟨by omega,fD ha2 (bPh (by assumption) hc)⟩,by omega,by rw[show((2*(i+1):Nat):Int)=((2*i:Nat):Int)+2 by omega]⟩
   ·exact bV (by rw[e,E5,wF i (by omega) (aWp hc)]) rfl
   ·exact bV (by rw[e,E5,R6 (fun j hj=>ha2 j (by omega))]) rfl
  ·rw[I7 (fun j hj=>ha j (by omega)),aI,if_neg (by assumption),if_neg (by assumption)]at e;exact bV (by rw[e]) rfl
  ·exfalso;omega
theorem bYu(s:dX)(hs:Small s):∀(t:LTerm),OkT t→CT 102 [cM s,elT t] (.b (plainP s t)):=
 fH fun t hk _ ht=>bGt s t hs ht (fun k hm=>hk k hm (ht.kid k hm))
theorem aGe{a b:Int}:tK a b=0↔a=b:=by
 rw[tK];split
 ·omega
 ·split<;>omega
theorem uR{a b:Str}:tP a b=0↔a=b:=by
 constructor
 ·intro h;by_cases h1:a<b
  ·rw[P9 h1]at h;cases h
  ·by_cases h2:a=b
   ·exact h2
   ·rw[Q0 h1 h2]at h;cases h
 ·exact aJr
structure ZN(t:LTerm):Prop where
 a:t.kind=1∨t.kind=2→t.text=[]∧t.sort=[]∧t.kids=[]∧t.rest=[]
 b:t.kind=3∨t.kind=4→t.n=0∧t.sort=[]∧t.kids=[]∧t.rest=[]
 c:t.kind=5→t.n=0∧t.sort=[]∧t.rest=[]
 d:t.kind=6→t.n=0∧t.kids=[]∧t.rest=[]
 e:t.kind=7∨t.kind=8→t.n=0∧t.text=[]∧t.sort=[]
 f:1≤t.kind∧t.kind≤8
theorem oV{t:LTerm}{a b c d e:Bool}(h:gK t a b c d e=true):(a=false→t.n=0)∧(b=false→t.text=[])∧(c=false→t.sort=[])∧(d=false→t.kids=[])∧(e=false→t.rest=[]):=by
 simp only[gK,aA,cC,decide_eq_true_eq]at h;obtain⟨⟨⟨⟨h1,h2⟩,h3⟩,h4⟩,h5⟩:=h;exact⟨fun h=>h1.resolve_left (by simp[h]),fun h=>h2.resolve_left (by simp[h]),fun h=>h3.resolve_left (by simp[h]),fun h=>h4.resolve_left (by simp[h]),fun h=>h5.resolve_left (by simp[h])⟩
theorem aIq{t:LTerm}(h:nodeB t=true):ZN t:=by
 have two:∀{x y:Bool},(x&&y)=true→x=true∧y=true:=by simp
 unfold nodeB at h;split at h
 ·have z:=oV (two h).2;exact⟨fun _=>⟨z.2.1 rfl,z.2.2.1 rfl,z.2.2.2.1 rfl,z.2.2.2.2 rfl⟩,fun _=>by omega,fun _=>by omega,fun _=>by omega,fun _=>by omega,by omega⟩
 split at h
 ·have z:=oV (two h).2;exact⟨fun _=>⟨z.2.1 rfl,z.2.2.1 rfl,z.2.2.2.1 rfl,z.2.2.2.2 rfl⟩,fun _=>by omega,fun _=>by omega,fun _=>by omega,fun _=>by omega,by omega⟩
 split at h
 ·have z:=oV (two h).2;exact⟨fun _=>by omega,fun _=>⟨z.1 rfl,z.2.2.1 rfl,z.2.2.2.1 rfl,z.2.2.2.2 rfl⟩,fun _=>by omega,fun _=>by omega,fun _=>by omega,by omega⟩
 split at h
 ·have z:=oV (two h).2;exact⟨fun _=>by omega,fun _=>⟨z.1 rfl,z.2.2.1 rfl,z.2.2.2.1 rfl,z.2.2.2.2 rfl⟩,fun _=>by omega,fun _=>by omega,fun _=>by omega,by omega⟩
 split at h
 ·have z:=oV (two h).2;exact⟨fun _=>by omega,fun _=>by omega,fun _=>⟨z.1 rfl,z.2.2.1 rfl,z.2.2.2.2 rfl⟩,fun _=>by omega,fun _=>by omega,by omega⟩
 split at h
 ·have z:gK t false true true false false=true:=by
   split at h
   ·exact(two h).2
   ·exact(two h).2
  have z:=oV z;exact⟨fun _=>by omega,fun _=>by omega,fun _=>by omega,fun _=>⟨z.1 rfl,z.2.2.2.1 rfl,z.2.2.2.2 rfl⟩,fun _=>by omega,by omega⟩
 split at h
 ·have z:=oV (two h).2;exact⟨fun _=>by omega,fun _=>by omega,fun _=>by omega,fun _=>by omega,fun _=>⟨z.1 rfl,z.2.1 rfl,z.2.2.1 rfl⟩,by omega⟩
 split at h
 ·have z:=oV (two h).2;exact⟨fun _=>by omega,fun _=>by omega,fun _=>by omega,fun _=>by omega,fun _=>⟨z.1 rfl,z.2.1 rfl,z.2.2.1 rfl⟩,by omega⟩
 ·cases h
theorem aHy{t:LTerm}{so:Str}(h:oH t so=true):∀r∈t.rest,ZN r∧r.kids=[]∧r.rest=[]:=by
 intro r hr;simp only[oH,cC,aA,decide_eq_true_eq]at h;rcases h with h|⟨⟨⟨⟨h1,h2⟩,h3⟩,h4⟩,h5⟩
 ·rw[eB]at h;rw[h]at hr;cases hr
 ·obtain⟨x,hx⟩:=nI.1 h1;rw[hx]at hr h2 h5;simp only[aV]at hr;subst hr;simp only[eM]at h2 h5;have z:=oV h5;exact⟨⟨fun _=>by omega,fun _=>by omega,fun _=>by omega,fun _=>⟨z.1 rfl,z.2.2.2.1 rfl,z.2.2.2.2 rfl⟩,fun _=>by omega,by omega⟩,z.2.2.2.1 rfl,z.2.2.2.2 rfl⟩
theorem aEp{t:LTerm}(h:nodeB t=true):∀r∈t.rest,ZN r∧r.kids=[]∧r.rest=[]:=by
 have two:∀{x y:Bool},(x&&y)=true→x=true∧y=true:=by simp
 have z:=aIq h;intro r hr;have hne:t.rest ≠ []:=fun e=>by rw[e]at hr;cases hr
 have h7:t.kind=7∨t.kind=8:=by
  rcases z.f with⟨f1,f2⟩;by_cases h1:t.kind=1∨t.kind=2
  ·exact absurd (z.a h1).2.2.2 hne
  by_cases h3:t.kind=3∨t.kind=4
  ·exact absurd (z.b h3).2.2.2 hne
  by_cases h5:t.kind=5
  ·exact absurd (z.c h5).2.2 hne
  by_cases h6:t.kind=6
  ·exact absurd (z.d h6).2.2 hne
  omega
 unfold nodeB at h;rw[if_neg (by omega),if_neg (by omega),if_neg (by omega),if_neg (by omega),if_neg (by omega),if_neg (by omega)]at h;split at h
 ·exact aHy (two h).1 r hr
 ·split at h
  ·exact aHy (two (two h).1).1 r hr
  ·cases h
theorem gS{p:LTerm→Bool}{t:LTerm}:wfT p t=true↔p t=true∧∀k∈t.kids,wfT p k=true:=by
 have hl:∀l:List LTerm,wfL p l=true↔∀k∈l,wfT p k=true:=by
  intro l;induction l with
  |nil=>simp[wfL]
  |cons a l ih=>simp[wfL,ih]
 cases t;rw[wfT,aA,hl];rfl
theorem aGc(a:Str):tP a a=0:=aJr rfl
def lex(a b:Int):Int:=if a=0 then b else a
theorem vW(a b:LTerm):mH a b=lex (tK a.kind b.kind) (lex (tK a.n b.n) (lex (tP a.text b.text) (lex (tP a.sort b.sort) (lex (ordPL a.kids b.kids) (ordPL a.rest b.rest))))):=aIk a b
theorem vY{a b:Int}:lex a b=0↔a=0∧b=0:=by rw[lex];split<;>simp[*]
theorem aWg{a b:Int}:lex (-a) (-b) = - lex a b:=by simp only[lex];split<;>split<;>omega
theorem aGf(a b:Int):tK b a = - tK a b:=by simp only[tK];split<;>split<;>(try split)<;>omega
theorem aGd(a b:Str):tP b a = - tP a b:=by
 by_cases h1:a<b
 ·rw[P9 h1,Q0 (fun h=>lO _ (mS h1 h)) (fun h=>by subst h;exact lO _ h1)];rfl
 ·by_cases h2:a=b
  ·subst h2;rw[aGc];rfl
  ·rw[Q0 h1 h2,P9 (zD h1 h2)]
theorem O0:∀(l m:List LTerm),(∀a∈l,∀b,mH a b=0↔a=b)→(ordPL l m=0↔l=m)
 | [],[],_=>by simp[ordPL]
 | [],_::_,_=>by simp[ordPL]
 |_::_,[],_=>by simp[ordPL]
 |a::l,b::m,h=>by
  have e:=vY (a:=mH a b) (b:=ordPL l m);rw[ordPL,iK,← h a (by simp) b,← O0 l m (fun x hx y=>h x (by simp[hx]) y)];exact e
theorem H7:∀(a b:LTerm),mH a b=0↔a=b:=
 fH (Q:=fun a=>∀b,mH a b=0↔a=b) fun a hk hr b=>by
  rw[vW,vY,vY,vY,vY,vY,aGe,aGe,uR,uR,O0 _ _ hk,O0 _ _ hr,LTerm.ext_iff]
theorem O1:∀(l m:List LTerm),(∀a∈l,∀b,mH b a = - mH a b)→ordPL m l = - ordPL l m
 | [],[],_=>by simp[ordPL]
 | [],_::_,_=>by simp[ordPL]
 |_::_,[],_=>by simp[ordPL]
 |a::l,b::m,h=>by
  have e:=aWg (a:=mH a b) (b:=ordPL l m);rw[ordPL,ordPL,h a (by simp) b,O1 l m (fun x hx y=>h x (by simp[hx]) y)];exact e
theorem H8:∀(a b:LTerm),mH b a = - mH a b:=
 fH (Q:=fun a=>∀b,mH b a = - mH a b) fun a hk hr b=>by
  rw[vW,vW,aGf a.kind,aGf a.n,aGd a.text,aGd a.sort,O1 _ _ hk,O1 _ _ hr];simp only[aWg]
def Tri(x y z:Int):Prop:=(x<0→y≤0→z<0)∧(x≤0→y<0→z<0)∧(x=0→y=0→z=0)
theorem A4{x y z x' y' z':Int}(h:Tri x y z)(h':Tri x' y' z'):Tri (lex x x') (lex y y') (lex z z'):=by
 obtain⟨a,b,c⟩:=h;obtain⟨a',b',c'⟩:=h';simp only[lex,Tri];refine⟨fun h1 h2=>?_,fun h1 h2=>?_,fun h1 h2=>?_⟩<;>split at h1<;>split at h2<;>split<;>omega
theorem bTs(a b c:Int):Tri (tK a b) (tK b c) (tK a c):=by
 simp only[Tri,tK];refine⟨fun h1 h2=>?_,fun h1 h2=>?_,fun h1 h2=>?_⟩<;>split at h1<;>split at h2<;>(try split at h1)<;>(try split at h2)<;>(try split)<;>(try split)<;>omega
theorem I2{a b:Str}:tP a b<0↔a<b:=by
 by_cases h1:a<b
 ·rw[P9 h1];simp[h1]
 ·by_cases h2:a=b
  ·subst h2;rw[aGc];simp[h1]
  ·rw[Q0 h1 h2];simp[h1]
theorem bTr(a b c:Str):Tri (tP a b) (tP b c) (tP a c):=by
 have le:∀{x y:Str},tP x y≤0→x<y∨x=y:=fun{x y} h=>by
  rcases Int.lt_or_eq_of_le h with h|h
  ·exact .inl (I2.1 h)
  ·exact .inr (uR.1 h)
 refine⟨fun h1 h2=>?_,fun h1 h2=>?_,fun h1 h2=>?_⟩
 ·rw[I2]at h1 ⊢;rcases le h2 with h|h
  ·exact mS h1 h
  ·exact h▸h1
 ·rw[I2]at h2 ⊢;rcases le h1 with h|h
  ·exact mS h h2
  ·exact h▸h2
 ·rw[uR]at *;rw[h1,h2]
theorem aAq:∀(l m r:List LTerm),(∀a∈l,∀b c,Tri (mH a b) (mH b c) (mH a c))→Tri (ordPL l m) (ordPL m r) (ordPL l r)
 | [],[],[],_=>by simp[ordPL,Tri]
 | [],[],_::_,_=>by simp[ordPL,Tri]
 | [],_::_,[],_=>by simp[ordPL,Tri]
 | [],_::_,_::_,_=>by simp[ordPL,Tri]
 |_::_,[],[],_=>by simp[ordPL,Tri]
 |_::_,[],_::_,_=>by simp[ordPL,Tri]
 |a::l,b::m,[],_=>by rw[ordPL,ordPL,ordPL];refine⟨fun _ h=>?_,fun _ h=>?_,fun _ h=>?_⟩<;>revert h<;>decide
 |a::l,b::m,c::r,h=>by
  have e:=A4 (h a (by simp) b c) (aAq l m r (fun x hx=>h x (by simp[hx])));rw[ordPL,ordPL,ordPL];exact e
theorem bOc:∀(a b c:LTerm),Tri (mH a b) (mH b c) (mH a c):=
 fH (Q:=fun a=>∀b c,Tri (mH a b) (mH b c) (mH a c)) fun a hk hr b c=>by
  rw[vW,vW,vW];exact A4 (bTs _ _ _) (A4 (bTs _ _ _) (A4 (bTr _ _ _) (A4 (bTr _ _ _) (A4 (aAq _ _ _ hk) (aAq _ _ _ hr)))))
theorem aEi{a b c:LTerm}(h1:mH a b<0)(h2:mH b c<0):mH a c<0:=(bOc a b c).1 h1 (by omega)
theorem vV(a:LTerm):mH a a=0:=(H7 a a).2 rfl
def gI(s:dX)(t:LTerm):Bool:=iA nodeB t&&plainP s t
theorem aYw(s:dX)(t:LTerm)(hs:Small s)(ht:OkT t): CT 47 [cM s,elT t] (.b (gI s t)):=by
 refine bQ cZ Tryz.func47 g0 ?_
 ·skip;(refine zt2 (aNr t ht) (bYu s hs t ht) ?_;repeat' first|exact trivial|refine zJ ?_ ?_|refine zH fun hc=>?_);all_goals refine bV ?_ rfl
  all_goals simp only[gI, *,aI,aO]
theorem bFz{s:dX}{x:Str}(h:x∈kL):jE s x=true:=by simp[jE,keysOf,h]
theorem oF{t:LTerm}(h:iA nodeB t=true):wfT nodeB t=true:=by
 simp only[iA,aA]at h;exact h.1.1
theorem bJc{H g:List AObj}{out:AV}{l:List LTerm}(h:jI 6 0 g out (l.flatMap aP) l.length)(hH:H=g):Rd6 H out l:=by
 subst hH;rcases h with⟨rfl,hn,h0⟩|⟨i,rfl,hi,hl⟩
 ·exact .inl ⟨rfl,eB.1 (by omega)⟩
 ·refine .inr (.inr ⟨i+0,0,_,_,_,rfl,(by simpa using hi),by omega,?_⟩);rw[bG,bE (by omega)]
theorem bJz{H:List AObj}{v:AV}{l:List LTerm}(r:Rd6 H v l):Fin H v (.sl (l.flatMap aP) l.length):=by
 have e:=bNb r;have e1:oM H v (.sl (l.flatMap aP) l.length):=e.1;have e2:dJ v (.sl (l.flatMap aP) l.length)=[]:=e.2;exact .inr ⟨e1,by rw[e2];exact fI,by rw[e2];simp⟩
theorem aPf{l:List LTerm}{k:Nat}(h:k<l.length):(l.take (k+1)).flatMap aP=(l.take k).flatMap aP++aP (l.getD k default):=by
 rw[fO (d:=default) h,List.flatMap_append];simp
theorem tE{α:Type}{l:List α}:(List.replicate 1 l).flatten=l:=by simp
theorem aNq(l:List LTerm)(hl:l.length≤1466015503701)(ih:∀t∈l,CT 60 [elT t] (elT t)): CT 122 [avt l] (avt l):=by
 refine eG cZ Tryz.func122 g0 ?_
 ·simp -implicitDefEqProofs (disch:=omega) only[Tryz.f122,go_sem,List.replicate,↓reduceIte,reduceAdd,reduceSub,reduceMul,reduceLeDiff,reduceLT,reduceEqDiff,reduceNeg,Nat.reduceBEq,avt];refine dF (fun(s:Nat×AV×List AObj)=>(.k::.k::.k::.v (s.2.1)::.k::.j::.k::.k::.v (.i .i64 (s.1:Nat))::(rp 9 .j [.k]))) (fun s=>s.2.2) (fun s=>s.1≤l.length∧jI 6 0 s.2.2 s.2.1 ((l.take s.1).flatMap aP) s.1) (fun s=>l.length-s.1) ((0,.e0,[])) ⟨bJ _,kX⟩ rfl (by simp[hZ]) ?_;rintro⟨k,out,g⟩ j ⟨hk,ho⟩;dsimp only at hk ho;have o:k<l.length→CT 60 [elT (l.getD k default)] (elT (l.getD k default)):=fun h=>ih _ (cT h);refine zg ?_;(repeat'(first|refine gT ?_ ?_|refine gF ?_ ?_|refine gC ?_ ?_|((refine dA ((o (by omega))) ?_ ?_;(focus(simp -implicitDefEqProofs (disch:=omega) only[tE,zdB,go_sem,↓reduceIte,reduceAdd,reduceSub,reduceMul,reduceLeDiff,reduceLT,reduceEqDiff,reduceNeg,Nat.reduceBEq];done)));simp -implicitDefEqProofs (disch:=omega) only[tE,go_sem,↓reduceIte,reduceAdd,reduceSub,reduceMul,reduceLeDiff,reduceLT,reduceEqDiff,reduceNeg,Nat.reduceBEq])|refine bX (by omega) ?_|(intro hr;have hc:=hr;(try simp only[zdz]at hc);simp -implicitDefEqProofs (disch:=omega) only[hr,tE,go_sem,↓reduceIte,reduceAdd,reduceSub,reduceMul,reduceLeDiff,reduceLT,reduceEqDiff,reduceNeg,Nat.reduceBEq];(try clear hr))))
  ·refine gM (pre:=[]) (g:=g++[.box false (tmC (l.getD k default))]) (more:=[.arr false 6 ((tmC (l.getD k default)))]) (news:=(tmC (l.getD k default))) (m:=1) ((ho).more _) rfl (by simp -implicitDefEqProofs (disch:=omega) only[go_sem,↓reduceIte,reduceAdd,reduceSub,reduceMul,reduceLeDiff,reduceLT,reduceEqDiff,reduceNeg,Nat.reduceBEq]) bWm bSq bUa cAg rfl (by decide) (by simp -implicitDefEqProofs (disch:=omega) only[go_sem,↓reduceIte,reduceAdd,reduceSub,reduceMul,reduceLeDiff,reduceLT,reduceEqDiff,reduceNeg,Nat.reduceBEq]) (by simp -implicitDefEqProofs (disch:=omega) only[go_sem,↓reduceIte,reduceAdd,reduceSub,reduceMul,reduceLeDiff,reduceLT,reduceEqDiff,reduceNeg,Nat.reduceBEq]) ⟨by omega,by omega⟩ ?_;intro out' g' ho' _;refine zg ?_;refine⟨(k+1,out',g'),⟨by dsimp only;omega,?_⟩,by dsimp only;omega,rfl,by simp⟩;dsimp only;rw[aPf (by omega),aW];exact ho'
  ·have h1:k=l.length:=by omega
   subst h1;rw[gD]at ho;exact bJz (bJc ho rfl)
theorem bGu(t:LTerm)(ihk:CT 122 [avt t.kids] (avt t.kids))(ihr:CT 122 [avt t.rest] (avt t.rest)): CT 60 [elT t] (elT t):=by
 refine bQ cZ Tryz.func60 g0 ?_
 ·skip;(refine zt2 ihk ihr ?_;repeat' first|exact trivial|refine zJ ?_ ?_|refine zH fun hc=>?_);all_goals exact bV rfl (by simp only[pers,persL,iL,eZ])
theorem aYv:∀(t:LTerm),OkT t→CT 60 [elT t] (elT t):=
 fH fun t hk hr ht=>bGu t (aNq t.kids ht.kids fun x hx=>hk x hx (ht.kid x hx)) (aNq t.rest ht.rest fun x hx=>hr x hx (ht.rst x hx))
end Go.Proofs.YtdjcggcjlphdoaaGreatDoor
