/-
  How terms are measured: plain laws; no condition beyond those that each theorem names.
-/
import Derived.Test.YtdjcggcjlphdoaaGreatDoorTeP71
import Derived.Test.YtdjcggcjlphdoaaGreatDoorSoP73
import Derived.Test.YtdjcggcjlphdoaaGreatDoorSoP71
import Derived.Test.YtdjcggcjlphdoaaGreatDoorVoP76
set_option maxRecDepth 100000
set_option linter.unusedSimpArgs false
set_option linter.unusedVariables false
set_option maxHeartbeats 4000000
namespace Go.Proofs.YtdjcggcjlphdoaaGreatDoor
open Go Go.Vo
open Nat (reduceAdd reduceSub reduceMul reduceLeDiff reduceLT reduceEqDiff)
open Int (reduceNeg)
def mG:Str:=[73,110,116]
def mP:Str:=[66,111,111,108]
def C8:Str:=[84,101,120,116]
def idS:Str:=[73,100]
def bOn(s:Str):List Str:=if s=[97,100,100]then [mG,mG]else if s=[115,117,98]then [mG,mG]else if s=[109,117,108]then [mG,mG]else if s=[100,105,118]then [mG,mG]else if s=[109,111,100]then [mG,mG]else if s=[108,116]then [mG,mG]else if s=[108,101]then [mG,mG]else if s=[103,116]then [mG,mG]else if s=[103,101]then [mG,mG]else if s=[110,101,103]then [mG]else if s=[116,101,120,116]then [mG]else if s=[101,113]then [anyS,anyS]else if s=[110,101]then [anyS,anyS]else if s=[97,110,100]then [mP,mP]else if s=[111,114]then [mP,mP]else if s=[110,111,116]then [mP]else if s=[112,105,99,107]then [mP,anyS,anyS]else if s=[99,97,116]then [C8,C8]else if s=[108,101,110,103,116,104]then [rY]else if s=[106,111,105,110]then [rY,rY]else if s=[103,101,116]then [E7,anyS]else if s=[104,97,115]then [E7,anyS]else if s=[100,101,108]then [E7,anyS]else if s=[112,117,116]then [E7,anyS,anyS]else if s=[107,101,121,115]then [E7]else if s=[115,105,122,101]then [E7]else if s=[105,115]then [anyS,C8]else [anyS]
def aGl(s:Str):Str:=if s=[97,100,100]then mG else if s=[115,117,98]then mG else if s=[109,117,108]then mG else if s=[100,105,118]then mG else if s=[109,111,100]then mG else if s=[110,101,103]then mG else if s=[108,101,110,103,116,104]then mG else if s=[115,105,122,101]then mG else if s=[99,97,116]then C8 else if s=[116,101,120,116]then C8 else if s=[106,111,105,110]then rY else if s=[107,101,121,115]then rY else if s=[112,117,116]then E7 else if s=[100,101,108]then E7 else if s=[112,105,99,107]then anyS else if s=[103,101,116]then anyS else mP
def bId(s:Str):List Str×Str:=if s=[97,100,100]then([mG,mG],mG)else if s=[115,117,98]then([mG,mG],mG)else if s=[109,117,108]then([mG,mG],mG)else if s=[100,105,118]then([mG,mG],mG)else if s=[109,111,100]then([mG,mG],mG)else if s=[110,101,103]then([mG],mG)else if s=[108,116]then([mG,mG],mP)else if s=[108,101]then([mG,mG],mP)else if s=[103,116]then([mG,mG],mP)else if s=[103,101]then([mG,mG],mP)else if s=[101,113]then([anyS,anyS],mP)else if s=[110,101]then([anyS,anyS],mP)else if s=[97,110,100]then([mP,mP],mP)else if s=[111,114]then([mP,mP],mP)else if s=[110,111,116]then([mP],mP)else if s=[112,105,99,107]then([mP,anyS,anyS],anyS)else if s=[99,97,116]then([C8,C8],C8)else if s=[108,101,110,103,116,104]then([rY],mG)else if s=[116,101,120,116]then([mG],C8)else if s=[106,111,105,110]then([rY,rY],rY)else if s=[103,101,116]then([E7,anyS],anyS)else if s=[112,117,116]then([E7,anyS,anyS],E7)else if s=[104,97,115]then([E7,anyS],mP)else if s=[100,101,108]then([E7,anyS],E7)else if s=[107,101,121,115]then([E7],rY)else if s=[115,105,122,101]then([E7],mG)else if s=[105,115]then([anyS,C8],mP)else([anyS],mP)
def strs:List AV→List Str
 | .s x::l=>x::strs l
 |_=>[]
theorem aRc{H:List AObj}{i:Nat}{fz t:Bool}{l:List Str}(h1:H[i]? = some (.arr fz 1 (l.map .s))):avs l=iA dep H (.hs i 0 l.length t):=by
 simp only[gN,pers,rV,h1,aI,if_false,eF,aYn,eD,bV,if_true,bK];rw[bB (by simp)];simp only[lU,if_true,avs]
theorem aLb{H:List AObj}{i n:Nat}{cells:List AV}{fz t:Bool}{l:List Str}(h1:H[i]? = some (.arr fz 1 cells))(hl:l=strs cells)(hc:(strs cells).map .s=cells)(hn:n=(strs cells).length):Fin H (.hs i 0 n t) (avs l):=by
 rw[← hl]at hc hn;rw[← hc]at h1;subst hn;exact .inr ⟨aRc h1,by simp[dN,avs],by simp[dN,avs]⟩
theorem bUo(s:Str): CT 256 [.s s] (avs (bOn s)):=by
 refine cI dE Tryz.func256 g0 ?_
 ·skip;(refine zs0 ?_;repeat' first|exact trivial|refine zJ ?_ ?_|refine zH fun hc=>?_);all_goals first
   |(subst hc;exact aLb rfl (by decide +kernel) rfl rfl)
   |(simp only[bOn, *,if_false];exact aLb rfl rfl rfl rfl)
theorem bUn(s:Str): CT 257 [.s s] (.s (aGl s)):=by
 refine cI dE Tryz.func257 g0 ?_
 ·skip;(refine zs0 ?_;repeat' first|exact trivial|refine zJ ?_ ?_|refine zH fun hc=>?_);all_goals first
   |(subst hc;exact bR (congrArg AV.s (by decide +kernel)) rfl)
   |(simp only[aGl, *,if_false];exact bR rfl rfl)
def zO(x:Str):Option LOp:=if pJ.contains x then some ⟨x,bOn x,aGl x,[],0,0,[]⟩else none
theorem uO{H:List AObj}{o o':LOp}{a b a' b':Bool}(h:(o',a',b')=(o,a,b)):Fin H (.tup [.agg [.s o.name,.sl (o.args.map .s) o.args.length,.s o.sort,.sl (o.pieces.flatMap fX) o.pieces.length,.i .i64 o.prec,.i .i64 o.assoc,.sl (o.strict.map (.i .i64)) o.strict.length],.b a,.b b]) (.tup [.agg [.s o'.name,.sl (o'.args.map .s) o'.args.length,.s o'.sort,.sl (o'.pieces.flatMap fX) o'.pieces.length,.i .i64 o'.prec,.i .i64 o'.assoc,.sl (o'.strict.map (.i .i64)) o'.strict.length],.b a',.b b']):=by
 injection h with h1 h2;injection h2 with h2 h3;subst h1 h2 h3;exact bR rfl (by simp only[pers,persL,lU,lN,sR,cX])
theorem aVc{H:List AObj}{x r:Str}{l:List Str}:Fin H (.tup [.agg [.s x,.sl (l.map .s) l.length,.s r,.e0,.i .i64 0,.i .i64 0,.e0],.b true]) (.tup [elO ⟨x,l,r,[],0,0,[]⟩,.b true]):=
 .inr ⟨⟨⟨rfl,by show _=iA dep H _;simp only[gN,pers,lU,if_true];rfl,rfl,rfl,rfl,rfl,rfl,trivial⟩,rfl,trivial⟩,by simp[elO,fR,dN,finIdsL,avs,avb,avi],by simp[elO,fR,dN,finIdsL,avs,avb,avi]⟩
theorem bUr(x:Str): CT 219 [.s x] (rX (zO x)):=by
 refine cI dE Tryz.func219 g0 ?_
 ·skip;(refine zt3 (bNs x) (bUo x) (bUn x) ?_;repeat' first|exact trivial|refine zJ ?_ ?_|refine zH fun hc=>?_)
  ·rw[zO,if_neg (by rw[hc];simp)];exact aUz
  ·rw[zO,if_pos hc];exact aVc
def kN(s:dK)(x:Str):LOp×Bool×Bool:=match aPm s x with
 |some o=>(o,false,true)
 |none=>match aDz s x with
  |some o=>(o,true,true)
  |none=>match zO x with
   |some o=>(o,true,true)
   |none=>(default,true,false)
theorem aWc(s:dK)(x:Str): CT 160 [bQ s,.s x] (.tup [elO (kN s x).1,.b (kN s x).2.1,.b (kN s x).2.2]):=by
 refine cI dE Tryz.func160 g0 ?_
 ·skip;have c1:=bTc s x;have c2:=cAn s x;have c3:=bUr x;cases h1:aPm s x with
  |some o=>
   rw[h1]at c1;(repeat'(first|refine gT ?_ ?_|refine gF ?_ ?_|refine gC ?_ ?_|((refine bJ (c1) ?_ ?_;(focus(simp -implicitDefEqProofs (disch:=omega) only[rX,zdB,go_sem,simprocAttr];done)));simp -implicitDefEqProofs (disch:=omega) only[rX,go_sem,simprocAttr])|refine bE (by omega) ?_|(intro hr;have hc:=hr;(try simp only[zdz]at hc);simp -implicitDefEqProofs (disch:=omega) only[hr,rX,go_sem,simprocAttr];(try clear hr))));exact uO (by simp only[kN,h1])
  |none=>
  rw[h1]at c1;cases h2:aDz s x with
  |some o=>
   rw[h2]at c2;(repeat'(first|refine gT ?_ ?_|refine gF ?_ ?_|refine gC ?_ ?_|((first|(refine bJ (c1) ?_ ?_;(focus(simp -implicitDefEqProofs (disch:=omega) only[rX,zdB,go_sem,simprocAttr];done)))|(refine bJ (c2) ?_ ?_;(focus(simp -implicitDefEqProofs (disch:=omega) only[rX,zdB,go_sem,simprocAttr];done))));simp -implicitDefEqProofs (disch:=omega) only[rX,go_sem,simprocAttr])|refine bE (by omega) ?_|(intro hr;have hc:=hr;(try simp only[zdz]at hc);simp -implicitDefEqProofs (disch:=omega) only[hr,rX,go_sem,simprocAttr];(try clear hr))));exact uO (by simp only[kN,h1,h2])
  |none=>
  rw[h2]at c2;cases h3:zO x with
  |some o=>
   rw[h3]at c3;(repeat'(first|refine gT ?_ ?_|refine gF ?_ ?_|refine gC ?_ ?_|((first|(refine bJ (c1) ?_ ?_;(focus(simp -implicitDefEqProofs (disch:=omega) only[rX,zdB,go_sem,simprocAttr];done)))|(refine bJ (c2) ?_ ?_;(focus(simp -implicitDefEqProofs (disch:=omega) only[rX,zdB,go_sem,simprocAttr];done)))|(refine bJ (c3) ?_ ?_;(focus(simp -implicitDefEqProofs (disch:=omega) only[rX,zdB,go_sem,simprocAttr];done))));simp -implicitDefEqProofs (disch:=omega) only[rX,go_sem,simprocAttr])|refine bE (by omega) ?_|(intro hr;have hc:=hr;(try simp only[zdz]at hc);simp -implicitDefEqProofs (disch:=omega) only[hr,rX,go_sem,simprocAttr];(try clear hr))));exact uO (by simp only[kN,h1,h2,h3])
  |none=>
   rw[h3]at c3;(repeat'(first|refine gT ?_ ?_|refine gF ?_ ?_|refine gC ?_ ?_|((first|(refine bJ (c1) ?_ ?_;(focus(simp -implicitDefEqProofs (disch:=omega) only[rX,zdB,go_sem,simprocAttr];done)))|(refine bJ (c2) ?_ ?_;(focus(simp -implicitDefEqProofs (disch:=omega) only[rX,zdB,go_sem,simprocAttr];done)))|(refine bJ (c3) ?_ ?_;(focus(simp -implicitDefEqProofs (disch:=omega) only[rX,zdB,go_sem,simprocAttr];done))));simp -implicitDefEqProofs (disch:=omega) only[rX,go_sem,simprocAttr])|refine bE (by omega) ?_|(intro hr;have hc:=hr;(try simp only[zdz]at hc);simp -implicitDefEqProofs (disch:=omega) only[hr,rX,go_sem,simprocAttr];(try clear hr))));exact uO (by simp only[kN,h1,h2,h3])
def kI(s:dK)(t:LTerm):Str:=if t.kind=1 then mG else if t.kind=2 then mP else if t.kind=3 then C8 else if t.kind=4 then idS else if t.kind=7 then rY else if t.kind=8 then E7 else if t.kind=5 then(kN s t.text).1.sort else if existsA s t.sort then t.sort else []
theorem aEn(s:dK)(t:LTerm): CT 119 [bQ s,elT t] (.s (kI s t)):=by
 refine cI dE Tryz.func119 g0 ?_
 ·skip;(refine zt2 (aWc s t.text) (aEm s t.sort) ?_;repeat' first|exact trivial|refine zJ ?_ ?_|refine zH fun hc=>?_);all_goals refine bR (congrArg AV.s ?_) rfl
  all_goals simp only[kI, *,if_true,if_false,aI,Int.reduceEq]
  all_goals rfl
def aMf(s:dK)(x:Str):List Str×Str×Bool:=match aPm s x with
 |some o=>(o.args,o.sort,true)
 |none=>match aDz s x with
  |some o=>(o.args,o.sort,true)
  |none=>if pJ.contains x then((bId x).1,(bId x).2,true)else([],[],false)
def ofR(s:dK)(t:LTerm):Str×Bool:=if t.kind=1 then(mG,true)else if t.kind=2 then(mP,true)else if t.kind=3 then(C8,true)else if t.kind=4 then(idS,true)else if t.kind=7 then(rY,true)else if t.kind=8 then(E7,true)else if t.kind=6 then(t.sort,bMz s t.sort)else((aMf s t.text).2.1,(aMf s t.text).2.2)
theorem lY(b:Bool):b=true∨b=false:=by cases b<;>simp
theorem aLo(l m:List LTerm)(hl:l.length≤1466015503701)(hm:m.length≤1466015503701)(ih:∀a∈l,∀b∈m,CT 24 [elT a,elT b] (.b (decide (a=b)))): CT 64 [avt l,avt m] (.b (decide (l=m))):=by
 refine dO dE Tryz.func64 g0 ?_
 ·simp -implicitDefEqProofs (disch:=omega) only[Tryz.f64,go_sem,List.replicate,simprocAttr,avt];(refine zs0 ?_;repeat' first|exact trivial|refine zJ ?_ ?_|refine zH fun hc=>?_)
  ·refine bR ?_ (by rfl);have:l≠m:=fun h=>by rw[h]at hc;exact hc rfl
   rw[zf this]
  refine dV (fun(k:Nat)=>(.k::.k::.k::.k::.j::.j::(rp 7 .k (.v (.i .i64 k)::(rp 13 .j []))))) (fun k=>[]) (fun k=>k≤l.length∧∀j,j<k→l.getD j default=m.getD j default) (fun k=>l.length-k) (0) ⟨bX _,fun j h=>by omega⟩ rfl (by simp[iS]) ?_;rintro k j ⟨hk,ha⟩;have o:k<l.length→k<m.length→CT 24 [elT (l.getD k default),elT (m.getD k default)] (.b (decide (l.getD k default=m.getD k default))):=fun h h'=>ih _ (cS h) _ (cS h');refine zg ?_;(refine zt1 o ?_;repeat' first|exact trivial|refine zJ ?_ ?_|refine zH fun hc=>?_)
  ·refine bR ?_ (by rfl);have:l≠m:=fun h=>by simp[h]at *
   rw[zf this]
  ·exact⟨k+1,⟨by omega,fF ha (by simpa using hc)⟩,by omega,by simp⟩
  ·refine bR ?_ (by rfl);have:l=m:=aVh (d:=default) (by omega) (fun j hj=>ha j (by omega));rw[zt this]
theorem aLj(l m:List LTerm)(hl:l.length≤1466015503701)(hm:m.length≤1466015503701)(ih:∀a∈l,∀b∈m,CT 69 [elT a,elT b] (.b (decide (a=b)))): CT 129 [avt l,avt m,.fn 69 [] []] (.b (decide (l=m))):=by
 refine dO dE Tryz.func129 g0 ?_
 ·simp -implicitDefEqProofs (disch:=omega) only[Tryz.f129,go_sem,List.replicate,simprocAttr,avt];(refine zs0 ?_;repeat' first|exact trivial|refine zJ ?_ ?_|refine zH fun hc=>?_)
  ·refine bR ?_ (by rfl);have:l≠m:=fun h=>by rw[h]at hc;exact hc rfl
   rw[zf this]
  refine lJ (fun(k:Nat)=>(rp 6 .k (.j::.j::.j::.j::(rp 7 .k (.v (.i .i64 k)::(rp 14 .j [])))))) (fun k=>[]) (fun k=>k≤l.length∧∀j,j<k→l.getD j default=m.getD j default) (fun k=>l.length-k) (0) _ ⟨bX _,fun j h=>by omega⟩ rfl (by simp[iS]) ?_;rintro k g j ⟨hk,ha⟩;have o:k<l.length→k<m.length→CT 69 [elT (l.getD k default),elT (m.getD k default)] (.b (decide (l.getD k default=m.getD k default))):=fun h h'=>ih _ (cS h) _ (cS h');refine zg ?_;(refine zt1 o ?_;repeat' first|exact trivial|refine zJ ?_ ?_|refine zH fun hc=>?_)
  ·refine bR ?_ (by rfl);have:l≠m:=fun h=>by simp[h]at *
   rw[zf this]
  ·exact⟨k+1,_,⟨by omega,fF ha (by simpa using hc)⟩,by omega,rfl,by simp⟩
  ·refine bR ?_ (by rfl);have:l=m:=aVh (d:=default) (by omega) (fun j hj=>ha j (by omega));rw[zt this]
def aZz(a b:LTerm):Bool:=decide (a.kind=b.kind)&&decide (a.n=b.n)&&decide (a.text=b.text)&&decide (a.sort=b.sort)&&decide (a.kids=b.kids)&&decide (a.rest=b.rest)
theorem aJn(a b:LTerm):aZz a b=decide (a=b):=by
 rw[gA];simp only[aZz,aD,decide_eq_true_eq,LTerm.ext_iff,and_assoc]
theorem bDu(a b:LTerm)(ha:OkT a)(hb:OkT b)(ihk:∀x∈a.kids,∀y∈b.kids,CT 24 [elT x,elT y] (.b (decide (x=y))))(ihr:∀x∈a.rest,∀y∈b.rest,CT 24 [elT x,elT y] (.b (decide (x=y)))): CT 24 [elT a,elT b] (.b (decide (a=b))):=by
 refine cI dE Tryz.func24 g0 ?_
 ·skip;have h1:=ha.kids;have h2:=ha.rest;have h3:=hb.kids;have h4:=hb.rest;rw[← aJn];(refine zt2 (aLo a.kids b.kids h1 h3 ihk) (aLo a.rest b.rest h2 h4 ihr) ?_;repeat' first|exact trivial|refine zJ ?_ ?_|refine zH fun hc=>?_);all_goals refine bR ?_ rfl
  all_goals simp only[aZz, *,decide_true,decide_false,aR,aT,bA,aS]
theorem bUs(a:LTerm):∀(b:LTerm),OkT a→OkT b→CT 24 [elT a,elT b] (.b (decide (a=b))):=
 fW (Q:=fun a=>∀(b:LTerm),OkT a→OkT b→CT 24 [elT a,elT b] (.b (decide (a=b)))) (fun a hk hr b ha hb=>bDu a b ha hb (fun x hx y hy=>hk x hx y (ha.kid x hx) (hb.kid y hy)) (fun x hx y hy=>hr x hx y (ha.rst x hx) (hb.rst y hy))) a
theorem bDq(a b:LTerm)(ha:OkT a)(hb:OkT b)(ihk:∀x∈a.kids,∀y∈b.kids,CT 69 [elT x,elT y] (.b (decide (x=y))))(ihr:∀x∈a.rest,∀y∈b.rest,CT 69 [elT x,elT y] (.b (decide (x=y)))): CT 69 [elT a,elT b] (.b (decide (a=b))):=by
 refine cI dE Tryz.func69 g0 ?_
 ·skip;have h1:=ha.kids;have h2:=ha.rest;have h3:=hb.kids;have h4:=hb.rest;rw[← aJn];(refine zt2 (aLj a.kids b.kids h1 h3 ihk) (aLj a.rest b.rest h2 h4 ihr) ?_;repeat' first|exact trivial|refine zJ ?_ ?_|refine zH fun hc=>?_);all_goals refine bR ?_ rfl
  all_goals simp only[aZz, *,decide_true,decide_false,aR,aT,bA,aS]
theorem M8(a:LTerm):∀(b:LTerm),OkT a→OkT b→CT 69 [elT a,elT b] (.b (decide (a=b))):=
 fW (Q:=fun a=>∀(b:LTerm),OkT a→OkT b→CT 69 [elT a,elT b] (.b (decide (a=b)))) (fun a hk hr b ha hb=>bDq a b ha hb (fun x hx y hy=>hk x hx y (ha.kid x hx) (hb.kid y hy)) (fun x hx y hy=>hr x hx y (ha.rst x hx) (hb.rst y hy))) a
mutual
def oL:LTerm→LTerm→Int
 | .mk k n t s ks rs,.mk k' n' t' s' ks' rs'=>
   if sC k k'=0 then(if sC n n'=0 then(if sE t t'=0 then(if sE s s'=0 then(if ordPL ks ks'=0 then ordPL rs rs' else ordPL ks ks')else sE s s')else sE t t')else sC n n')else sC k k'
def ordPL:List LTerm→List LTerm→Int
 | [],[]=>0
 | [],_::_ => -1
 |_::_,[]=>1
 |a::l,b::m=>if oL a b=0 then ordPL l m else oL a b
end
theorem aHa(a b:LTerm):oL a b=if sC a.kind b.kind=0 then(if sC a.n b.n=0 then(if sE a.text b.text=0 then(if sE a.sort b.sort=0 then(if ordPL a.kids b.kids=0 then ordPL a.rest b.rest else ordPL a.kids b.kids)else sE a.sort b.sort)else sE a.text b.text)else sC a.n b.n)else sC a.kind b.kind:=by
 cases a;cases b;rw[oL];rfl
theorem aWk{a b:Int}(h:a<b):sC a b = -1:=if_pos h
theorem aWl{a b:Int}(h:b<a):sC a b=1:=by rw[sC,if_neg (by omega),if_pos h]
theorem aWm{a b:Int}(h:a=b):sC a b=0:=by rw[sC,if_neg (by omega),if_neg (by omega)]
theorem aKc{l m:List LTerm}{k:Nat}(h:k<l.length)(h':k<m.length):ordPL (l.drop k) (m.drop k)=if oL (l.getD k default) (m.getD k default)=0 then ordPL (l.drop (k+1)) (m.drop (k+1))else oL (l.getD k default) (m.getD k default):=by
 rw[eV h,eV h',ordPL];simp[List.getD,h,h']
theorem J9{l m:List LTerm}{k:Nat}(h:k=l.length∨k=m.length)(h1:k≤l.length)(h2:k≤m.length):ordPL (l.drop k) (m.drop k)=sC l.length m.length:=by
 by_cases h3:k<l.length
 ·rw[eV h3,dQ (l:=m) (by omega),ordPL,aWl (by omega)]
 ·by_cases h4:k<m.length
  ·rw[eV h4,dQ (l:=l) (by omega),ordPL,aWk (by omega)]
  ·rw[dQ (l:=l) (by omega),dQ (l:=m) (by omega),ordPL,aWm (by omega)]
theorem aLk(l m:List LTerm)(hl:l.length≤1466015503701)(hm:m.length≤1466015503701)(ih:∀a∈l,∀b∈m,CT 166 [elT a,elT b] (.i .i64 (oL a b))): CT 224 [avt l,avt m,.fn 166 [] []] (.i .i64 (ordPL l m)):=by
 refine dO dE Tryz.func224 g0 ?_
 ·simp -implicitDefEqProofs (disch:=omega) only[Tryz.f224,go_sem,List.replicate,simprocAttr,avt];refine lJ (fun(k:Nat)=>(rp 6 .k (rp 5 .j (.k::.k::.v (.i .i64 k)::(rp 20 .j (rp 5 .k [])))))) (fun k=>[]) (fun k=>k≤l.length∧k≤m.length∧ordPL l m=ordPL (l.drop k) (m.drop k)) (fun k=>l.length-k) (0) _ ⟨bX _,bX _,rfl⟩ rfl (by simp[iS]) ?_;rintro k g j ⟨hk,hk2,he⟩;have o:k<l.length→k<m.length→CT 166 [elT (l.getD k default),elT (m.getD k default)] (.i .i64 (oL (l.getD k default) (m.getD k default))):=fun h h'=>ih _ (cS h) _ (cS h');refine zg ?_;(refine zt1 o ?_;repeat' first|exact trivial|refine zJ ?_ ?_|refine zH fun hc=>?_)
  ·exact bR (congrArg _ (by rw[he,J9 (.inr (by omega)) hk hk2,aWl (by omega)])) rfl
  ·exact bR (congrArg _ (by rw[he,aKc (by omega) (by omega),if_neg hc])) rfl
  ·exact⟨k+1,_,⟨by omega,by omega,by rw[he,aKc (by omega) (by omega),if_pos hc]⟩,by omega,rfl,by simp⟩
  ·exact bR (congrArg _ (by rw[he,J9 (.inl (by omega)) hk hk2,aWk (by omega)])) rfl
  ·exact bR (congrArg _ (by rw[he,J9 (.inl (by omega)) hk hk2,aWm (by omega)])) rfl
theorem bFy(a b:LTerm):(if orI [sC a.kind b.kind,sC a.n b.n,sE a.text b.text,sE a.sort b.sort]=0 then orI [ordPL a.kids b.kids,ordPL a.rest b.rest]else orI [sC a.kind b.kind,sC a.n b.n,sE a.text b.text,sE a.sort b.sort])=oL a b:=by
 rw[aHa];by_cases h1:sC a.kind b.kind=0<;>by_cases h2:sC a.n b.n=0<;>by_cases h3:sE a.text b.text=0<;>by_cases h4:sE a.sort b.sort=0<;>by_cases h5:ordPL a.kids b.kids=0<;>by_cases h6:ordPL a.rest b.rest=0<;>simp only[orI,h1,h2,h3,h4,h5,h6,if_true,if_false]
theorem bDr(a b:LTerm)(ha:OkT a)(hb:OkT b)(ihk:∀x∈a.kids,∀y∈b.kids,CT 166 [elT x,elT y] (.i .i64 (oL x y)))(ihr:∀x∈a.rest,∀y∈b.rest,CT 166 [elT x,elT y] (.i .i64 (oL x y))): CT 166 [elT a,elT b] (.i .i64 (oL a b)):=by
 refine cI dE Tryz.func166 g0 ?_
 ·skip;have e:=aHa a b;(repeat'(first|refine gT ?_ ?_|refine gF ?_ ?_|refine gC ?_ ?_|((first|refine cF (bUh a.kind b.kind) ?_|refine cF (bUg a.n b.n) ?_|(refine bJ (aWa a.text b.text) ?_ ?_;(focus(simp -implicitDefEqProofs (disch:=omega) only[aQ,aZ,bF,bZ,Nat.reduceAdd,zdB,go_sem,simprocAttr];done)))|(refine bJ (aWa a.sort b.sort) ?_ ?_;(focus(simp -implicitDefEqProofs (disch:=omega) only[aQ,aZ,bF,bZ,Nat.reduceAdd,zdB,go_sem,simprocAttr];done)))|(refine bJ (bHu [sC a.kind b.kind,sC a.n b.n,sE a.text b.text,sE a.sort b.sort] (by simp)) ?_ ?_;(focus(simp -implicitDefEqProofs (disch:=omega) only[aQ,aZ,bF,bZ,Nat.reduceAdd,zdB,go_sem,simprocAttr];done)))|(refine bJ (aLk a.kids b.kids ha.kids hb.kids ihk) ?_ ?_;(focus(simp -implicitDefEqProofs (disch:=omega) only[aQ,aZ,bF,bZ,Nat.reduceAdd,zdB,go_sem,simprocAttr];done)))|(refine bJ (aLk a.rest b.rest ha.rest hb.rest ihr) ?_ ?_;(focus(simp -implicitDefEqProofs (disch:=omega) only[aQ,aZ,bF,bZ,Nat.reduceAdd,zdB,go_sem,simprocAttr];done)))|(refine bJ (bHu [ordPL a.kids b.kids,ordPL a.rest b.rest] (by simp)) ?_ ?_;(focus(simp -implicitDefEqProofs (disch:=omega) only[aQ,aZ,bF,bZ,Nat.reduceAdd,zdB,go_sem,simprocAttr];done))));simp -implicitDefEqProofs (disch:=omega) only[aQ,aZ,bF,bZ,Nat.reduceAdd,go_sem,simprocAttr])|refine bE (by omega) ?_|(intro hr;have hc:=hr;(try simp only[zdz]at hc);simp -implicitDefEqProofs (disch:=omega) only[hr,aQ,aZ,bF,bZ,Nat.reduceAdd,go_sem,simprocAttr];(try clear hr))));all_goals refine bR (congrArg _ ?_) rfl
  ·rw[← bFy a b,if_neg hc]
  ·rw[← bFy a b,if_pos hc]
theorem bUm(a b:LTerm)(ha:OkT a)(hb:OkT b):CT 166 [elT a,elT b] (.i .i64 (oL a b)):=
 fW (Q:=fun a=>∀(b:LTerm),OkT a→OkT b→CT 166 [elT a,elT b] (.i .i64 (oL a b))) (fun a hk hr b ha hb=>bDr a b ha hb (fun x hx y hy=>hk x hx y (ha.kid x hx) (hb.kid y hy)) (fun x hx y hy=>hr x hx y (ha.rst x hx) (hb.rst y hy))) a b ha hb
theorem bLq:isName [95]=false:=by decide
theorem bBo:isName [36]=false:=by decide
theorem bKz{s:Str}(h:xE s=true):isName s=false:=by
 simp only[xE,cB,decide_eq_true_eq]at h;rcases h with rfl|rfl<;>decide
theorem bBh(s:Str):isName s=true→¬s=[95]∧¬s=[36]:=by
 intro h;constructor<;>(rintro rfl;revert h;decide)
theorem aWb(t:LTerm)(ht:OkT t)(h6:t.kind=6): CT 193 [elT t] (.b (nodeB t)):=by
 refine gI (rx:=true) (th:=fun i=>if i=19 then some ⟨some 1,[],false,false,false,[],[],0⟩else none) dE Tryz.func193 g0 ?_
 ·simp -implicitDefEqProofs (disch:=omega) only[Tryz.f193,go_sem,List.replicate,simprocAttr];have no1:=bBh t.text;(refine zy2 (zA2 h6 (zA2 @decide_true @decide_false)) (Q4 t.text ht.text) (Q4 t.sort ht.sort) ?_;repeat' first|exact trivial|refine zJ ?_ ?_|refine zH fun hc=>?_);all_goals try simp only[aAo,aAp,tK,tJ]at *
  all_goals refine bR ?_ rfl
  all_goals(simp_all[nodeB,xE,gQ,bLq,bBo];done)
theorem aNk{t:LTerm}{so:Str}(hs:isName so=true)(h1:t.rest.length=1)(h6:(t.rest.getD 0 default).kind=6):(nodeB (t.rest.getD 0 default)&&isName (t.rest.getD 0 default).text&&decide ((t.rest.getD 0 default).sort=so))=nK t so:=by
 have h0:t.rest.length≠0:=by omega
 generalize hr:t.rest.getD 0 default=r at *
 have h3:nK t so=(isName r.text&&decide (r.sort=so)&&gQ r false true true false false):=by
  simp only[nK,hr,h1,h6,decide_true,Nat.one_ne_zero,decide_false,dD,aR]
 rw[h3];have h4:nodeB r=(if xE r.text=true then decide (r.sort=bXj)&&gQ r false true true false false else isName r.text&&isName r.sort&&gQ r false true true false false):=by
  simp only[nodeB,h6];rfl
 rw[h4];cases ho:xE r.text with
 |true=>rw[bKz ho];simp
 |false=>
  by_cases hq:r.sort=so
  ·rw[hq,hs];cases isName r.text<;>cases gQ r false true true false false<;>simp
  ·simp[hq]
theorem bHs(t:LTerm)(so:Str)(ht:OkT t)(hso:isName so=true): CT 243 [elT t,.s so] (.b (nK t so)):=by
 refine cI dE Tryz.func243 g0 ?_
 ·skip;have h1:0<t.rest.length→OkT (t.rest.getD 0 default):=fun h=>ht.rst _ (cS h);have hA:=fun a b=>aNk (t:=t) hso a b;(repeat'(first|refine gT ?_ ?_|refine gF ?_ ?_|refine gC ?_ ?_|((first|(refine bJ (aWb (t.rest.getD 0 default) (h1 (by omega)) (by assumption)) ?_ ?_;(focus(simp -implicitDefEqProofs (disch:=omega) only[zdB,go_sem,simprocAttr];done)))|(refine bJ (Q4 (t.rest.getD 0 default).text (h1 (by omega)).text) ?_ ?_;(focus(simp -implicitDefEqProofs (disch:=omega) only[zdB,go_sem,simprocAttr];done))));simp -implicitDefEqProofs (disch:=omega) only[go_sem,simprocAttr])|refine bE (by omega) ?_|(intro hr;have hc:=hr;(try simp only[zdz]at hc);simp -implicitDefEqProofs (disch:=omega) only[hr,go_sem,simprocAttr];(try clear hr))));all_goals try simp only[aAo,aAp]at *
  all_goals refine bR ?_ rfl
  all_goals first
   |(have e:=hA (by assumption) (by assumption);clear hA;rw[← e];clear e;simp_all only[decide_true,decide_false,bG,dD,aR,aT,aS,bA];done)
   |(clear hA;simp_all only[nK,decide_true,decide_false,bG,dD,aR,aT,aS,bA,Nat.one_ne_zero];done)
theorem bLm{t:LTerm}(h:t.kind=1):nodeB t=(rZ t.n&&gQ t true false false false false):=by simp only[nodeB,h];rfl
theorem bLl{t:LTerm}(h:t.kind=2):nodeB t=((decide (t.n=0)||decide (t.n=1))&&gQ t true false false false false):=by simp only[nodeB,h];rfl
theorem bLk{t:LTerm}(h:t.kind=3):nodeB t=(L3 t.text&&gQ t false true false false false):=by simp only[nodeB,h];rfl
theorem bLj{t:LTerm}(h:t.kind=4):nodeB t=(bSd t.text&&gQ t false true false false false):=by simp only[nodeB,h];rfl
theorem bLi{t:LTerm}(h:t.kind=5):nodeB t=(aSz t.text&&decide (t.kids.length≤8)&&gQ t false true false true false):=by simp only[nodeB,h];rfl
theorem bLh{t:LTerm}(h:t.kind=7):nodeB t=(nK t rY&&gQ t false false false true true):=by simp only[nodeB,h];rfl
theorem bLg{t:LTerm}(h:t.kind=8):nodeB t=(nK t E7&&decide (t.kids.length % 2=0)&&gQ t false false false true true):=by simp only[nodeB,h];rfl
theorem bLu{α:Type}{l:List α}:l.length=0↔l=[]:=eE
theorem bDo(t:LTerm)(ht:OkT t)(hk:t.kind=1): CT 193 [elT t] (.b (nodeB t)):=by
 refine gI (rx:=true) (th:=fun i=>if i=19 then some ⟨some 1,[],false,false,false,[],[],0⟩else none) dE Tryz.func193 g0 ?_
 ·simp -implicitDefEqProofs (disch:=omega) only[Tryz.f193,go_sem,List.replicate,simprocAttr];(refine zy1 (zA2 hk (zA2 @decide_true @decide_false)) (bHt t.n) ?_;repeat' first|exact trivial|refine zJ ?_ ?_|refine zH fun hc=>?_);all_goals try simp only[aAo,aAp,tK,tJ,bLu]at *
  all_goals refine bR ?_ rfl
  all_goals rw[bLm hk]
  all_goals clear ht
  all_goals first
   |(simp_all only[gQ,rZ,decide_true,decide_false,bG,dD,aR,aT,aS,bA,bH,aK,not_true_eq_false,not_false_eq_true];done)
   |(simp_all[gQ,rZ]<;>(intros;omega))
theorem bDn(t:LTerm)(ht:OkT t)(hk:t.kind=2): CT 193 [elT t] (.b (nodeB t)):=by
 refine gI (rx:=true) (th:=fun i=>if i=19 then some ⟨some 1,[],false,false,false,[],[],0⟩else none) dE Tryz.func193 g0 ?_
 ·simp -implicitDefEqProofs (disch:=omega) only[Tryz.f193,go_sem,List.replicate,simprocAttr];(refine zy1 (zA2 hk (zA2 @decide_true @decide_false)) (bHt t.n) ?_;repeat' first|exact trivial|refine zJ ?_ ?_|refine zH fun hc=>?_);all_goals try simp only[aAo,aAp,tK,tJ,bLu]at *
  all_goals refine bR ?_ rfl
  all_goals rw[bLl hk]
  all_goals clear ht
  all_goals first
   |(simp_all only[gQ,rZ,decide_true,decide_false,bG,dD,aR,aT,aS,bA,bH,aK,not_true_eq_false,not_false_eq_true];done)
   |(simp_all[gQ,rZ]<;>(intros;omega))
theorem bDm(t:LTerm)(ht:OkT t)(hk:t.kind=3): CT 193 [elT t] (.b (nodeB t)):=by
 refine gI (rx:=true) (th:=fun i=>if i=19 then some ⟨some 1,[],false,false,false,[],[],0⟩else none) dE Tryz.func193 g0 ?_
 ·simp -implicitDefEqProofs (disch:=omega) only[Tryz.f193,go_sem,List.replicate,simprocAttr];(refine zy1 (zA2 hk (zA2 @decide_true @decide_false)) (bUl t.text ht.text) ?_;repeat' first|exact trivial|refine zJ ?_ ?_|refine zH fun hc=>?_);all_goals try simp only[aAo,aAp,tK,tJ,bLu]at *
  all_goals refine bR ?_ rfl
  all_goals rw[bLk hk]
  all_goals clear ht
  all_goals first
   |(simp_all only[gQ,rZ,decide_true,decide_false,bG,dD,aR,aT,aS,bA,bH,aK,not_true_eq_false,not_false_eq_true];done)
   |(simp_all[gQ,rZ]<;>(intros;omega))
theorem bDl(t:LTerm)(ht:OkT t)(hk:t.kind=4): CT 193 [elT t] (.b (nodeB t)):=by
 refine gI (rx:=true) (th:=fun i=>if i=19 then some ⟨some 1,[],false,false,false,[],[],0⟩else none) dE Tryz.func193 g0 ?_
 ·simp -implicitDefEqProofs (disch:=omega) only[Tryz.f193,go_sem,List.replicate,simprocAttr];(refine zy1 (zA2 hk (zA2 @decide_true @decide_false)) (bUe t.text ht.text) ?_;repeat' first|exact trivial|refine zJ ?_ ?_|refine zH fun hc=>?_);all_goals try simp only[aAo,aAp,tK,tJ,bLu]at *
  all_goals refine bR ?_ rfl
  all_goals rw[bLj hk]
  all_goals clear ht
  all_goals first
   |(simp_all only[gQ,rZ,decide_true,decide_false,bG,dD,aR,aT,aS,bA,bH,aK,not_true_eq_false,not_false_eq_true];done)
   |(simp_all[gQ,rZ]<;>(intros;omega))
theorem bDk(t:LTerm)(ht:OkT t)(hk:t.kind=5): CT 193 [elT t] (.b (nodeB t)):=by
 refine gI (rx:=true) (th:=fun i=>if i=19 then some ⟨some 1,[],false,false,false,[],[],0⟩else none) dE Tryz.func193 g0 ?_
 ·simp -implicitDefEqProofs (disch:=omega) only[Tryz.f193,go_sem,List.replicate,simprocAttr];(refine zy1 (zA2 hk (zA2 @decide_true @decide_false)) (bUd t.text ht.text) ?_;repeat' first|exact trivial|refine zJ ?_ ?_|refine zH fun hc=>?_);all_goals try simp only[aAo,aAp,tK,tJ,bLu]at *
  all_goals refine bR ?_ rfl
  all_goals rw[bLi hk]
  all_goals clear ht
  all_goals first
   |(simp_all only[gQ,rZ,decide_true,decide_false,bG,dD,aR,aT,aS,bA,bH,aK,not_true_eq_false,not_false_eq_true];done)
   |(simp_all[gQ,rZ]<;>(intros;omega))
theorem bDj(t:LTerm)(ht:OkT t)(hk:t.kind=7): CT 193 [elT t] (.b (nodeB t)):=by
 refine gI (rx:=true) (th:=fun i=>if i=19 then some ⟨some 1,[],false,false,false,[],[],0⟩else none) dE Tryz.func193 g0 ?_
 ·simp -implicitDefEqProofs (disch:=omega) only[Tryz.f193,go_sem,List.replicate,simprocAttr];(refine zy1 (zA2 hk (zA2 @decide_true @decide_false)) (bHs t rY ht (by decide)) ?_;repeat' first|exact trivial|refine zJ ?_ ?_|refine zH fun hc=>?_);all_goals try simp only[aAo,aAp,tK,tJ,bLu]at *
  all_goals refine bR ?_ rfl
  all_goals rw[bLh hk]
  all_goals clear ht
  all_goals first
   |(simp_all only[gQ,rZ,decide_true,decide_false,bG,dD,aR,aT,aS,bA,bH,aK,not_true_eq_false,not_false_eq_true];done)
   |(simp_all[gQ,rZ]<;>(intros;omega))
theorem bDi(t:LTerm)(ht:OkT t)(hk:t.kind=8): CT 193 [elT t] (.b (nodeB t)):=by
 refine gI (rx:=true) (th:=fun i=>if i=19 then some ⟨some 1,[],false,false,false,[],[],0⟩else none) dE Tryz.func193 g0 ?_
 ·simp -implicitDefEqProofs (disch:=omega) only[Tryz.f193,go_sem,List.replicate,simprocAttr];(refine zy1 (zA2 hk (zA2 @decide_true @decide_false)) (bHs t E7 ht (by decide)) ?_;repeat' first|exact trivial|refine zJ ?_ ?_|refine zH fun hc=>?_);all_goals try simp only[aAo,aAp,tK,tJ,bLu]at *
  all_goals refine bR ?_ rfl
  all_goals rw[bLg hk]
  all_goals clear ht
  all_goals first
   |(simp_all only[gQ,rZ,decide_true,decide_false,bG,dD,aR,aT,aS,bA,bH,aK,not_true_eq_false,not_false_eq_true];done)
   |(simp_all[gQ,rZ]<;>(intros;omega))
theorem bDp(t:LTerm)(h1:¬t.kind=1)(h2:¬t.kind=2)(h3:¬t.kind=3)(h4:¬t.kind=4)(h5:¬t.kind=5)(h6:¬t.kind=6)(h7:¬t.kind=7)(h8:¬t.kind=8): CT 193 [elT t] (.b (nodeB t)):=by
 refine gI (rx:=true) (th:=fun i=>if i=19 then some ⟨some 1,[],false,false,false,[],[],0⟩else none) dE Tryz.func193 g0 ?_
 ·simp -implicitDefEqProofs (disch:=omega) only[Tryz.f193,go_sem,List.replicate,simprocAttr];have hn:nodeB t=false:=by simp only[nodeB,h1,h2,h3,h4,h5,h6,h7,h8,if_false]
  (refine zx0 (zA2 h1 (zA2 h2 (zA2 h3 (zA2 h4 (zA2 h5 (zA2 h6 (zA2 h7 (zA2 h8 (zA2 @decide_true @decide_false))))))))) ?_;repeat' first|exact trivial|refine zJ ?_ ?_|refine zH fun hc=>?_);all_goals exact bR (by rw[hn]) rfl
theorem bUi(t:LTerm)(ht:OkT t):CT 193 [elT t] (.b (nodeB t)):=by
 by_cases h1:t.kind=1
 ·exact bDo t ht h1
 by_cases h2:t.kind=2
 ·exact bDn t ht h2
 by_cases h3:t.kind=3
 ·exact bDm t ht h3
 by_cases h4:t.kind=4
 ·exact bDl t ht h4
 by_cases h5:t.kind=5
 ·exact bDk t ht h5
 by_cases h6:t.kind=6
 ·exact aWb t ht h6
 by_cases h7:t.kind=7
 ·exact bDj t ht h7
 by_cases h8:t.kind=8
 ·exact bDi t ht h8
 exact bDp t h1 h2 h3 h4 h5 h6 h7 h8
end Go.Proofs.YtdjcggcjlphdoaaGreatDoor
namespace Go.Vo
section
variable (p:LTerm→Bool)
mutual
def nD:LTerm→Int→Int→Int×Bool
 | .mk k n t s ks rs,d,m=>
   if(decide (d≤60)&&decide (m+1≤2000)&&p (.mk k n t s ks rs))=true then
    (if(lookL ks (d+1) (m+1)).2=true then((lookL ks (d+1) (m+1)).1+rs.length,decide (rs.length=0)||(decide (d<60)&&decide ((lookL ks (d+1) (m+1)).1+rs.length≤2000)))else((lookL ks (d+1) (m+1)).1,false))
   else(m+1,false)
def lookL:List LTerm→Int→Int→Int×Bool
 | [],d,m=>(m,true)
 |k::l,d,m=>if(nD k d m).2=true then lookL l d (nD k d m).1 else((nD k d m).1,false)
end
mutual
def wfT:LTerm→Bool
 | .mk k n t s ks rs=>p (.mk k n t s ks rs)&&wfL ks
def wfL:List LTerm→Bool
 | []=>true
 |k::l=>wfT k&&wfL l
end
end
mutual
def nodesT:LTerm→Nat
 | .mk k n t s ks rs=>1+rs.length+nodesL ks
def nodesL:List LTerm→Nat
 | []=>0
 |k::l=>nodesT k+nodesL l
end
mutual
def highT:LTerm→Nat
 | .mk k n t s ks rs=>1+max rs.length (highL ks)
def highL:List LTerm→Nat
 | []=>0
 |k::l=>max (highT k) (highL l)
end
section
variable {p:LTerm→Bool}
mutual
theorem yZ(hp:∀t,p t=true→t.rest.length≤1):∀(t:LTerm) (d m:Int),((nD p t d m).2=true↔wfT p t=true∧d+highT t≤61∧m+nodesT t≤2000)∧((nD p t d m).2=true→(nD p t d m).1=m+nodesT t)
 | .mk k n t s ks rs,d,m=>by
   rw[nD,wfT,highT,nodesT];split
   ·rename_i hc;simp only[aD,decide_eq_true_eq]at hc;obtain⟨⟨h1,h2⟩,h3⟩:=hc;have hr:=hp _ h3;simp only[LTerm.rest]at hr;obtain⟨i1,i2⟩:=lookL_spec hp ks (d+1) (m+1) (by omega) (by omega);rw[h3,aR];split
    ·rename_i hl;have e:=i2 hl;obtain⟨w,w2,w3⟩:=i1.1 hl;simp only[cB,aD,decide_eq_true_eq,w,true_and,e];exact⟨by omega,fun _=>by omega⟩
    ·rename_i hl;refine⟨⟨(fun h=>by cases h),fun⟨a,b,c⟩=>?_⟩,fun h=>by cases h⟩;exact absurd (i1.2 ⟨a,by omega,by omega⟩) hl
   ·rename_i hc;refine⟨⟨(fun h=>by cases h),fun⟨a,b,c⟩=>?_⟩,fun h=>by cases h⟩;exfalso;refine hc ?_;simp only[aD,decide_eq_true_eq]at a ⊢;exact⟨⟨by omega,by omega⟩,a.1⟩
theorem lookL_spec(hp:∀t,p t=true→t.rest.length≤1):∀(l:List LTerm) (d m:Int),d≤61→m≤2000→((lookL p l d m).2=true↔wfL p l=true∧d+highL l≤61∧m+nodesL l≤2000)∧((lookL p l d m).2=true→(lookL p l d m).1=m+nodesL l)
 | [],d,m,hd,hm=>by
   rw[lookL,wfL,highL,nodesL];exact⟨⟨fun _=>⟨rfl,by omega,by omega⟩,fun _=>rfl⟩,fun _=>by omega⟩
 |k :: l,d,m,hd,hm=>by
  obtain⟨i1,i2⟩:=yZ hp k d m;rw[lookL,wfL,highL,nodesL];split
  ·rename_i hk;have e:=i2 hk;obtain⟨w,w2,w3⟩:=i1.1 hk;obtain⟨j1,j2⟩:=lookL_spec hp l d (nD p k d m).1 hd (by omega);rw[w,aR,j1];exact⟨⟨fun⟨a,b,c⟩=>⟨a,by omega,by omega⟩,fun⟨a,b,c⟩=>⟨a,by omega,by omega⟩⟩,fun h=>by have:=j2 (j1.2 h);omega⟩
  ·rename_i hk;refine⟨⟨(fun h=>by cases h),fun⟨a,b,c⟩=>?_⟩,fun h=>by cases h⟩;rw[aD]at a;exact absurd (i1.2 ⟨a.1,by omega,by omega⟩) hk
end
def kY(p:LTerm→Bool)(t:LTerm):Bool:=wfT p t&&decide (highT t≤60)&&decide (nodesT t≤2000)
theorem aNx(hp:∀t,p t=true→t.rest.length≤1)(t:LTerm):(nD p t 1 0).2=kY p t:=by
 rw[gA,(yZ hp t 1 0).1,kY];simp only[aD,decide_eq_true_eq];exact⟨fun⟨a,b,c⟩=>⟨⟨a,by omega⟩,by omega⟩,fun⟨⟨a,b⟩,c⟩=>⟨a,by omega,by omega⟩⟩
end
end Go.Vo
namespace Go.Proofs.YtdjcggcjlphdoaaGreatDoor
open Go Go.Vo
open Nat (reduceAdd reduceSub reduceMul reduceLeDiff reduceLT reduceEqDiff)
open Int (reduceNeg)
theorem aKl(p:LTerm→Bool)(t:LTerm)(d m:Int):nD p t d m=if(decide (d≤60)&&decide (m+1≤2000)&&p t)=true then(if(lookL p t.kids (d+1) (m+1)).2=true then((lookL p t.kids (d+1) (m+1)).1+t.rest.length,decide (t.rest.length=0)||(decide (d<60)&&decide ((lookL p t.kids (d+1) (m+1)).1+t.rest.length≤2000)))else((lookL p t.kids (d+1) (m+1)).1,false))else(m+1,false):=by
 cases t;rw[nD];rfl
theorem bBw{p:LTerm→Bool}{l:List LTerm}{k:Nat}{d m:Int}(h:k<l.length):lookL p (l.drop k) d m=if(nD p (l.getD k default) d m).2=true then lookL p (l.drop (k+1)) d (nD p (l.getD k default) d m).1 else((nD p (l.getD k default) d m).1,false):=by
 rw[eV h,lookL];simp[List.getD,h]
theorem bBv{p:LTerm→Bool}{t:LTerm}{d m:Int}(hp:∀t,p t=true→t.rest.length≤1)(hm:0≤m)(h:(nD p t d m).2=true):0≤(nD p t d m).1∧(nD p t d m).1≤2000:=by
 have s:=yZ hp t d m;rw[s.2 h];have:=s.1.1 h;omega
theorem aHp{p:LTerm→Bool}{t:LTerm}{d m:Int}(h:(decide (d≤60)&&decide (m+1≤2000)&&p t)=false):nD p t d m=(m+1,false):=by
 rw[aKl,if_neg (by rw[h];simp)]
abbrev bFb(t:LTerm)(d m:Int):AV→List AObj→Prop:=fun r h'=>r=.tup []∧∃g,h'=.box false [.i .i64 (nD nodeB t d m).1,.b (nD nodeB t d m).2]::g
theorem xL{t:LTerm}{d m a:Int}{b:Bool}{h g:List AObj}(e:nD nodeB t d m=(a,b))(hh:h=.box false [.i .i64 a,.b b]::g):bFb t d m (.tup []) h:=⟨rfl,g,by rw[e];exact hh⟩
def I3(d m:Int)(j:Nat):Bool:=decide (j=0)||(decide (d<60)&&decide (m+j≤2000))
@[simp] theorem bXb{d m:Int}:I3 d m 0=true:=by simp[I3]
theorem vO{d m:Int}{j:Nat}:I3 d m (j+1)=(I3 d m j&&decide (d<60)&&decide (m+j+1≤2000)):=by
 rw[gA];simp only[I3,cB,aD,decide_eq_true_eq];omega
theorem bZa(t:LTerm)(d m:Int)(ht:OkT t)(hm0:0≤m)(hm:m≤2000)(hd0:0≤d)(hd:d≤100)(ih:∀k∈t.kids,∀(d m:Int),0≤m→m≤2000→0≤d→d≤100→ACalls Tryz.prog G0 121 [.ptr 0 0,elT k,.i .i64 d] [.box false [.i .i64 m,.b true]] (bFb k d m)): ACalls Tryz.prog G0 121 [.ptr 0 0,elT t,.i .i64 d] [.box false [.i .i64 m,.b true]] (bFb t d m):=by
 refine mC (rx:=false) (th:=fun _=>none) dE Tryz.func121 ?_
 ·simp -implicitDefEqProofs (disch:=omega) only[Tryz.f121,go_sem,List.replicate,simprocAttr];have hk1:=ht.kids;have hr1:=ht.rest;have c:=bUi t ht;cases hnb:nodeB t with
  |false=>
   rw[hnb]at c;(refine zt1 c ?_;repeat' first|exact trivial|refine zJ ?_ ?_|refine zH fun hc=>?_);all_goals exact xL (aHp (by simp only[hnb,aS])) rfl
  |true=>
  rw[hnb]at c;(refine zt1 c ?_;repeat' first|exact trivial|refine zJ ?_ ?_|refine zH fun hc=>?_);rotate_left
  ·exact xL (aHp (by simp only[*,decide_true,decide_false,aT,aS,aR])) rfl
  ·exact xL (aHp (by simp only[*,decide_true,decide_false,aT,aS,aR])) rfl
  have hif:nD nodeB t d m=_:=aKl nodeB t d m;rw[if_pos (by simp only[*,decide_true,cX])]at hif;refine lJ (fun(s:Nat×Int)=>(rp 7 .k (.j::(rp 37 .k (.v (.i .i64 (s.1:Nat))::(rp 14 .j (rp 31 .k []))))))) (fun s=>[.box false [.i .i64 s.2,.b true],.box false (tmC t)]) (fun s=>s.1≤t.kids.length∧lookL nodeB t.kids (d+1) (m+1)=lookL nodeB (t.kids.drop s.1) (d+1) s.2∧0≤s.2∧s.2≤2000) (fun s=>t.kids.length-s.1) ((0,m+1)) _ ⟨bX _,rfl,by dsimp only;omega,by dsimp only;omega⟩ rfl (by simp[iS]) ?_;rintro⟨k,m2⟩ g j ⟨hk,hL,hm20,hm2⟩;dsimp only at hk hL hm20 hm2;refine zg ?_;(refine zs0 ?_;repeat' first|exact trivial|refine zJ ?_ ?_|refine zH fun hc=>?_)
  ·have hlt:k<t.kids.length:=by omega
   rw[bBw hlt]at hL;refine bVx 0 g0 (ih _ (cS (d:=default) hlt) (d+1) m2 hm20 hm2 (by omega) (by omega)) rfl rfl rfl rfl ?_ ?_
   ·simp only[renL,ren,elT,aL,avt,renL_pers _ _ gW,aAf]
   ·intro g2;refine zg ?_;(refine zs0 ?_;repeat' first|exact trivial|refine zJ ?_ ?_|refine zH fun hc=>?_)
    ·rw[if_neg (by rw[show(nD nodeB (t.kids.getD k default) (d+1) m2).2=false from hc];simp)]at hL;rw[hL,if_neg (by simp)]at hif;rw[show(nD nodeB (t.kids.getD k default) (d+1) m2).2=false from hc];exact xL hif rfl
    ·have e:(nD nodeB (t.kids.getD k default) (d+1) m2).2=true:=hc;rw[if_pos e]at hL;have hle:=bBv qE hm20 e;rw[e];exact⟨(k+1,(nD nodeB (t.kids.getD k default) (d+1) m2).1),_,⟨by dsimp only;omega,hL,hle.1,hle.2⟩,by dsimp only;omega,rfl,by simp⟩
  ·rw[dQ (by omega),lookL]at hL;rw[hL,if_pos rfl]at hif;refine dV (fun(i:Nat)=>(rp 63 .k (.v (.i .i64 (i:Nat))::(rp 27 .j [])))) (fun i=>.box false [.i .i64 (m2+(i:Nat)),.b (I3 d m2 i)]::.box false (tmC t)::g) (fun i=>i≤t.rest.length) (fun i=>t.rest.length-i) (0) (bX _) (by simp[avs,avb,avi,avo,fR]) (by simp[iS]) ?_;rintro i j hi;refine zg ?_;(refine zs0 ?_;repeat' first|exact trivial|refine zJ ?_ ?_|refine zH fun hc=>?_)
   ·exact⟨i+1,by omega,by omega,by rw[vO,show I3 d m2 i=true by assumption,Int.natCast_succ,← Int.add_assoc];simp only[aR,zt hc],by simp⟩
   ·exact⟨i+1,by omega,by omega,by rw[vO,Int.natCast_succ,← Int.add_assoc];simp only[zf hc,aS,aT],by simp⟩
   ·exact⟨i+1,by omega,by omega,by rw[vO,hc,Int.natCast_succ,← Int.add_assoc];simp only[aT],by simp⟩
   ·have e:i=t.rest.length:=by omega
    exact xL hif (by rw[e];rfl)
theorem look:∀(t:LTerm),OkT t→∀(d m:Int),0≤m→m≤2000→0≤d→d≤100→ACalls Tryz.prog G0 121 [.ptr 0 0,elT t,.i .i64 d] [.box false [.i .i64 m,.b true]] (bFb t d m):=
 fW fun t hk _ ht d m h1 h2 h3 h4=>bZa t d m ht h1 h2 h3 h4 (fun k hmem d m a b c e=>hk k hmem (ht.kid k hmem) d m a b c e)
theorem aLm(t:LTerm)(ht:OkT t): CT 59 [elT t] (.b (kY nodeB t)):=by
 refine cI dE Tryz.func59 g0 ?_
 ·skip;(refine zs0 ?_;repeat' first|exact trivial|refine zJ ?_ ?_|refine zH fun hc=>?_);refine bVx 1 g0 (look t ht 1 0 (by decide) (by decide) (by decide) (by decide)) rfl rfl rfl rfl ?_ ?_
  ·simp only[renL,ren,elT,aL,avt,renL_pers _ _ gW,aAf]
  ·intro g2;refine zg ?_;(refine zs0 ?_;repeat' first|exact trivial|refine zJ ?_ ?_|refine zH fun hc=>?_);exact bR (by rw[aNx qE]) rfl
def aIs(n:Nat)(f:Nat→Bool):Bool:=(List.range n).all f
theorem O3{n:Nat}{f:Nat→Bool}(h:∀j,j<n→f j=true):aIs n f=true:=by
 simp only[aIs,bC,eC];exact h
theorem uR{n:Nat}{f:Nat→Bool}(j:Nat)(hj:j<n)(h:f j=false):aIs n f=false:=by
 rw[dG];intro e;simp only[aIs,bC,eC]at e;rw[e j hj]at h;cases h
theorem mY{n:Nat}{f:Nat→Bool}:aIs n f=true↔∀j,j<n→f j=true:=by
 simp only[aIs,bC,eC]
theorem F5{l:List LTerm}{f:LTerm→Bool}(h:∀j,j<l.length→f (l.getD j default)=true):l.all f=true:=by
 rw[bC];intro x hx;obtain⟨j,hj,rfl⟩:=dJ.1 hx;have:=h j hj;simpa[List.getD,hj]using this
theorem aFm{l:List LTerm}{f:LTerm→Bool}(j:Nat)(hj:j<l.length)(h:f (l.getD j default)=false):l.all f=false:=by
 rw[dG];intro e;rw[bC.1 e _ (cS hj)]at h;cases h
def aDf(s:dK)(t:LTerm):Bool:=match aPm s t.text with
 |none=>false
 |some o=>decide (o.args.length=t.kids.length)&&aIs t.kids.length (fun i=>iQ s (kI s (t.kids.getD i default)) (o.args.getD i []))
def zD(f:LTerm→LTerm→Int)(t:LTerm)(i:Nat):Bool:=isKey (t.kids.getD (2*i) default)&&(decide (i=0)||decide (f (t.kids.getD (2*i-2) default) (t.kids.getD (2*i) default)<0))
def K9(f:LTerm→LTerm→Int)(t:LTerm):Bool:=aIs ((t.kids.length+1) / 2) (zD f t)
section
variable {f:LTerm→LTerm→Int} {t:LTerm} {i:Nat}
theorem aUh(h:isKey (t.kids.getD (2*i) default)=false):zD f t i=false:=by rw[zD,h,aT]
theorem bCe(h:0<((2*i:Nat):Int))(h2:0≤f (t.kids.getD (2*i-2) default) (t.kids.getD (2*i) default)):zD f t i=false:=by
 rw[zD,zf (by omega:¬i=0),zf (by omega:¬f (t.kids.getD (2*i-2) default) (t.kids.getD (2*i) default)<0),dD,aS]
theorem aUg(h:isKey (t.kids.getD (2*i) default)=true)(h2:¬0≤f (t.kids.getD (2*i-2) default) (t.kids.getD (2*i) default)):zD f t i=true:=by
 rw[zD,h,zt (by omega:f (t.kids.getD (2*i-2) default) (t.kids.getD (2*i) default)<0),bH];rfl
theorem bMb(h:isKey (t.kids.getD (2*i) default)=true)(h2:¬0<((2*i:Nat):Int)):zD f t i=true:=by
 rw[zD,h,zt (by omega:i=0)];rfl
end
mutual
def plainP(s:dK):LTerm→Bool
 | .mk k n x so ks rs => !decide (k=6)&&decide (rs=[])&&plainPL s ks&&(if k=5 then aDf s (.mk k n x so ks rs)else if k=8 then K9 oL (.mk k n x so ks rs)else true)
def plainPL(s:dK):List LTerm→Bool
 | []=>true
 |k::l=>plainP s k&&plainPL s l
end
theorem S5{s:dK}:∀l,plainPL s l=l.all (plainP s)
 | []=>rfl
 |k::l=>by rw[plainPL,S5 l];rfl
theorem lT(s:dK)(t:LTerm):plainP s t=(!decide (t.kind=6)&&decide (t.rest=[])&&t.kids.all (plainP s)&&(if t.kind=5 then aDf s t else if t.kind=8 then K9 oL t else true)):=by
 cases t;rw[plainP,S5];rfl
theorem bDs(s:dK)(t:LTerm)(hs:Small s)(ht:OkT t)(ih:∀k∈t.kids,CT 102 [bQ s,elT k] (.b (plainP s k))): CT 102 [bQ s,elT t] (.b (plainP s t)):=by
 refine cI dE Tryz.func102 g0 ?_
 ·skip;have e:=lT s t;have hk1:=ht.kids;by_cases h6:t.kind=6
  ·rw[zt h6,aA,aT,aT,aT]at e;(refine zs0 ?_;repeat' first|exact trivial|refine zJ ?_ ?_|refine zH fun hc=>?_);all_goals first
    |exact bR (by rw[e]) rfl
    |(exfalso;omega)
  by_cases hr:¬t.rest=[]
  ·rw[zf hr,aS,aT,aT]at e;have hr2:¬t.rest.length=0:=fun h=>hr (eE.1 h);(refine zs0 ?_;repeat' first|exact trivial|refine zJ ?_ ?_|refine zH fun hc=>?_);all_goals first
    |exact bR (by rw[e]) rfl
    |(exfalso;omega)
  have hr:t.rest=[]:=Classical.not_not.1 hr;have hr2:t.rest.length=0:=by rw[hr];rfl
  rw[zf h6,zt hr,aB,aR,aR]at e;(refine zs0 ?_;repeat' first|exact trivial|refine zJ ?_ ?_|refine zH fun hc=>?_)
  ·exfalso;omega
  refine lJ (fun(k:Nat)=>(.k::.k::.k::.k::.j::.k::.j::(rp 17 .k (.v (.i .i64 (k:Nat))::(rp 8 .j (rp 77 .k [])))))) (fun k=>[.box false (tmC t)]) (fun k=>k≤t.kids.length∧∀j,j<k→plainP s (t.kids.getD j default)=true) (fun k=>t.kids.length-k) (0) _ ⟨bX _,fun j h=>by omega⟩ rfl (by simp[iS]) ?_;rintro k g j ⟨hk,ha⟩;have o:k<t.kids.length→CT 102 [bQ s,elT (t.kids.getD k default)] (.b (plainP s (t.kids.getD k default))):=fun h=>ih _ (cS h);refine zg ?_;(refine zt1 o ?_;repeat' first|exact trivial|refine zJ ?_ ?_|refine zH fun hc=>?_)
  ·exact bR (by rw[e,aFm k (by omega) hc,aT]) rfl
  ·exact⟨k+1,_,⟨by omega,fF ha hc⟩,by omega,rfl,by simp⟩
  ·rw[F5 (fun j hj=>ha j (by omega)),aR,if_pos hc]at e
   have c1:=bTc s t.text;cases h1:aPm s t.text with
   |none=>
    rw[h1]at c1;simp only[aDf,h1]at e;(repeat'(first|refine gT ?_ ?_|refine gF ?_ ?_|refine gC ?_ ?_|((refine bJ (c1) ?_ ?_;(focus(simp -implicitDefEqProofs (disch:=omega) only[rX,bQ,zdB,go_sem,simprocAttr];done)));simp -implicitDefEqProofs (disch:=omega) only[rX,bQ,go_sem,simprocAttr])|refine bE (by omega) ?_|(intro hr;have hc:=hr;(try simp only[zdz]at hc);simp -implicitDefEqProofs (disch:=omega) only[hr,rX,bQ,go_sem,simprocAttr];(try clear hr))));all_goals exact bR (by rw[e]) rfl
   |some q=>
    rw[h1]at c1;simp only[aDf,h1]at e;(repeat'(first|refine gT ?_ ?_|refine gF ?_ ?_|refine gC ?_ ?_|((refine bJ (c1) ?_ ?_;(focus(simp -implicitDefEqProofs (disch:=omega) only[rX,bQ,zdB,go_sem,simprocAttr];done)));simp -implicitDefEqProofs (disch:=omega) only[rX,bQ,go_sem,simprocAttr])|refine bE (by omega) ?_|(intro hr;have hc:=hr;(try simp only[zdz]at hc);simp -implicitDefEqProofs (disch:=omega) only[hr,rX,bQ,go_sem,simprocAttr];(try clear hr))))
    ·have hn:¬q.args.length=t.kids.length:=by omega
     rw[zf hn,aT]at e;exact bR (by rw[e]) rfl
    have hn:q.args.length=t.kids.length:=by omega
    rw[zt hn,aR]at e;refine lJ (fun(k:Nat)=>(.k::.k::.k::.k::.j::.k::.k::.k::.k::.j::.j::(rp 47 .k (.v (.i .i64 (k:Nat))::(rp 16 .j (rp 35 .k [])))))) (fun k=>(.box false (tmC t)::(g++[.box false (fR q)]))) (fun k=>k≤t.kids.length∧∀j,j<k→iQ s (kI s (t.kids.getD j default)) (q.args.getD j [])=true) (fun k=>t.kids.length-k) (0) [] ⟨bX _,fun j h=>by omega⟩ (by simp[avs,avb,avi,avo,fR,dW]) (by simp[iS]) ?_;rintro kk g2 j2 ⟨hkk,ha2⟩;refine zg ?_;(refine zt2 (aEn s (t.kids.getD kk default)) (aOj s (kI s (t.kids.getD kk default)) (q.args.getD kk []) hs) ?_;repeat' first|exact trivial|refine zJ ?_ ?_|refine zH fun hc=>?_)
    ·exact bR (by rw[e,uR kk (by omega) hc]) rfl
    ·exact⟨kk+1,_,⟨by omega,fF ha2 hc⟩,by omega,rfl,by simp⟩
    ·exact bR (by rw[e,O3 (fun j hj=>ha2 j (by omega))]) rfl
  ·rw[F5 (fun j hj=>ha j (by omega)),aR,if_neg (by assumption),if_pos hc]at e;refine dV (fun(i:Nat)=>(.k::.k::.k::.k::.j::(rp 6 .k (.v (.i .i64 ((2*i:Nat):Int))::(rp 65 .k (rp 33 .j [])))))) (fun i=>(.box false (tmC t)::g)) (fun i=>2*i≤t.kids.length+1∧∀j,j<i→zD oL t j=true) (fun i=>t.kids.length+1-2*i) (0) ⟨bX _,fun j h=>by omega⟩ rfl (by simp[iS]) ?_;rintro i j2 ⟨hi,ha2⟩;have h0:(((2*i:Nat):Int)-2).toNat=2*i-2:=by omega
   have o1:2*i<t.kids.length→OkT (t.kids.getD (2*i) default):=fun h=>ht.kid _ (cS h);have o2:2*i<t.kids.length→OkT (t.kids.getD (2*i-2) default):=fun h=>ht.kid _ (cS (by omega));refine zh h0 ?_;(repeat'(first|refine gT ?_ ?_|refine gF ?_ ?_|refine gC ?_ ?_|((first|refine cF (aWd (t.kids.getD (2*i) default)) ?_|refine cF (bUm (t.kids.getD (2*i-2) default) (t.kids.getD (2*i) default) (o2 (by omega)) (o1 (by omega))) ?_);simp -implicitDefEqProofs (disch:=omega) only[h0,go_sem,simprocAttr])|refine bE (by omega) ?_|(intro hr;have hc:=hr;(try simp only[zdz]at hc);simp -implicitDefEqProofs (disch:=omega) only[hr,h0,go_sem,simprocAttr];(try clear hr))))
   ·exact bR (by rw[e,K9,uR i (by omega) (bCe (by assumption) hc)]) rfl
   ·exact⟨i+1,⟨by omega,fF ha2 (aUg (by assumption) hc)⟩,by omega,by rw[show((2*(i+1):Nat):Int)=((2*i:Nat):Int)+2 by omega]⟩
   ·exact⟨i+1,⟨by omega,fF ha2 (bMb (by assumption) hc)⟩,by omega,by rw[show((2*(i+1):Nat):Int)=((2*i:Nat):Int)+2 by omega]⟩
   ·exact bR (by rw[e,K9,uR i (by omega) (aUh hc)]) rfl
   ·exact bR (by rw[e,K9,O3 (fun j hj=>ha2 j (by omega))]) rfl
  ·rw[F5 (fun j hj=>ha j (by omega)),aR,if_neg (by assumption),if_neg (by assumption)]at e;exact bR (by rw[e]) rfl
  ·exfalso;omega
theorem bUp(s:dK)(hs:Small s):∀(t:LTerm),OkT t→CT 102 [bQ s,elT t] (.b (plainP s t)):=
 fW fun t hk _ ht=>bDs s t hs ht (fun k hm=>hk k hm (ht.kid k hm))
theorem aEu{a b:Int}:sC a b=0↔a=b:=by
 rw[sC];split
 ·omega
 ·split<;>omega
theorem tG{a b:Str}:sE a b=0↔a=b:=by
 constructor
 ·intro h;by_cases h1:a<b
  ·rw[N1 h1]at h;cases h
  ·by_cases h2:a=b
   ·exact h2
   ·rw[N2 h1 h2]at h;cases h
 ·exact aIg
structure ZN(t:LTerm):Prop where
 a:t.kind=1∨t.kind=2→t.text=[]∧t.sort=[]∧t.kids=[]∧t.rest=[]
 b:t.kind=3∨t.kind=4→t.n=0∧t.sort=[]∧t.kids=[]∧t.rest=[]
 c:t.kind=5→t.n=0∧t.sort=[]∧t.rest=[]
 d:t.kind=6→t.n=0∧t.kids=[]∧t.rest=[]
 e:t.kind=7∨t.kind=8→t.n=0∧t.text=[]∧t.sort=[]
 f:1≤t.kind∧t.kind≤8
theorem pM{t:LTerm}{a b c d e:Bool}(h:gQ t a b c d e=true):(a=false→t.n=0)∧(b=false→t.text=[])∧(c=false→t.sort=[])∧(d=false→t.kids=[])∧(e=false→t.rest=[]):=by
 simp only[gQ,aD,cB,decide_eq_true_eq]at h;obtain⟨⟨⟨⟨h1,h2⟩,h3⟩,h4⟩,h5⟩:=h;exact⟨fun h=>h1.resolve_left (by simp[h]),fun h=>h2.resolve_left (by simp[h]),fun h=>h3.resolve_left (by simp[h]),fun h=>h4.resolve_left (by simp[h]),fun h=>h5.resolve_left (by simp[h])⟩
theorem yY{t:LTerm}(h:nodeB t=true):ZN t:=by
 have two:∀{x y:Bool},(x&&y)=true→x=true∧y=true:=by simp
 unfold nodeB at h;split at h
 ·have z:=pM (two h).2;exact⟨fun _=>⟨z.2.1 rfl,z.2.2.1 rfl,z.2.2.2.1 rfl,z.2.2.2.2 rfl⟩,fun _=>by omega,fun _=>by omega,fun _=>by omega,fun _=>by omega,by omega⟩
 split at h
 ·have z:=pM (two h).2;exact⟨fun _=>⟨z.2.1 rfl,z.2.2.1 rfl,z.2.2.2.1 rfl,z.2.2.2.2 rfl⟩,fun _=>by omega,fun _=>by omega,fun _=>by omega,fun _=>by omega,by omega⟩
 split at h
 ·have z:=pM (two h).2;exact⟨fun _=>by omega,fun _=>⟨z.1 rfl,z.2.2.1 rfl,z.2.2.2.1 rfl,z.2.2.2.2 rfl⟩,fun _=>by omega,fun _=>by omega,fun _=>by omega,by omega⟩
 split at h
 ·have z:=pM (two h).2;exact⟨fun _=>by omega,fun _=>⟨z.1 rfl,z.2.2.1 rfl,z.2.2.2.1 rfl,z.2.2.2.2 rfl⟩,fun _=>by omega,fun _=>by omega,fun _=>by omega,by omega⟩
 split at h
 ·have z:=pM (two h).2;exact⟨fun _=>by omega,fun _=>by omega,fun _=>⟨z.1 rfl,z.2.2.1 rfl,z.2.2.2.2 rfl⟩,fun _=>by omega,fun _=>by omega,by omega⟩
 split at h
 ·have z:gQ t false true true false false=true:=by
   split at h
   ·exact(two h).2
   ·exact(two h).2
  have z:=pM z;exact⟨fun _=>by omega,fun _=>by omega,fun _=>by omega,fun _=>⟨z.1 rfl,z.2.2.2.1 rfl,z.2.2.2.2 rfl⟩,fun _=>by omega,by omega⟩
 split at h
 ·have z:=pM (two h).2;exact⟨fun _=>by omega,fun _=>by omega,fun _=>by omega,fun _=>by omega,fun _=>⟨z.1 rfl,z.2.1 rfl,z.2.2.1 rfl⟩,by omega⟩
 split at h
 ·have z:=pM (two h).2;exact⟨fun _=>by omega,fun _=>by omega,fun _=>by omega,fun _=>by omega,fun _=>⟨z.1 rfl,z.2.1 rfl,z.2.2.1 rfl⟩,by omega⟩
 ·cases h
theorem aGm{t:LTerm}{so:Str}(h:nK t so=true):∀r∈t.rest,ZN r∧r.kids=[]∧r.rest=[]:=by
 intro r hr;simp only[nK,cB,aD,decide_eq_true_eq]at h;rcases h with h|⟨⟨⟨⟨h1,h2⟩,h3⟩,h4⟩,h5⟩
 ·rw[eE]at h;rw[h]at hr;cases hr
 ·obtain⟨x,hx⟩:=aFt.1 h1;rw[hx]at hr h2 h5;simp only[aP]at hr;subst hr;simp only[gO]at h2 h5;have z:=pM h5;exact⟨⟨fun _=>by omega,fun _=>by omega,fun _=>by omega,fun _=>⟨z.1 rfl,z.2.2.2.1 rfl,z.2.2.2.2 rfl⟩,fun _=>by omega,by omega⟩,z.2.2.2.1 rfl,z.2.2.2.2 rfl⟩
theorem xH{t:LTerm}(h:nodeB t=true):∀r∈t.rest,ZN r∧r.kids=[]∧r.rest=[]:=by
 have two:∀{x y:Bool},(x&&y)=true→x=true∧y=true:=by simp
 have z:=yY h;intro r hr;have hne:t.rest ≠ []:=fun e=>by rw[e]at hr;cases hr
 have h7:t.kind=7∨t.kind=8:=by
  rcases z.f with⟨f1,f2⟩;by_cases h1:t.kind=1∨t.kind=2
  ·exact absurd (z.a h1).2.2.2 hne
  by_cases h3:t.kind=3∨t.kind=4
  ·exact absurd (z.b h3).2.2.2 hne
  by_cases h5:t.kind=5
  ·exact absurd (z.c h5).2.2 hne
  by_cases h6:t.kind=6
  ·exact absurd (z.d h6).2.2 hne
  omega
 unfold nodeB at h;rw[if_neg (by omega),if_neg (by omega),if_neg (by omega),if_neg (by omega),if_neg (by omega),if_neg (by omega)]at h;split at h
 ·exact aGm (two h).1 r hr
 ·split at h
  ·exact aGm (two (two h).1).1 r hr
  ·cases h
theorem eN{p:LTerm→Bool}{t:LTerm}:wfT p t=true↔p t=true∧∀k∈t.kids,wfT p k=true:=by
 have hl:∀l:List LTerm,wfL p l=true↔∀k∈l,wfT p k=true:=by
  intro l;induction l with
  |nil=>simp[wfL]
  |cons a l ih=>simp[wfL,ih]
 cases t;rw[wfT,aD,hl];rfl
theorem aEs(a:Str):sE a a=0:=aIg rfl
def lex(a b:Int):Int:=if a=0 then b else a
theorem uI(a b:LTerm):oL a b=lex (sC a.kind b.kind) (lex (sC a.n b.n) (lex (sE a.text b.text) (lex (sE a.sort b.sort) (lex (ordPL a.kids b.kids) (ordPL a.rest b.rest))))):=aHa a b
theorem uK{a b:Int}:lex a b=0↔a=0∧b=0:=by rw[lex];split<;>simp[*]
theorem aTx{a b:Int}:lex (-a) (-b) = - lex a b:=by simp only[lex];split<;>split<;>omega
theorem aEv(a b:Int):sC b a = - sC a b:=by simp only[sC];split<;>split<;>(try split)<;>omega
theorem aEt(a b:Str):sE b a = - sE a b:=by
 by_cases h1:a<b
 ·rw[N1 h1,N2 (fun h=>pB _ (mD h1 h)) (fun h=>by subst h;exact pB _ h1)];rfl
 ·by_cases h2:a=b
  ·subst h2;rw[aEs];rfl
  ·rw[N2 h1 h2,N1 (xU h1 h2)]
theorem K0:∀(l m:List LTerm),(∀a∈l,∀b,oL a b=0↔a=b)→(ordPL l m=0↔l=m)
 | [],[],_=>by simp[ordPL]
 | [],_::_,_=>by simp[ordPL]
 |_::_,[],_=>by simp[ordPL]
 |a::l,b::m,h=>by
  have e:=uK (a:=oL a b) (b:=ordPL l m);rw[ordPL,iD,← h a (by simp) b,← K0 l m (fun x hx y=>h x (by simp[hx]) y)];exact e
theorem bAz:∀(a b:LTerm),oL a b=0↔a=b:=
 fW (Q:=fun a=>∀b,oL a b=0↔a=b) fun a hk hr b=>by
  rw[uI,uK,uK,uK,uK,uK,aEu,aEu,tG,tG,K0 _ _ hk,K0 _ _ hr,LTerm.ext_iff]
theorem K5:∀(l m:List LTerm),(∀a∈l,∀b,oL b a = - oL a b)→ordPL m l = - ordPL l m
 | [],[],_=>by simp[ordPL]
 | [],_::_,_=>by simp[ordPL]
 |_::_,[],_=>by simp[ordPL]
 |a::l,b::m,h=>by
  have e:=aTx (a:=oL a b) (b:=ordPL l m);rw[ordPL,ordPL,h a (by simp) b,K5 l m (fun x hx y=>h x (by simp[hx]) y)];exact e
theorem bBb:∀(a b:LTerm),oL b a = - oL a b:=
 fW (Q:=fun a=>∀b,oL b a = - oL a b) fun a hk hr b=>by
  rw[uI,uI,aEv a.kind,aEv a.n,aEt a.text,aEt a.sort,K5 _ _ hk,K5 _ _ hr];simp only[aTx]
def Tri(x y z:Int):Prop:=(x<0→y≤0→z<0)∧(x≤0→y<0→z<0)∧(x=0→y=0→z=0)
theorem yO{x y z x' y' z':Int}(h:Tri x y z)(h':Tri x' y' z'):Tri (lex x x') (lex y y') (lex z z'):=by
 obtain⟨a,b,c⟩:=h;obtain⟨a',b',c'⟩:=h';simp only[lex,Tri];refine⟨fun h1 h2=>?_,fun h1 h2=>?_,fun h1 h2=>?_⟩<;>split at h1<;>split at h2<;>split<;>omega
theorem bQh(a b c:Int):Tri (sC a b) (sC b c) (sC a c):=by
 simp only[Tri,sC];refine⟨fun h1 h2=>?_,fun h1 h2=>?_,fun h1 h2=>?_⟩<;>split at h1<;>split at h2<;>(try split at h1)<;>(try split at h2)<;>(try split)<;>(try split)<;>omega
theorem E9{a b:Str}:sE a b<0↔a<b:=by
 by_cases h1:a<b
 ·rw[N1 h1];simp[h1]
 ·by_cases h2:a=b
  ·subst h2;rw[aEs];simp[h1]
  ·rw[N2 h1 h2];simp[h1]
theorem bQg(a b c:Str):Tri (sE a b) (sE b c) (sE a c):=by
 have le:∀{x y:Str},sE x y≤0→x<y∨x=y:=fun{x y} h=>by
  rcases Int.lt_or_eq_of_le h with h|h
  ·exact .inl (E9.1 h)
  ·exact .inr (tG.1 h)
 refine⟨fun h1 h2=>?_,fun h1 h2=>?_,fun h1 h2=>?_⟩
 ·rw[E9]at h1 ⊢;rcases le h2 with h|h
  ·exact mD h1 h
  ·exact h▸h1
 ·rw[E9]at h2 ⊢;rcases le h1 with h|h
  ·exact mD h h2
  ·exact h▸h2
 ·rw[tG]at *;rw[h1,h2]
theorem Y5:∀(l m r:List LTerm),(∀a∈l,∀b c,Tri (oL a b) (oL b c) (oL a c))→Tri (ordPL l m) (ordPL m r) (ordPL l r)
 | [],[],[],_=>by simp[ordPL,Tri]
 | [],[],_::_,_=>by simp[ordPL,Tri]
 | [],_::_,[],_=>by simp[ordPL,Tri]
 | [],_::_,_::_,_=>by simp[ordPL,Tri]
 |_::_,[],[],_=>by simp[ordPL,Tri]
 |_::_,[],_::_,_=>by simp[ordPL,Tri]
 |a::l,b::m,[],_=>by rw[ordPL,ordPL,ordPL];refine⟨fun _ h=>?_,fun _ h=>?_,fun _ h=>?_⟩<;>revert h<;>decide
 |a::l,b::m,c::r,h=>by
  have e:=yO (h a (by simp) b c) (Y5 l m r (fun x hx=>h x (by simp[hx])));rw[ordPL,ordPL,ordPL];exact e
theorem bKx:∀(a b c:LTerm),Tri (oL a b) (oL b c) (oL a c):=
 fW (Q:=fun a=>∀b c,Tri (oL a b) (oL b c) (oL a c)) fun a hk hr b c=>by
  rw[uI,uI,uI];exact yO (bQh _ _ _) (yO (bQh _ _ _) (yO (bQg _ _ _) (yO (bQg _ _ _) (yO (Y5 _ _ _ hk) (Y5 _ _ _ hr)))))
theorem aSu{a b c:LTerm}(h1:oL a b<0)(h2:oL b c<0):oL a c<0:=(bKx a b c).1 h1 (by omega)
theorem bBa(a:LTerm):oL a a=0:=(bAz a a).2 rfl
def jW(s:dK)(t:LTerm):Bool:=kY nodeB t&&plainP s t
theorem aWe(s:dK)(t:LTerm)(hs:Small s)(ht:OkT t): CT 47 [bQ s,elT t] (.b (jW s t)):=by
 refine cI dE Tryz.func47 g0 ?_
 ·skip;(refine zt2 (aLm t ht) (bUp s hs t ht) ?_;repeat' first|exact trivial|refine zJ ?_ ?_|refine zH fun hc=>?_);all_goals refine bR ?_ rfl
  all_goals simp only[jW, *,aR,aT]
theorem aPx{s:dK}(h:iH s=true):∀o∈s.ops,isOp s o=true:=by
 simp only[iH,pT,qT,sI,aD,bC,decide_eq_true_eq]at h;exact h.2.1.2
theorem bLa{s:dK}{o:LOp}(h:isOp s o=true):existsA s o.sort=true:=by
 simp only[isOp,opHead,aD,eY]at h;simp[existsA,keysOf,h.1.1.1.1.1.2]
theorem bBe{s:dK}{x:Str}{o:LOp}(h:aPm s x=some o):o∈s.ops:=lB h
theorem rH{s:dK}{x:Str}(h:x∈alwaysA):existsA s x=true:=by simp[existsA,keysOf,h]
theorem yR{s:dK}{t:LTerm}(hv:iH s=true)(hz:1≤t.kind∧t.kind≤8)(hp:plainP s t=true):ofR s t=(kI s t,true)∧existsA s (kI s t)=true:=by
 rw[lT]at hp;simp only[aD,eG,decide_eq_false_iff_not]at hp;obtain⟨⟨⟨h6,_⟩,_⟩,ha⟩:=hp;by_cases h5:t.kind=5
 ·rw[if_pos h5,aDf]at ha;cases ho:aPm s t.text with
  |none=>rw[ho]at ha;cases ha
  |some o=>
   have e1:(kN s t.text).1=o:=by rw[kN,ho]
   have e2:(aMf s t.text).2=(o.sort,true):=by rw[aMf,ho]
   simp only[kI,ofR,h5,Int.reduceEq,if_true,if_false,e1,e2,true_and];exact bLa (aPx hv o (bBe ho))
 ·simp only[kI,ofR];split
  ·exact⟨rfl,rH (by decide)⟩
  split
  ·exact⟨rfl,rH (by decide)⟩
  split
  ·exact⟨rfl,rH (by decide)⟩
  split
  ·exact⟨rfl,rH (by decide)⟩
  split
  ·exact⟨rfl,rH (by decide)⟩
  split
  ·exact⟨rfl,rH (by decide)⟩
  ·omega
theorem uA{t:LTerm}(h:kY nodeB t=true):wfT nodeB t=true:=by
 simp only[kY,aD]at h;exact h.1.1
theorem bFx{H g:List AObj}{out:AV}{l:List LTerm}(h:jU 6 0 g out (l.flatMap aU) l.length)(hH:H=g):Rd6 H out l:=by
 subst hH;rcases h with⟨rfl,hn,h0⟩|⟨i,rfl,hi,hl⟩
 ·exact .inl ⟨rfl,eE.1 (by omega)⟩
 ·refine .inr (.inr ⟨i+0,0,_,_,_,rfl,(by simpa using hi),by omega,?_⟩);rw[bK,bB (by omega)]
theorem bGu{H:List AObj}{v:AV}{l:List LTerm}(r:Rd6 H v l):Fin H v (.sl (l.flatMap aU) l.length):=by
 have e:=bKb r;have e1:oZ H v (.sl (l.flatMap aU) l.length):=e.1;have e2:dN v (.sl (l.flatMap aU) l.length)=[]:=e.2;exact .inr ⟨e1,by rw[e2];exact fL,by rw[e2];simp⟩
theorem aMz{l:List LTerm}{k:Nat}(h:k<l.length):(l.take (k+1)).flatMap aU=(l.take k).flatMap aU++aU (l.getD k default):=by
 rw[fI (d:=default) h,List.flatMap_append];simp
theorem pZ{α:Type}{l:List α}:(List.replicate 1 l).flatten=l:=by simp
theorem aLl(l:List LTerm)(hl:l.length≤1466015503701)(ih:∀t∈l,CT 60 [elT t] (elT t)): CT 122 [avt l] (avt l):=by
 refine dO dE Tryz.func122 g0 ?_
 ·simp -implicitDefEqProofs (disch:=omega) only[Tryz.f122,go_sem,List.replicate,↓reduceIte,reduceAdd,reduceSub,reduceMul,reduceLeDiff,reduceLT,reduceEqDiff,reduceNeg,Nat.reduceBEq,avt];refine dV (fun(s:Nat×AV×List AObj)=>(.k::.k::.k::.v (s.2.1)::.k::.j::.k::.k::.v (.i .i64 (s.1:Nat))::(rp 9 .j [.k]))) (fun s=>s.2.2) (fun s=>s.1≤l.length∧jU 6 0 s.2.2 s.2.1 ((l.take s.1).flatMap aU) s.1) (fun s=>l.length-s.1) ((0,.e0,[])) ⟨bX _,jN⟩ rfl (by simp[iS]) ?_;rintro⟨k,out,g⟩ j ⟨hk,ho⟩;dsimp only at hk ho;have o:k<l.length→CT 60 [elT (l.getD k default)] (elT (l.getD k default)):=fun h=>ih _ (cS h);refine zg ?_;(repeat'(first|refine gT ?_ ?_|refine gF ?_ ?_|refine gC ?_ ?_|((refine bJ ((o (by omega))) ?_ ?_;(focus(simp -implicitDefEqProofs (disch:=omega) only[pZ,zdB,go_sem,↓reduceIte,reduceAdd,reduceSub,reduceMul,reduceLeDiff,reduceLT,reduceEqDiff,reduceNeg,Nat.reduceBEq];done)));simp -implicitDefEqProofs (disch:=omega) only[pZ,go_sem,↓reduceIte,reduceAdd,reduceSub,reduceMul,reduceLeDiff,reduceLT,reduceEqDiff,reduceNeg,Nat.reduceBEq])|refine bE (by omega) ?_|(intro hr;have hc:=hr;(try simp only[zdz]at hc);simp -implicitDefEqProofs (disch:=omega) only[hr,pZ,go_sem,↓reduceIte,reduceAdd,reduceSub,reduceMul,reduceLeDiff,reduceLT,reduceEqDiff,reduceNeg,Nat.reduceBEq];(try clear hr))))
  ·refine fN (pre:=[]) (g:=g++[.box false (tmC (l.getD k default))]) (more:=[.arr false 6 ((tmC (l.getD k default)))]) (news:=(tmC (l.getD k default))) (m:=1) ((ho).more _) rfl (by simp -implicitDefEqProofs (disch:=omega) only[go_sem,↓reduceIte,reduceAdd,reduceSub,reduceMul,reduceLeDiff,reduceLT,reduceEqDiff,reduceNeg,Nat.reduceBEq]) bHb bFe bFj bIc rfl (by decide) (by simp -implicitDefEqProofs (disch:=omega) only[go_sem,↓reduceIte,reduceAdd,reduceSub,reduceMul,reduceLeDiff,reduceLT,reduceEqDiff,reduceNeg,Nat.reduceBEq]) (by simp -implicitDefEqProofs (disch:=omega) only[go_sem,↓reduceIte,reduceAdd,reduceSub,reduceMul,reduceLeDiff,reduceLT,reduceEqDiff,reduceNeg,Nat.reduceBEq]) ⟨by omega,by omega⟩ ?_;intro out' g' ho' _;refine zg ?_;refine⟨(k+1,out',g'),⟨by dsimp only;omega,?_⟩,by dsimp only;omega,rfl,by simp⟩;dsimp only;rw[aMz (by omega),aL];exact ho'
  ·have h1:k=l.length:=by omega
   subst h1;rw[fH]at ho;exact bGu (bFx ho rfl)
theorem bDt(t:LTerm)(ihk:CT 122 [avt t.kids] (avt t.kids))(ihr:CT 122 [avt t.rest] (avt t.rest)): CT 60 [elT t] (elT t):=by
 refine cI dE Tryz.func60 g0 ?_
 ·skip;(refine zt2 ihk ihr ?_;repeat' first|exact trivial|refine zJ ?_ ?_|refine zH fun hc=>?_);all_goals exact bR rfl (by simp only[pers,persL,gW,cX])
theorem bHv:∀(t:LTerm),OkT t→CT 60 [elT t] (elT t):=
 fW fun t hk hr ht=>bDt t (aLl t.kids ht.kids fun x hx=>hk x hx (ht.kid x hx)) (aLl t.rest ht.rest fun x hx=>hr x hx (ht.rst x hx))
end Go.Proofs.YtdjcggcjlphdoaaGreatDoor
