/-
  How terms are measured: plain laws; no condition beyond those that each theorem names.
-/
import Derived.Test.YtdjcggcjlphdoaaGreatDoorTeP12
import Derived.Test.YtdjcggcjlphdoaaGreatDoorSoP13
import Derived.Test.YtdjcggcjlphdoaaGreatDoorTeP11
import Derived.Test.YtdjcggcjlphdoaaGreatDoorVoP16
set_option maxRecDepth 100000
set_option linter.unusedSimpArgs false
set_option linter.unusedVariables false
set_option maxHeartbeats 4000000
namespace Go.Proofs.YtdjcggcjlphdoaaGreatDoor
open Go Go.Vo
open Nat (reduceAdd reduceSub reduceMul reduceLeDiff reduceLT reduceEqDiff)
open Int (reduceNeg)

def uQ:Str:=[73,110,116]
def aAo:Str:=[66,111,111,108]
def aHh:Str:=[84,101,120,116]
def idS:Str:=[73,100]
def bFd (s:Str):List Str:=if s=[97,100,100] then [uQ,uQ] else if s=[115,117,98] then [uQ,uQ] else if s=[109,117,108] then [uQ,uQ] else if s=[100,105,118] then [uQ,uQ] else if s=[109,111,100] then [uQ,uQ] else if s=[108,116] then [uQ,uQ] else if s=[108,101] then [uQ,uQ] else if s=[103,116] then [uQ,uQ] else if s=[103,101] then [uQ,uQ] else if s=[110,101,103] then [uQ] else if s=[116,101,120,116] then [uQ] else if s=[101,113] then [wP,wP] else if s=[110,101] then [wP,wP] else if s=[97,110,100] then [aAo,aAo] else if s=[111,114] then [aAo,aAo] else if s=[110,111,116] then [aAo] else if s=[112,105,99,107] then [aAo,wP,wP] else if s=[99,97,116] then [aHh,aHh] else if s=[108,101,110,103,116,104] then [N6] else if s=[106,111,105,110] then [N6,N6] else if s=[103,101,116] then [aJy,wP] else if s=[104,97,115] then [aJy,wP] else if s=[100,101,108] then [aJy,wP] else if s=[112,117,116] then [aJy,wP,wP] else if s=[107,101,121,115] then [aJy] else if s=[115,105,122,101] then [aJy] else if s=[105,115] then [wP,aHh] else [wP]
def aBo (s:Str):Str:=if s=[97,100,100] then uQ else if s=[115,117,98] then uQ else if s=[109,117,108] then uQ else if s=[100,105,118] then uQ else if s=[109,111,100] then uQ else if s=[110,101,103] then uQ else if s=[108,101,110,103,116,104] then uQ else if s=[115,105,122,101] then uQ else if s=[99,97,116] then aHh else if s=[116,101,120,116] then aHh else if s=[106,111,105,110] then N6 else if s=[107,101,121,115] then N6 else if s=[112,117,116] then aJy else if s=[100,101,108] then aJy else if s=[112,105,99,107] then wP else if s=[103,101,116] then wP else aAo
def strs:List AV→List Str
 | .s x::l=>x::strs l
 | _=>[]
theorem aLf {H:List AObj} {i:Nat} {fz t:Bool} {l:List Str} (h1:H[i]? = some (.arr fz 1 (l.map .s))):avs l=gG dep H (.hs i 0 l.length t):=by
 simp only [fQ,pers,qH,h1,aG,if_false,dL,aRt,dC,bQ,if_true,bC]
 rw [bD (by simp)]
 simp only [kX,if_true,avs]
theorem aFn {H:List AObj} {i n:Nat} {cells:List AV} {fz t:Bool} {l:List Str} (h1:H[i]? = some (.arr fz 1 cells)) (hl:l=strs cells) (hc:(strs cells).map .s=cells) (hn:n=(strs cells).length):Fin H (.hs i 0 n t) (avs l):=by
 rw [← hl] at hc hn
 rw [← hc] at h1
 subst hn
 exact .inr ⟨aLf h1,by simp [cV,avs],by simp [cV,avs]⟩
theorem bKs (s:Str): CT 256 [.s s] (avs (bFd s)):=by
 refine bY cU Tryz.func256 g0 ?_
 · skip
   (refine zs0 ?_; repeat' first | exact trivial | refine zJ ?_ ?_ | refine zH fun hc=>?_)
   all_goals first
     | (subst hc; exact aFn rfl (by decide +kernel) rfl rfl)
     | (simp only [bFd, *,if_false]; exact aFn rfl rfl rfl rfl)
theorem bKr (s:Str): CT 257 [.s s] (.s (aBo s)):=by
 refine bY cU Tryz.func257 g0 ?_
 · skip
   (refine zs0 ?_; repeat' first | exact trivial | refine zJ ?_ ?_ | refine zH fun hc=>?_)
   all_goals first
     | (subst hc; exact bR (congrArg AV.s (by decide +kernel)) rfl)
     | (simp only [aBo, *,if_false]; exact bR rfl rfl)
def C5 (x:Str):Option LOp:=if pU.contains x then some ⟨x,bFd x,aBo x,[],0,0,[]⟩ else none
theorem sA {H:List AObj} {o o':LOp} {a b a' b':Bool} (h:(o',a',b')=(o,a,b)):Fin H (.tup [.agg [.s o.name,.sl (o.args.map .s) o.args.length,.s o.sort,.sl (o.pieces.flatMap eY) o.pieces.length,.i .i64 o.prec,.i .i64 o.assoc,.sl (o.strict.map (.i .i64)) o.strict.length],.b a,.b b]) (.tup [.agg [.s o'.name,.sl (o'.args.map .s) o'.args.length,.s o'.sort,.sl (o'.pieces.flatMap eY) o'.pieces.length,.i .i64 o'.prec,.i .i64 o'.assoc,.sl (o'.strict.map (.i .i64)) o'.strict.length],.b a',.b b']):=by
 injection h with h1 h2; injection h2 with h2 h3
 subst h1 h2 h3
 exact bR rfl (by simp only [pers,persL,kX,kT,qZ,eE])
theorem aOs {H:List AObj} {x r:Str} {l:List Str}:Fin H (.tup [.agg [.s x,.sl (l.map .s) l.length,.s r,.e0,.i .i64 0,.i .i64 0,.e0],.b true]) (.tup [elO ⟨x,l,r,[],0,0,[]⟩,.b true]):=
 .inr ⟨⟨⟨rfl,by show _=gG dep H _; simp only [fQ,pers,kX,if_true]; rfl,rfl,rfl,rfl,rfl,rfl,trivial⟩,rfl,trivial⟩,by simp [elO,eR,cV,finIdsL,avs,avb,avi],by simp [elO,eR,cV,finIdsL,avs,avb,avi]⟩
theorem bKv (x:Str): CT 219 [.s x] (qI (C5 x)):=by
 refine bY cU Tryz.func219 g0 ?_
 · skip
   (refine zt3 (bEk x) (bKs x) (bKr x) ?_; repeat' first | exact trivial | refine zJ ?_ ?_ | refine zH fun hc=>?_)
   · rw [C5,if_neg (by rw [hc]; simp)]
     exact aOn
   · rw [C5,if_pos hc]
     exact aOs
def nI (s:eD) (x:Str):LOp × Bool × Bool:=match aYf s x with
 | some o=>(o,false,true)
 | none=>match aIq s x with
   | some o=>(o,true,true)
   | none=>match C5 x with
     | some o=>(o,true,true)
     | none=>(default,true,false)
theorem aPp (s:eD) (x:Str): CT 160 [cC s,.s x] (.tup [elO (nI s x).1,.b (nI s x).2.1,.b (nI s x).2.2]):=by
 refine bY cU Tryz.func160 g0 ?_
 · skip
   have c1:=bJj s x
   have c2:=bQf s x
   have c3:=bKv x
   cases h1:aYf s x with
   | some o=>
     rw [h1] at c1
     (repeat' (first | refine gT ?_ ?_ | refine gF ?_ ?_ | refine gC ?_ ?_ | ((refine bU (c1) ?_ ?_; (focus (simp -implicitDefEqProofs (disch:=omega) only [qI,zdB,go_sem,simprocAttr]; done))); simp -implicitDefEqProofs (disch:=omega) only [qI,go_sem,simprocAttr]) | refine bG (by omega) ?_ | (intro hr; have hc:=hr; (try simp only [zdz] at hc); simp -implicitDefEqProofs (disch:=omega) only [hr,qI,go_sem,simprocAttr]; (try clear hr))))
     exact sA (by simp only [nI,h1])
   | none=>
   rw [h1] at c1
   cases h2:aIq s x with
   | some o=>
     rw [h2] at c2
     (repeat' (first | refine gT ?_ ?_ | refine gF ?_ ?_ | refine gC ?_ ?_ | ((first | (refine bU (c1) ?_ ?_; (focus (simp -implicitDefEqProofs (disch:=omega) only [qI,zdB,go_sem,simprocAttr]; done))) | (refine bU (c2) ?_ ?_; (focus (simp -implicitDefEqProofs (disch:=omega) only [qI,zdB,go_sem,simprocAttr]; done)))); simp -implicitDefEqProofs (disch:=omega) only [qI,go_sem,simprocAttr]) | refine bG (by omega) ?_ | (intro hr; have hc:=hr; (try simp only [zdz] at hc); simp -implicitDefEqProofs (disch:=omega) only [hr,qI,go_sem,simprocAttr]; (try clear hr))))
     exact sA (by simp only [nI,h1,h2])
   | none=>
   rw [h2] at c2
   cases h3:C5 x with
   | some o=>
     rw [h3] at c3
     (repeat' (first | refine gT ?_ ?_ | refine gF ?_ ?_ | refine gC ?_ ?_ | ((first | (refine bU (c1) ?_ ?_; (focus (simp -implicitDefEqProofs (disch:=omega) only [qI,zdB,go_sem,simprocAttr]; done))) | (refine bU (c2) ?_ ?_; (focus (simp -implicitDefEqProofs (disch:=omega) only [qI,zdB,go_sem,simprocAttr]; done))) | (refine bU (c3) ?_ ?_; (focus (simp -implicitDefEqProofs (disch:=omega) only [qI,zdB,go_sem,simprocAttr]; done)))); simp -implicitDefEqProofs (disch:=omega) only [qI,go_sem,simprocAttr]) | refine bG (by omega) ?_ | (intro hr; have hc:=hr; (try simp only [zdz] at hc); simp -implicitDefEqProofs (disch:=omega) only [hr,qI,go_sem,simprocAttr]; (try clear hr))))
     exact sA (by simp only [nI,h1,h2,h3])
   | none=>
     rw [h3] at c3
     (repeat' (first | refine gT ?_ ?_ | refine gF ?_ ?_ | refine gC ?_ ?_ | ((first | (refine bU (c1) ?_ ?_; (focus (simp -implicitDefEqProofs (disch:=omega) only [qI,zdB,go_sem,simprocAttr]; done))) | (refine bU (c2) ?_ ?_; (focus (simp -implicitDefEqProofs (disch:=omega) only [qI,zdB,go_sem,simprocAttr]; done))) | (refine bU (c3) ?_ ?_; (focus (simp -implicitDefEqProofs (disch:=omega) only [qI,zdB,go_sem,simprocAttr]; done)))); simp -implicitDefEqProofs (disch:=omega) only [qI,go_sem,simprocAttr]) | refine bG (by omega) ?_ | (intro hr; have hc:=hr; (try simp only [zdz] at hc); simp -implicitDefEqProofs (disch:=omega) only [hr,qI,go_sem,simprocAttr]; (try clear hr))))
     exact sA (by simp only [nI,h1,h2,h3])
def oF (s:eD) (t:LTerm):Str:=if t.kind=1 then uQ else if t.kind=2 then aAo else if t.kind=3 then aHh else if t.kind=4 then idS else if t.kind=7 then N6 else if t.kind=8 then aJy else if t.kind=5 then (nI s t.text).1.sort else if jD s t.sort then t.sort else []
theorem aAf (s:eD) (t:LTerm): CT 119 [cC s,elT t] (.s (oF s t)):=by
 refine bY cU Tryz.func119 g0 ?_
 · skip
   (refine zt2 (aPp s t.text) (aAc s t.sort) ?_; repeat' first | exact trivial | refine zJ ?_ ?_ | refine zH fun hc=>?_)
   all_goals refine bR (congrArg AV.s ?_) rfl
   all_goals simp only [oF, *,if_true,if_false,aG,Int.reduceEq]
   all_goals rfl
theorem mG (b:Bool):b=true∨b=false:=by cases b <;> simp

theorem aGb (l m:List LTerm) (hl:l.length≤1466015503701) (hm:m.length≤1466015503701) (ih:∀ a ∈ l,∀ b ∈ m,CT 24 [elT a,elT b] (.b (decide (a=b)))): CT 64 [avt l,avt m] (.b (decide (l=m))):=by
 refine dN cU Tryz.func64 g0 ?_
 · simp -implicitDefEqProofs (disch:=omega) only [Tryz.f64,go_sem,List.replicate,simprocAttr,avt]
   (refine zs0 ?_; repeat' first | exact trivial | refine zJ ?_ ?_ | refine zH fun hc=>?_)
   · refine bR ?_ (by rfl)
     have:l ≠ m:=fun h=>by rw [h] at hc; exact hc rfl
     rw [zf this]
   refine dB (fun (k:Nat)=>(.k::.k::.k::.k::.j::.j::(rp 7 .k (.v (.i .i64 k)::(rp 13 .j []))))) (fun k=>[]) (fun k=>k≤l.length∧∀ j,j < k→l.getD j default=m.getD j default) (fun k=>l.length - k) (0) ⟨bJ _,fun j h=>by omega⟩ rfl (by simp [gX]) ?_
   rintro k j ⟨hk,ha⟩
   have o:k < l.length→k < m.length→CT 24 [elT (l.getD k default),elT (m.getD k default)] (.b (decide (l.getD k default=m.getD k default))):=fun h h'=>ih _ (cQ h) _ (cQ h')
   refine zg ?_
   (refine zt1 o ?_; repeat' first | exact trivial | refine zJ ?_ ?_ | refine zH fun hc=>?_)
   · refine bR ?_ (by rfl)
     have:l ≠ m:=fun h=>by simp [h] at *
     rw [zf this]
   · exact ⟨k+1,⟨by omega,eC ha (by simpa using hc)⟩,by omega,by simp⟩
   · refine bR ?_ (by rfl)
     have:l=m:=aOv (d:=default) (by omega) (fun j hj=>ha j (by omega))
     rw [zt this]
theorem aFv (l m:List LTerm) (hl:l.length≤1466015503701) (hm:m.length≤1466015503701) (ih:∀ a ∈ l,∀ b ∈ m,CT 69 [elT a,elT b] (.b (decide (a=b)))): CT 129 [avt l,avt m,.fn 69 [] []] (.b (decide (l=m))):=by
 refine dN cU Tryz.func129 g0 ?_
 · simp -implicitDefEqProofs (disch:=omega) only [Tryz.f129,go_sem,List.replicate,simprocAttr,avt]
   (refine zs0 ?_; repeat' first | exact trivial | refine zJ ?_ ?_ | refine zH fun hc=>?_)
   · refine bR ?_ (by rfl)
     have:l ≠ m:=fun h=>by rw [h] at hc; exact hc rfl
     rw [zf this]
   refine lI (fun (k:Nat)=>(rp 6 .k (.j::.j::.j::.j::(rp 7 .k (.v (.i .i64 k)::(rp 14 .j [])))))) (fun k=>[]) (fun k=>k≤l.length∧∀ j,j < k→l.getD j default=m.getD j default) (fun k=>l.length - k) (0) _ ⟨bJ _,fun j h=>by omega⟩ rfl (by simp [gX]) ?_
   rintro k g j ⟨hk,ha⟩
   have o:k < l.length→k < m.length→CT 69 [elT (l.getD k default),elT (m.getD k default)] (.b (decide (l.getD k default=m.getD k default))):=fun h h'=>ih _ (cQ h) _ (cQ h')
   refine zg ?_
   (refine zt1 o ?_; repeat' first | exact trivial | refine zJ ?_ ?_ | refine zH fun hc=>?_)
   · refine bR ?_ (by rfl)
     have:l ≠ m:=fun h=>by simp [h] at *
     rw [zf this]
   · exact ⟨k+1,_,⟨by omega,eC ha (by simpa using hc)⟩,by omega,rfl,by simp⟩
   · refine bR ?_ (by rfl)
     have:l=m:=aOv (d:=default) (by omega) (fun j hj=>ha j (by omega))
     rw [zt this]
def aSv (a b:LTerm):Bool:=decide (a.kind=b.kind) && decide (a.n=b.n) && decide (a.text=b.text) && decide (a.sort=b.sort) && decide (a.kids=b.kids) && decide (a.rest=b.rest)
theorem aEb (a b:LTerm):aSv a b=decide (a=b):=by
 rw [fT]; simp only [aSv,aE,decide_eq_true_eq,LTerm.ext_iff,and_assoc]
theorem aWe (a b:LTerm) (ha:OkT a) (hb:OkT b) (ihk:∀ x ∈ a.kids,∀ y ∈ b.kids,CT 24 [elT x,elT y] (.b (decide (x=y)))) (ihr:∀ x ∈ a.rest,∀ y ∈ b.rest,CT 24 [elT x,elT y] (.b (decide (x=y)))): CT 24 [elT a,elT b] (.b (decide (a=b))):=by
 refine bY cU Tryz.func24 g0 ?_
 · skip
   have h1:=ha.kids
   have h2:=ha.rest
   have h3:=hb.kids
   have h4:=hb.rest
   rw [← aEb]
   (refine zt2 (aGb a.kids b.kids h1 h3 ihk) (aGb a.rest b.rest h2 h4 ihr) ?_; repeat' first | exact trivial | refine zJ ?_ ?_ | refine zH fun hc=>?_)
   all_goals refine bR ?_ rfl
   all_goals simp only [aSv, *,decide_true,decide_false,aO,aP,aX,aM]
theorem aZs (a:LTerm):∀ (b:LTerm),OkT a→OkT b→CT 24 [elT a,elT b] (.b (decide (a=b))):=
 iR (Q:=fun a=>∀ (b:LTerm),OkT a→OkT b→CT 24 [elT a,elT b] (.b (decide (a=b)))) (fun a hk hr b ha hb=>aWe a b ha hb (fun x hx y hy=>hk x hx y (ha.kid x hx) (hb.kid y hy)) (fun x hx y hy=>hr x hx y (ha.rst x hx) (hb.rst y hy))) a
theorem aWa (a b:LTerm) (ha:OkT a) (hb:OkT b) (ihk:∀ x ∈ a.kids,∀ y ∈ b.kids,CT 69 [elT x,elT y] (.b (decide (x=y)))) (ihr:∀ x ∈ a.rest,∀ y ∈ b.rest,CT 69 [elT x,elT y] (.b (decide (x=y)))): CT 69 [elT a,elT b] (.b (decide (a=b))):=by
 refine bY cU Tryz.func69 g0 ?_
 · skip
   have h1:=ha.kids
   have h2:=ha.rest
   have h3:=hb.kids
   have h4:=hb.rest
   rw [← aEb]
   (refine zt2 (aFv a.kids b.kids h1 h3 ihk) (aFv a.rest b.rest h2 h4 ihr) ?_; repeat' first | exact trivial | refine zJ ?_ ?_ | refine zH fun hc=>?_)
   all_goals refine bR ?_ rfl
   all_goals simp only [aSv, *,decide_true,decide_false,aO,aP,aX,aM]
theorem aFx (a:LTerm):∀ (b:LTerm),OkT a→OkT b→CT 69 [elT a,elT b] (.b (decide (a=b))):=
 iR (Q:=fun a=>∀ (b:LTerm),OkT a→OkT b→CT 69 [elT a,elT b] (.b (decide (a=b)))) (fun a hk hr b ha hb=>aWa a b ha hb (fun x hx y hy=>hk x hx y (ha.kid x hx) (hb.kid y hy)) (fun x hx y hy=>hr x hx y (ha.rst x hx) (hb.rst y hy))) a

mutual
def W3:LTerm→LTerm→Int
 | .mk k n t s ks rs,.mk k' n' t' s' ks' rs'=>
   if xJ k k'=0 then (if xJ n n'=0 then (if vN t t'=0 then (if vN s s'=0 then (if ordPL ks ks'=0 then ordPL rs rs' else ordPL ks ks') else vN s s') else vN t t') else xJ n n') else xJ k k'
def ordPL:List LTerm→List LTerm→Int
 | [],[]=>0
 | [],_::_ => -1
 | _::_,[]=>1
 | a::l,b::m=>if W3 a b=0 then ordPL l m else W3 a b
end
theorem aMu (a b:LTerm):W3 a b=if xJ a.kind b.kind=0 then (if xJ a.n b.n=0 then (if vN a.text b.text=0 then (if vN a.sort b.sort=0 then (if ordPL a.kids b.kids=0 then ordPL a.rest b.rest else ordPL a.kids b.kids) else vN a.sort b.sort) else vN a.text b.text) else xJ a.n b.n) else xJ a.kind b.kind:=by
 cases a; cases b; rw [W3]; rfl
theorem aPw {a b:Int} (h:a < b):xJ a b = -1:=if_pos h
theorem aPx {a b:Int} (h:b < a):xJ a b=1:=by rw [xJ,if_neg (by omega),if_pos h]
theorem aPy {a b:Int} (h:a=b):xJ a b=0:=by rw [xJ,if_neg (by omega),if_neg (by omega)]
theorem aEs {l m:List LTerm} {k:Nat} (h:k < l.length) (h':k < m.length):ordPL (l.drop k) (m.drop k)=if W3 (l.getD k default) (m.getD k default)=0 then ordPL (l.drop (k+1)) (m.drop (k+1)) else W3 (l.getD k default) (m.getD k default):=by
 rw [eX h,eX h',ordPL]; simp [List.getD,h,h']
theorem zU {l m:List LTerm} {k:Nat} (h:k=l.length∨k=m.length) (h1:k≤l.length) (h2:k≤m.length):ordPL (l.drop k) (m.drop k)=xJ l.length m.length:=by
 by_cases h3:k < l.length
 · rw [eX h3,dI (l:=m) (by omega),ordPL,aPx (by omega)]
 · by_cases h4:k < m.length
   · rw [eX h4,dI (l:=l) (by omega),ordPL,aPw (by omega)]
   · rw [dI (l:=l) (by omega),dI (l:=m) (by omega),ordPL,aPy (by omega)]
theorem aFw (l m:List LTerm) (hl:l.length≤1466015503701) (hm:m.length≤1466015503701) (ih:∀ a ∈ l,∀ b ∈ m,CT 166 [elT a,elT b] (.i .i64 (W3 a b))): CT 224 [avt l,avt m,.fn 166 [] []] (.i .i64 (ordPL l m)):=by
 refine dN cU Tryz.func224 g0 ?_
 · simp -implicitDefEqProofs (disch:=omega) only [Tryz.f224,go_sem,List.replicate,simprocAttr,avt]
   refine lI (fun (k:Nat)=>(rp 6 .k (rp 5 .j (.k::.k::.v (.i .i64 k)::(rp 20 .j (rp 5 .k [])))))) (fun k=>[]) (fun k=>k≤l.length∧k≤m.length∧ordPL l m=ordPL (l.drop k) (m.drop k)) (fun k=>l.length - k) (0) _ ⟨bJ _,bJ _,rfl⟩ rfl (by simp [gX]) ?_
   rintro k g j ⟨hk,hk2,he⟩
   have o:k < l.length→k < m.length→CT 166 [elT (l.getD k default),elT (m.getD k default)] (.i .i64 (W3 (l.getD k default) (m.getD k default))):=fun h h'=>ih _ (cQ h) _ (cQ h')
   refine zg ?_
   (refine zt1 o ?_; repeat' first | exact trivial | refine zJ ?_ ?_ | refine zH fun hc=>?_)
   · exact bR (congrArg _ (by rw [he,zU (.inr (by omega)) hk hk2,aPx (by omega)])) rfl
   · exact bR (congrArg _ (by rw [he,aEs (by omega) (by omega),if_neg hc])) rfl
   · exact ⟨k+1,_,⟨by omega,by omega,by rw [he,aEs (by omega) (by omega),if_pos hc]⟩,by omega,rfl,by simp⟩
   · exact bR (congrArg _ (by rw [he,zU (.inl (by omega)) hk hk2,aPw (by omega)])) rfl
   · exact bR (congrArg _ (by rw [he,zU (.inl (by omega)) hk hk2,aPy (by omega)])) rfl
theorem aYd (a b:LTerm):(if orI [xJ a.kind b.kind,xJ a.n b.n,vN a.text b.text,vN a.sort b.sort]=0 then orI [ordPL a.kids b.kids,ordPL a.rest b.rest] else orI [xJ a.kind b.kind,xJ a.n b.n,vN a.text b.text,vN a.sort b.sort])=W3 a b:=by
 rw [aMu]
 by_cases h1:xJ a.kind b.kind=0 <;> by_cases h2:xJ a.n b.n=0 <;> by_cases h3:vN a.text b.text=0 <;> by_cases h4:vN a.sort b.sort=0 <;> by_cases h5:ordPL a.kids b.kids=0 <;> by_cases h6:ordPL a.rest b.rest=0 <;> simp only [orI,h1,h2,h3,h4,h5,h6,if_true,if_false]
theorem aWb (a b:LTerm) (ha:OkT a) (hb:OkT b) (ihk:∀ x ∈ a.kids,∀ y ∈ b.kids,CT 166 [elT x,elT y] (.i .i64 (W3 x y))) (ihr:∀ x ∈ a.rest,∀ y ∈ b.rest,CT 166 [elT x,elT y] (.i .i64 (W3 x y))): CT 166 [elT a,elT b] (.i .i64 (W3 a b)):=by
 refine bY cU Tryz.func166 g0 ?_
 · skip
   have e:=aMu a b
   (repeat' (first | refine gT ?_ ?_ | refine gF ?_ ?_ | refine gC ?_ ?_ | ((first | refine cF (bKm a.kind b.kind) ?_ | refine cF (bKl a.n b.n) ?_ | (refine bU (aPn a.text b.text) ?_ ?_; (focus (simp -implicitDefEqProofs (disch:=omega) only [aN,aW,bH,cL,Nat.reduceAdd,zdB,go_sem,simprocAttr]; done))) | (refine bU (aPn a.sort b.sort) ?_ ?_; (focus (simp -implicitDefEqProofs (disch:=omega) only [aN,aW,bH,cL,Nat.reduceAdd,zdB,go_sem,simprocAttr]; done))) | (refine bU (aZp [xJ a.kind b.kind,xJ a.n b.n,vN a.text b.text,vN a.sort b.sort] (by simp)) ?_ ?_; (focus (simp -implicitDefEqProofs (disch:=omega) only [aN,aW,bH,cL,Nat.reduceAdd,zdB,go_sem,simprocAttr]; done))) | (refine bU (aFw a.kids b.kids ha.kids hb.kids ihk) ?_ ?_; (focus (simp -implicitDefEqProofs (disch:=omega) only [aN,aW,bH,cL,Nat.reduceAdd,zdB,go_sem,simprocAttr]; done))) | (refine bU (aFw a.rest b.rest ha.rest hb.rest ihr) ?_ ?_; (focus (simp -implicitDefEqProofs (disch:=omega) only [aN,aW,bH,cL,Nat.reduceAdd,zdB,go_sem,simprocAttr]; done))) | (refine bU (aZp [ordPL a.kids b.kids,ordPL a.rest b.rest] (by simp)) ?_ ?_; (focus (simp -implicitDefEqProofs (disch:=omega) only [aN,aW,bH,cL,Nat.reduceAdd,zdB,go_sem,simprocAttr]; done)))); simp -implicitDefEqProofs (disch:=omega) only [aN,aW,bH,cL,Nat.reduceAdd,go_sem,simprocAttr]) | refine bG (by omega) ?_ | (intro hr; have hc:=hr; (try simp only [zdz] at hc); simp -implicitDefEqProofs (disch:=omega) only [hr,aN,aW,bH,cL,Nat.reduceAdd,go_sem,simprocAttr]; (try clear hr))))
   all_goals refine bR (congrArg _ ?_) rfl
   · rw [← aYd a b,if_neg hc]
   · rw [← aYd a b,if_pos hc]
theorem bKq (a b:LTerm) (ha:OkT a) (hb:OkT b):CT 166 [elT a,elT b] (.i .i64 (W3 a b)):=
 iR (Q:=fun a=>∀ (b:LTerm),OkT a→OkT b→CT 166 [elT a,elT b] (.i .i64 (W3 a b))) (fun a hk hr b ha hb=>aWb a b ha hb (fun x hx y hy=>hk x hx y (ha.kid x hx) (hb.kid y hy)) (fun x hx y hy=>hr x hx y (ha.rst x hx) (hb.rst y hy))) a b ha hb

theorem bCv:fV [95]=false:=by decide
theorem aUa:fV [36]=false:=by decide
theorem bCg {s:Str} (h:M8 s=true):fV s=false:=by
 simp only [M8,cN,decide_eq_true_eq] at h
 rcases h with rfl | rfl <;> decide
theorem aTu (s:Str):fV s=true→¬ s=[95]∧¬ s=[36]:=by
 intro h
 constructor <;> (rintro rfl; revert h; decide)
theorem aPo (t:LTerm) (ht:OkT t) (h6:t.kind=6): CT 193 [elT t] (.b (eG t)):=by
 refine gH (rx:=true) (th:=fun i=>if i=19 then some ⟨some 1,[],false,false,false,[],[],0⟩ else none) cU Tryz.func193 g0 ?_
 · simp -implicitDefEqProofs (disch:=omega) only [Tryz.f193,go_sem,List.replicate,simprocAttr]
   have no1:=aTu t.text
   (refine zy2 (zA2 h6 (zA2 @decide_true @decide_false)) (G2 t.text ht.text) (G2 t.sort ht.sort) ?_; repeat' first | exact trivial | refine zJ ?_ ?_ | refine zH fun hc=>?_)
   all_goals try simp only [P3,P4,rH,rG] at *
   all_goals refine bR ?_ rfl
   all_goals (simp_all [eG,M8,gO,bCv,aUa]; done)
theorem aHu {t:LTerm} {so:Str} (hs:fV so=true) (h1:t.rest.length=1) (h6:(t.rest.getD 0 default).kind=6):(eG (t.rest.getD 0 default) && fV (t.rest.getD 0 default).text && decide ((t.rest.getD 0 default).sort=so))=qU t so:=by
 have h0:t.rest.length ≠ 0:=by omega
 generalize hr:t.rest.getD 0 default=r at *
 have h3:qU t so=(fV r.text && decide (r.sort=so) && gO r false true true false false):=by
   simp only [qU,hr,h1,h6,decide_true,Nat.one_ne_zero,decide_false,cO,aO]
 rw [h3]
 have h4:eG r=(if M8 r.text=true then decide (r.sort=bQz) && gO r false true true false false else fV r.text && fV r.sort && gO r false true true false false):=by
   simp only [eG,h6]; rfl
 rw [h4]
 cases ho:M8 r.text with
 | true=>rw [bCg ho]; simp
 | false=>
   by_cases hq:r.sort=so
   · rw [hq,hs]; cases fV r.text <;> cases gO r false true true false false <;> simp
   · simp [hq]
theorem aZn (t:LTerm) (so:Str) (ht:OkT t) (hso:fV so=true): CT 243 [elT t,.s so] (.b (qU t so)):=by
 refine bY cU Tryz.func243 g0 ?_
 · skip
   have h1:0 < t.rest.length→OkT (t.rest.getD 0 default):=fun h=>ht.rst _ (cQ h)
   have hA:=fun a b=>aHu (t:=t) hso a b
   (repeat' (first | refine gT ?_ ?_ | refine gF ?_ ?_ | refine gC ?_ ?_ | ((first | (refine bU (aPo (t.rest.getD 0 default) (h1 (by omega)) (by assumption)) ?_ ?_; (focus (simp -implicitDefEqProofs (disch:=omega) only [zdB,go_sem,simprocAttr]; done))) | (refine bU (G2 (t.rest.getD 0 default).text (h1 (by omega)).text) ?_ ?_; (focus (simp -implicitDefEqProofs (disch:=omega) only [zdB,go_sem,simprocAttr]; done)))); simp -implicitDefEqProofs (disch:=omega) only [go_sem,simprocAttr]) | refine bG (by omega) ?_ | (intro hr; have hc:=hr; (try simp only [zdz] at hc); simp -implicitDefEqProofs (disch:=omega) only [hr,go_sem,simprocAttr]; (try clear hr))))
   all_goals try simp only [P3,P4] at *
   all_goals refine bR ?_ rfl
   all_goals first
     | (have e:=hA (by assumption) (by assumption); clear hA; rw [← e]; clear e; simp_all only [decide_true,decide_false,aZ,cO,aO,aP,aM,aX]; done)
     | (clear hA; simp_all only [qU,decide_true,decide_false,aZ,cO,aO,aP,aM,aX,Nat.one_ne_zero]; done)
theorem bCs {t:LTerm} (h:t.kind=1):eG t=(qK t.n && gO t true false false false false):=by simp only [eG,h]; rfl
theorem bCr {t:LTerm} (h:t.kind=2):eG t=((decide (t.n=0) || decide (t.n=1)) && gO t true false false false false):=by simp only [eG,h]; rfl
theorem bCq {t:LTerm} (h:t.kind=3):eG t=(A4 t.text && gO t false true false false false):=by simp only [eG,h]; rfl
theorem bCp {t:LTerm} (h:t.kind=4):eG t=(bIi t.text && gO t false true false false false):=by simp only [eG,h]; rfl
theorem bCo {t:LTerm} (h:t.kind=5):eG t=(aMz t.text && decide (t.kids.length≤8) && gO t false true false true false):=by simp only [eG,h]; rfl
theorem bCn {t:LTerm} (h:t.kind=7):eG t=(qU t N6 && gO t false false false true true):=by simp only [eG,h]; rfl
theorem bCm {t:LTerm} (h:t.kind=8):eG t=(qU t aJy && decide (t.kids.length % 2=0) && gO t false false false true true):=by simp only [eG,h]; rfl
theorem bDb {α:Type} {l:List α}:l.length=0↔l=[]:=dV
theorem aVy (t:LTerm) (ht:OkT t) (hk:t.kind=1): CT 193 [elT t] (.b (eG t)):=by
 refine gH (rx:=true) (th:=fun i=>if i=19 then some ⟨some 1,[],false,false,false,[],[],0⟩ else none) cU Tryz.func193 g0 ?_
 · simp -implicitDefEqProofs (disch:=omega) only [Tryz.f193,go_sem,List.replicate,simprocAttr]
   (refine zy1 (zA2 hk (zA2 @decide_true @decide_false)) (aZo t.n) ?_; repeat' first | exact trivial | refine zJ ?_ ?_ | refine zH fun hc=>?_)
   all_goals try simp only [P3,P4,rH,rG,bDb] at *
   all_goals refine bR ?_ rfl
   all_goals rw [bCs hk]
   all_goals clear ht
   all_goals first
     | (simp_all only [gO,qK,decide_true,decide_false,aZ,cO,aO,aP,aM,aX,bB,aH,not_true_eq_false,not_false_eq_true]; done)
     | (simp_all [gO,qK] <;> (intros; omega))
theorem aVx (t:LTerm) (ht:OkT t) (hk:t.kind=2): CT 193 [elT t] (.b (eG t)):=by
 refine gH (rx:=true) (th:=fun i=>if i=19 then some ⟨some 1,[],false,false,false,[],[],0⟩ else none) cU Tryz.func193 g0 ?_
 · simp -implicitDefEqProofs (disch:=omega) only [Tryz.f193,go_sem,List.replicate,simprocAttr]
   (refine zy1 (zA2 hk (zA2 @decide_true @decide_false)) (aZo t.n) ?_; repeat' first | exact trivial | refine zJ ?_ ?_ | refine zH fun hc=>?_)
   all_goals try simp only [P3,P4,rH,rG,bDb] at *
   all_goals refine bR ?_ rfl
   all_goals rw [bCr hk]
   all_goals clear ht
   all_goals first
     | (simp_all only [gO,qK,decide_true,decide_false,aZ,cO,aO,aP,aM,aX,bB,aH,not_true_eq_false,not_false_eq_true]; done)
     | (simp_all [gO,qK] <;> (intros; omega))
theorem aVw (t:LTerm) (ht:OkT t) (hk:t.kind=3): CT 193 [elT t] (.b (eG t)):=by
 refine gH (rx:=true) (th:=fun i=>if i=19 then some ⟨some 1,[],false,false,false,[],[],0⟩ else none) cU Tryz.func193 g0 ?_
 · simp -implicitDefEqProofs (disch:=omega) only [Tryz.f193,go_sem,List.replicate,simprocAttr]
   (refine zy1 (zA2 hk (zA2 @decide_true @decide_false)) (bKp t.text ht.text) ?_; repeat' first | exact trivial | refine zJ ?_ ?_ | refine zH fun hc=>?_)
   all_goals try simp only [P3,P4,rH,rG,bDb] at *
   all_goals refine bR ?_ rfl
   all_goals rw [bCq hk]
   all_goals clear ht
   all_goals first
     | (simp_all only [gO,qK,decide_true,decide_false,aZ,cO,aO,aP,aM,aX,bB,aH,not_true_eq_false,not_false_eq_true]; done)
     | (simp_all [gO,qK] <;> (intros; omega))
theorem aVv (t:LTerm) (ht:OkT t) (hk:t.kind=4): CT 193 [elT t] (.b (eG t)):=by
 refine gH (rx:=true) (th:=fun i=>if i=19 then some ⟨some 1,[],false,false,false,[],[],0⟩ else none) cU Tryz.func193 g0 ?_
 · simp -implicitDefEqProofs (disch:=omega) only [Tryz.f193,go_sem,List.replicate,simprocAttr]
   (refine zy1 (zA2 hk (zA2 @decide_true @decide_false)) (bKj t.text ht.text) ?_; repeat' first | exact trivial | refine zJ ?_ ?_ | refine zH fun hc=>?_)
   all_goals try simp only [P3,P4,rH,rG,bDb] at *
   all_goals refine bR ?_ rfl
   all_goals rw [bCp hk]
   all_goals clear ht
   all_goals first
     | (simp_all only [gO,qK,decide_true,decide_false,aZ,cO,aO,aP,aM,aX,bB,aH,not_true_eq_false,not_false_eq_true]; done)
     | (simp_all [gO,qK] <;> (intros; omega))
theorem aVu (t:LTerm) (ht:OkT t) (hk:t.kind=5): CT 193 [elT t] (.b (eG t)):=by
 refine gH (rx:=true) (th:=fun i=>if i=19 then some ⟨some 1,[],false,false,false,[],[],0⟩ else none) cU Tryz.func193 g0 ?_
 · simp -implicitDefEqProofs (disch:=omega) only [Tryz.f193,go_sem,List.replicate,simprocAttr]
   (refine zy1 (zA2 hk (zA2 @decide_true @decide_false)) (bKi t.text ht.text) ?_; repeat' first | exact trivial | refine zJ ?_ ?_ | refine zH fun hc=>?_)
   all_goals try simp only [P3,P4,rH,rG,bDb] at *
   all_goals refine bR ?_ rfl
   all_goals rw [bCo hk]
   all_goals clear ht
   all_goals first
     | (simp_all only [gO,qK,decide_true,decide_false,aZ,cO,aO,aP,aM,aX,bB,aH,not_true_eq_false,not_false_eq_true]; done)
     | (simp_all [gO,qK] <;> (intros; omega))
theorem aVt (t:LTerm) (ht:OkT t) (hk:t.kind=7): CT 193 [elT t] (.b (eG t)):=by
 refine gH (rx:=true) (th:=fun i=>if i=19 then some ⟨some 1,[],false,false,false,[],[],0⟩ else none) cU Tryz.func193 g0 ?_
 · simp -implicitDefEqProofs (disch:=omega) only [Tryz.f193,go_sem,List.replicate,simprocAttr]
   (refine zy1 (zA2 hk (zA2 @decide_true @decide_false)) (aZn t N6 ht (by decide)) ?_; repeat' first | exact trivial | refine zJ ?_ ?_ | refine zH fun hc=>?_)
   all_goals try simp only [P3,P4,rH,rG,bDb] at *
   all_goals refine bR ?_ rfl
   all_goals rw [bCn hk]
   all_goals clear ht
   all_goals first
     | (simp_all only [gO,qK,decide_true,decide_false,aZ,cO,aO,aP,aM,aX,bB,aH,not_true_eq_false,not_false_eq_true]; done)
     | (simp_all [gO,qK] <;> (intros; omega))
theorem aVs (t:LTerm) (ht:OkT t) (hk:t.kind=8): CT 193 [elT t] (.b (eG t)):=by
 refine gH (rx:=true) (th:=fun i=>if i=19 then some ⟨some 1,[],false,false,false,[],[],0⟩ else none) cU Tryz.func193 g0 ?_
 · simp -implicitDefEqProofs (disch:=omega) only [Tryz.f193,go_sem,List.replicate,simprocAttr]
   (refine zy1 (zA2 hk (zA2 @decide_true @decide_false)) (aZn t aJy ht (by decide)) ?_; repeat' first | exact trivial | refine zJ ?_ ?_ | refine zH fun hc=>?_)
   all_goals try simp only [P3,P4,rH,rG,bDb] at *
   all_goals refine bR ?_ rfl
   all_goals rw [bCm hk]
   all_goals clear ht
   all_goals first
     | (simp_all only [gO,qK,decide_true,decide_false,aZ,cO,aO,aP,aM,aX,bB,aH,not_true_eq_false,not_false_eq_true]; done)
     | (simp_all [gO,qK] <;> (intros; omega))
theorem aVz (t:LTerm) (h1:¬ t.kind=1) (h2:¬ t.kind=2) (h3:¬ t.kind=3) (h4:¬ t.kind=4) (h5:¬ t.kind=5) (h6:¬ t.kind=6) (h7:¬ t.kind=7) (h8:¬ t.kind=8): CT 193 [elT t] (.b (eG t)):=by
 refine gH (rx:=true) (th:=fun i=>if i=19 then some ⟨some 1,[],false,false,false,[],[],0⟩ else none) cU Tryz.func193 g0 ?_
 · simp -implicitDefEqProofs (disch:=omega) only [Tryz.f193,go_sem,List.replicate,simprocAttr]
   have hn:eG t=false:=by simp only [eG,h1,h2,h3,h4,h5,h6,h7,h8,if_false]
   (refine zx0 (zA2 h1 (zA2 h2 (zA2 h3 (zA2 h4 (zA2 h5 (zA2 h6 (zA2 h7 (zA2 h8 (zA2 @decide_true @decide_false))))))))) ?_; repeat' first | exact trivial | refine zJ ?_ ?_ | refine zH fun hc=>?_)
   all_goals exact bR (by rw [hn]) rfl
theorem bKn (t:LTerm) (ht:OkT t):CT 193 [elT t] (.b (eG t)):=by
 by_cases h1:t.kind=1
 · exact aVy t ht h1
 by_cases h2:t.kind=2
 · exact aVx t ht h2
 by_cases h3:t.kind=3
 · exact aVw t ht h3
 by_cases h4:t.kind=4
 · exact aVv t ht h4
 by_cases h5:t.kind=5
 · exact aVu t ht h5
 by_cases h6:t.kind=6
 · exact aPo t ht h6
 by_cases h7:t.kind=7
 · exact aVt t ht h7
 by_cases h8:t.kind=8
 · exact aVs t ht h8
 exact aVz t h1 h2 h3 h4 h5 h6 h7 h8
end Go.Proofs.YtdjcggcjlphdoaaGreatDoor
namespace Go.Vo
section
variable (p:LTerm→Bool)
mutual
def lW:LTerm→Int→Int→Int × Bool
 | .mk k n t s ks rs,d,m=>
   if (decide (d≤60) && decide (m+1≤2000) && p (.mk k n t s ks rs))=true then
     (if (lookL ks (d+1) (m+1)).2=true then ((lookL ks (d+1) (m+1)).1+rs.length,decide (rs.length=0) || (decide (d < 60) && decide ((lookL ks (d+1) (m+1)).1+rs.length≤2000))) else ((lookL ks (d+1) (m+1)).1,false))
   else (m+1,false)
def lookL:List LTerm→Int→Int→Int × Bool
 | [],d,m=>(m,true)
 | k::l,d,m=>if (lW k d m).2=true then lookL l d (lW k d m).1 else ((lW k d m).1,false)
end
mutual
def wfT:LTerm→Bool
 | .mk k n t s ks rs=>p (.mk k n t s ks rs) && wfL ks
def wfL:List LTerm→Bool
 | []=>true
 | k::l=>wfT k && wfL l
end
end
mutual
def nodesT:LTerm→Nat
 | .mk k n t s ks rs=>1+rs.length+nodesL ks
def nodesL:List LTerm→Nat
 | []=>0
 | k::l=>nodesT k+nodesL l
end
mutual
def highT:LTerm→Nat
 | .mk k n t s ks rs=>1+max rs.length (highL ks)
def highL:List LTerm→Nat
 | []=>0
 | k::l=>max (highT k) (highL l)
end
section
variable {p:LTerm→Bool}
mutual
theorem wD (hp:∀ t,p t=true→t.rest.length≤1):∀ (t:LTerm) (d m:Int),((lW p t d m).2=true↔wfT p t=true∧d+highT t≤61∧m+nodesT t≤2000)∧((lW p t d m).2=true→(lW p t d m).1=m+nodesT t)
 | .mk k n t s ks rs,d,m=>by
   rw [lW,wfT,highT,nodesT]
   split
   · rename_i hc
     simp only [aE,decide_eq_true_eq] at hc
     obtain ⟨⟨h1,h2⟩,h3⟩:=hc
     have hr:=hp _ h3
     simp only [LTerm.rest] at hr
     obtain ⟨i1,i2⟩:=lookL_spec hp ks (d+1) (m+1) (by omega) (by omega)
     rw [h3,aO]
     split
     · rename_i hl
       have e:=i2 hl
       obtain ⟨w,w2,w3⟩:=i1.1 hl
       simp only [cN,aE,decide_eq_true_eq,w,true_and,e]
       exact ⟨by omega,fun _=>by omega⟩
     · rename_i hl
       refine ⟨⟨(fun h=>by cases h),fun ⟨a,b,c⟩=>?_⟩,fun h=>by cases h⟩
       exact absurd (i1.2 ⟨a,by omega,by omega⟩) hl
   · rename_i hc
     refine ⟨⟨(fun h=>by cases h),fun ⟨a,b,c⟩=>?_⟩,fun h=>by cases h⟩
     exfalso
     refine hc ?_
     simp only [aE,decide_eq_true_eq] at a ⊢
     exact ⟨⟨by omega,by omega⟩,a.1⟩
theorem lookL_spec (hp:∀ t,p t=true→t.rest.length≤1):∀ (l:List LTerm) (d m:Int),d≤61→m≤2000→((lookL p l d m).2=true↔wfL p l=true∧d+highL l≤61∧m+nodesL l≤2000)∧((lookL p l d m).2=true→(lookL p l d m).1=m+nodesL l)
 | [],d,m,hd,hm=>by
   rw [lookL,wfL,highL,nodesL]
   exact ⟨⟨fun _=>⟨rfl,by omega,by omega⟩,fun _=>rfl⟩,fun _=>by omega⟩
 | k :: l,d,m,hd,hm=>by
   obtain ⟨i1,i2⟩:=wD hp k d m
   rw [lookL,wfL,highL,nodesL]
   split
   · rename_i hk
     have e:=i2 hk
     obtain ⟨w,w2,w3⟩:=i1.1 hk
     obtain ⟨j1,j2⟩:=lookL_spec hp l d (lW p k d m).1 hd (by omega)
     rw [w,aO,j1]
     exact ⟨⟨fun ⟨a,b,c⟩=>⟨a,by omega,by omega⟩,fun ⟨a,b,c⟩=>⟨a,by omega,by omega⟩⟩,fun h=>by have:=j2 (j1.2 h); omega⟩
   · rename_i hk
     refine ⟨⟨(fun h=>by cases h),fun ⟨a,b,c⟩=>?_⟩,fun h=>by cases h⟩
     rw [aE] at a
     exact absurd (i1.2 ⟨a.1,by omega,by omega⟩) hk
end
def kV (p:LTerm→Bool) (t:LTerm):Bool:=wfT p t && decide (highT t≤60) && decide (nodesT t≤2000)
theorem aIi (hp:∀ t,p t=true→t.rest.length≤1) (t:LTerm):(lW p t 1 0).2=kV p t:=by
 rw [fT,(wD hp t 1 0).1,kV]
 simp only [aE,decide_eq_true_eq]
 exact ⟨fun ⟨a,b,c⟩=>⟨⟨a,by omega⟩,by omega⟩,fun ⟨⟨a,b⟩,c⟩=>⟨a,by omega,by omega⟩⟩
end
end Go.Vo
namespace Go.Proofs.YtdjcggcjlphdoaaGreatDoor
open Go Go.Vo
open Nat (reduceAdd reduceSub reduceMul reduceLeDiff reduceLT reduceEqDiff)
open Int (reduceNeg)

theorem aFa (p:LTerm→Bool) (t:LTerm) (d m:Int):lW p t d m=if (decide (d≤60) && decide (m+1≤2000) && p t)=true then (if (lookL p t.kids (d+1) (m+1)).2=true then ((lookL p t.kids (d+1) (m+1)).1+t.rest.length,decide (t.rest.length=0) || (decide (d < 60) && decide ((lookL p t.kids (d+1) (m+1)).1+t.rest.length≤2000))) else ((lookL p t.kids (d+1) (m+1)).1,false)) else (m+1,false):=by
 cases t; rw [lW]; rfl
theorem aUj {p:LTerm→Bool} {l:List LTerm} {k:Nat} {d m:Int} (h:k < l.length):lookL p (l.drop k) d m=if (lW p (l.getD k default) d m).2=true then lookL p (l.drop (k+1)) d (lW p (l.getD k default) d m).1 else ((lW p (l.getD k default) d m).1,false):=by
 rw [eX h,lookL]; simp [List.getD,h]
theorem aUi {p:LTerm→Bool} {t:LTerm} {d m:Int} (hp:∀ t,p t=true→t.rest.length≤1) (hm:0≤m) (h:(lW p t d m).2=true):0≤(lW p t d m).1∧(lW p t d m).1≤2000:=by
 have s:=wD hp t d m
 rw [s.2 h]
 have:=s.1.1 h
 omega
theorem aCm {p:LTerm→Bool} {t:LTerm} {d m:Int} (h:(decide (d≤60) && decide (m+1≤2000) && p t)=false):lW p t d m=(m+1,false):=by
 rw [aFa,if_neg (by rw [h]; simp)]
abbrev aXj (t:LTerm) (d m:Int):AV→List AObj→Prop:=fun r h'=>r=.tup []∧∃ g,h'=.box false [.i .i64 (lW eG t d m).1,.b (lW eG t d m).2]::g
theorem uL {t:LTerm} {d m a:Int} {b:Bool} {h g:List AObj} (e:lW eG t d m=(a,b)) (hh:h=.box false [.i .i64 a,.b b]::g):aXj t d m (.tup []) h:=⟨rfl,g,by rw [e]; exact hh⟩
def yY (d m:Int) (j:Nat):Bool:=decide (j=0) || (decide (d < 60) && decide (m+j≤2000))
@[simp] theorem bNd {d m:Int}:yY d m 0=true:=by simp [yY]
theorem sW {d m:Int} {j:Nat}:yY d m (j+1)=(yY d m j && decide (d < 60) && decide (m+j+1≤2000)):=by
 rw [fT]
 simp only [yY,cN,aE,decide_eq_true_eq]
 omega
theorem bOs (t:LTerm) (d m:Int) (ht:OkT t) (hm0:0≤m) (hm:m≤2000) (hd0:0≤d) (hd:d≤100) (ih:∀ k ∈ t.kids,∀ (d m:Int),0≤m→m≤2000→0≤d→d≤100→ACalls Tryz.prog G0 121 [.ptr 0 0,elT k,.i .i64 d] [.box false [.i .i64 m,.b true]] (aXj k d m)): ACalls Tryz.prog G0 121 [.ptr 0 0,elT t,.i .i64 d] [.box false [.i .i64 m,.b true]] (aXj t d m):=by
 refine kF (rx:=false) (th:=fun _=>none) cU Tryz.func121 ?_
 · simp -implicitDefEqProofs (disch:=omega) only [Tryz.f121,go_sem,List.replicate,simprocAttr]
   have hk1:=ht.kids
   have hr1:=ht.rest
   have c:=bKn t ht
   cases hnb:eG t with
   | false=>
     rw [hnb] at c
     (refine zt1 c ?_; repeat' first | exact trivial | refine zJ ?_ ?_ | refine zH fun hc=>?_)
     all_goals exact uL (aCm (by simp only [hnb,aM])) rfl
   | true=>
   rw [hnb] at c
   (refine zt1 c ?_; repeat' first | exact trivial | refine zJ ?_ ?_ | refine zH fun hc=>?_)
   rotate_left
   · exact uL (aCm (by simp only [*,decide_true,decide_false,aP,aM,aO])) rfl
   · exact uL (aCm (by simp only [*,decide_true,decide_false,aP,aM,aO])) rfl
   have hif:lW eG t d m=_:=aFa eG t d m
   rw [if_pos (by simp only [*,decide_true,eE])] at hif
   refine lI (fun (s:Nat × Int)=>(rp 7 .k (.j::(rp 37 .k (.v (.i .i64 (s.1:Nat))::(rp 14 .j (rp 31 .k []))))))) (fun s=>[.box false [.i .i64 s.2,.b true],.box false (tmC t)]) (fun s=>s.1≤t.kids.length∧lookL eG t.kids (d+1) (m+1)=lookL eG (t.kids.drop s.1) (d+1) s.2∧0≤s.2∧s.2≤2000) (fun s=>t.kids.length - s.1) ((0,m+1)) _ ⟨bJ _,rfl,by dsimp only; omega,by dsimp only; omega⟩ rfl (by simp [gX]) ?_
   rintro ⟨k,m2⟩ g j ⟨hk,hL,hm20,hm2⟩
   dsimp only at hk hL hm20 hm2
   refine zg ?_
   (refine zs0 ?_; repeat' first | exact trivial | refine zJ ?_ ?_ | refine zH fun hc=>?_)
   · have hlt:k < t.kids.length:=by omega
     rw [aUj hlt] at hL
     refine bMa 0 g0 (ih _ (cQ (d:=default) hlt) (d+1) m2 hm20 hm2 (by omega) (by omega)) rfl rfl rfl rfl ?_ ?_
     · simp only [renL,ren,elT,aS,avt,renL_pers _ _ iW,aIv]
     · intro g2
       refine zg ?_
       (refine zs0 ?_; repeat' first | exact trivial | refine zJ ?_ ?_ | refine zH fun hc=>?_)
       · rw [if_neg (by rw [show (lW eG (t.kids.getD k default) (d+1) m2).2=false from hc]; simp)] at hL
         rw [hL,if_neg (by simp)] at hif
         rw [show (lW eG (t.kids.getD k default) (d+1) m2).2=false from hc]
         exact uL hif rfl
       · have e:(lW eG (t.kids.getD k default) (d+1) m2).2=true:=hc
         rw [if_pos e] at hL
         have hle:=aUi wB hm20 e
         rw [e]
         exact ⟨(k+1,(lW eG (t.kids.getD k default) (d+1) m2).1),_,⟨by dsimp only; omega,hL,hle.1,hle.2⟩,by dsimp only; omega,rfl,by simp⟩
   · rw [dI (by omega),lookL] at hL
     rw [hL,if_pos rfl] at hif
     refine dB (fun (i:Nat)=>(rp 63 .k (.v (.i .i64 (i:Nat))::(rp 27 .j [])))) (fun i=>.box false [.i .i64 (m2+(i:Nat)),.b (yY d m2 i)]::.box false (tmC t)::g) (fun i=>i≤t.rest.length) (fun i=>t.rest.length - i) (0) (bJ _) (by simp [avs,avb,avi,avo,eR]) (by simp [gX]) ?_
     rintro i j hi
     refine zg ?_
     (refine zs0 ?_; repeat' first | exact trivial | refine zJ ?_ ?_ | refine zH fun hc=>?_)
     · exact ⟨i+1,by omega,by omega,by rw [sW,show yY d m2 i=true by assumption,Int.natCast_succ,← Int.add_assoc]; simp only [aO,zt hc],by simp⟩
     · exact ⟨i+1,by omega,by omega,by rw [sW,Int.natCast_succ,← Int.add_assoc]; simp only [zf hc,aM,aP],by simp⟩
     · exact ⟨i+1,by omega,by omega,by rw [sW,hc,Int.natCast_succ,← Int.add_assoc]; simp only [aP],by simp⟩
     · have e:i=t.rest.length:=by omega
       exact uL hif (by rw [e]; rfl)
theorem look:∀ (t:LTerm),OkT t→∀ (d m:Int),0≤m→m≤2000→0≤d→d≤100→ACalls Tryz.prog G0 121 [.ptr 0 0,elT t,.i .i64 d] [.box false [.i .i64 m,.b true]] (aXj t d m):=
 iR fun t hk _ ht d m h1 h2 h3 h4=>bOs t d m ht h1 h2 h3 h4 (fun k hmem d m a b c e=>hk k hmem (ht.kid k hmem) d m a b c e)
theorem aFz (t:LTerm) (ht:OkT t): CT 59 [elT t] (.b (kV eG t)):=by
 refine bY cU Tryz.func59 g0 ?_
 · skip
   (refine zs0 ?_; repeat' first | exact trivial | refine zJ ?_ ?_ | refine zH fun hc=>?_)
   refine bMa 1 g0 (look t ht 1 0 (by decide) (by decide) (by decide) (by decide)) rfl rfl rfl rfl ?_ ?_
   · simp only [renL,ren,elT,aS,avt,renL_pers _ _ iW,aIv]
   · intro g2
     refine zg ?_
     (refine zs0 ?_; repeat' first | exact trivial | refine zJ ?_ ?_ | refine zH fun hc=>?_)
     exact bR (by rw [aIi wB]) rfl


def aJo (n:Nat) (f:Nat→Bool):Bool:=(List.range n).all f
theorem D6 {n:Nat} {f:Nat→Bool} (h:∀ j,j < n→f j=true):aJo n f=true:=by
 simp only [aJo,bL,fG]; exact h
theorem sE {n:Nat} {f:Nat→Bool} (j:Nat) (hj:j < n) (h:f j=false):aJo n f=false:=by
 rw [cT]; intro e; simp only [aJo,bL,fG] at e; rw [e j hj] at h; cases h
theorem sD {n:Nat} {f:Nat→Bool}:aJo n f=true↔∀ j,j < n→f j=true:=by
 simp only [aJo,bL,fG]
theorem yH {l:List LTerm} {f:LTerm→Bool} (h:∀ j,j < l.length→f (l.getD j default)=true):l.all f=true:=by
 rw [bL]; intro x hx; obtain ⟨j,hj,rfl⟩:=dU.1 hx; have:=h j hj; simpa [List.getD,hj] using this
theorem aAw {l:List LTerm} {f:LTerm→Bool} (j:Nat) (hj:j < l.length) (h:f (l.getD j default)=false):l.all f=false:=by
 rw [cT]; intro e; rw [bL.1 e _ (cQ hj)] at h; cases h
def aEt (s:eD) (t:LTerm):Bool:=match aYf s t.text with
 | none=>false
 | some o=>decide (o.args.length=t.kids.length) && aJo t.kids.length (fun i=>lZ s (oF s (t.kids.getD i default)) (o.args.getD i []))
def F7 (f:LTerm→LTerm→Int) (t:LTerm) (i:Nat):Bool:=A5 (t.kids.getD (2 * i) default) && (decide (i=0) || decide (f (t.kids.getD (2 * i - 2) default) (t.kids.getD (2 * i) default) < 0))
def Y7 (f:LTerm→LTerm→Int) (t:LTerm):Bool:=aJo ((t.kids.length+1) / 2) (F7 f t)
section
variable {f:LTerm→LTerm→Int} {t:LTerm} {i:Nat}
theorem aNy (h:A5 (t.kids.getD (2 * i) default)=false):F7 f t i=false:=by rw [F7,h,aP]
theorem aUo (h:0 < ((2 * i:Nat):Int)) (h2:0≤f (t.kids.getD (2 * i - 2) default) (t.kids.getD (2 * i) default)):F7 f t i=false:=by
 rw [F7,zf (by omega:¬ i=0),zf (by omega:¬ f (t.kids.getD (2 * i - 2) default) (t.kids.getD (2 * i) default) < 0),cO,aM]
theorem aNx (h:A5 (t.kids.getD (2 * i) default)=true) (h2:¬ 0≤f (t.kids.getD (2 * i - 2) default) (t.kids.getD (2 * i) default)):F7 f t i=true:=by
 rw [F7,h,zt (by omega:f (t.kids.getD (2 * i - 2) default) (t.kids.getD (2 * i) default) < 0),bB]; rfl
theorem bDi (h:A5 (t.kids.getD (2 * i) default)=true) (h2:¬ 0 < ((2 * i:Nat):Int)):F7 f t i=true:=by
 rw [F7,h,zt (by omega:i=0)]; rfl
end
mutual
def qW (s:eD):LTerm→Bool
 | .mk k n x so ks rs => !decide (k=6) && decide (rs=[]) && plainPL s ks && (if k=5 then aEt s (.mk k n x so ks rs) else if k=8 then Y7 W3 (.mk k n x so ks rs) else true)
def plainPL (s:eD):List LTerm→Bool
 | []=>true
 | k::l=>qW s k && plainPL s l
end
theorem H9 {s:eD}:∀ l,plainPL s l=l.all (qW s)
 | []=>rfl
 | k::l=>by rw [plainPL,H9 l]; rfl
theorem V0 (s:eD) (t:LTerm):qW s t=(!decide (t.kind=6) && decide (t.rest=[]) && t.kids.all (qW s) && (if t.kind=5 then aEt s t else if t.kind=8 then Y7 W3 t else true)):=by
 cases t; rw [qW,H9]; rfl
theorem aWc (s:eD) (t:LTerm) (hs:Small s) (ht:OkT t) (ih:∀ k ∈ t.kids,CT 102 [cC s,elT k] (.b (qW s k))): CT 102 [cC s,elT t] (.b (qW s t)):=by
 refine bY cU Tryz.func102 g0 ?_
 · skip
   have e:=V0 s t
   have hk1:=ht.kids
   by_cases h6:t.kind=6
   · rw [zt h6,aB,aP,aP,aP] at e
     (refine zs0 ?_; repeat' first | exact trivial | refine zJ ?_ ?_ | refine zH fun hc=>?_)
     all_goals first
       | exact bR (by rw [e]) rfl
       | (exfalso; omega)
   by_cases hr:¬ t.rest=[]
   · rw [zf hr,aM,aP,aP] at e
     have hr2:¬ t.rest.length=0:=fun h=>hr (dV.1 h)
     (refine zs0 ?_; repeat' first | exact trivial | refine zJ ?_ ?_ | refine zH fun hc=>?_)
     all_goals first
       | exact bR (by rw [e]) rfl
       | (exfalso; omega)
   have hr:t.rest=[]:=Classical.not_not.1 hr
   have hr2:t.rest.length=0:=by rw [hr]; rfl
   rw [zf h6,zt hr,aD,aO,aO] at e
   (refine zs0 ?_; repeat' first | exact trivial | refine zJ ?_ ?_ | refine zH fun hc=>?_)
   · exfalso; omega
   refine lI (fun (k:Nat)=>(.k::.k::.k::.k::.j::.k::.j::(rp 17 .k (.v (.i .i64 (k:Nat))::(rp 8 .j (rp 77 .k [])))))) (fun k=>[.box false (tmC t)]) (fun k=>k≤t.kids.length∧∀ j,j < k→qW s (t.kids.getD j default)=true) (fun k=>t.kids.length - k) (0) _ ⟨bJ _,fun j h=>by omega⟩ rfl (by simp [gX]) ?_
   rintro k g j ⟨hk,ha⟩
   have o:k < t.kids.length→CT 102 [cC s,elT (t.kids.getD k default)] (.b (qW s (t.kids.getD k default))):=fun h=>ih _ (cQ h)
   refine zg ?_
   (refine zt1 o ?_; repeat' first | exact trivial | refine zJ ?_ ?_ | refine zH fun hc=>?_)
   · exact bR (by rw [e,aAw k (by omega) hc,aP]) rfl
   · exact ⟨k+1,_,⟨by omega,eC ha hc⟩,by omega,rfl,by simp⟩
   · rw [yH (fun j hj=>ha j (by omega)),aO,if_pos hc] at e
     have c1:=bJj s t.text
     cases h1:aYf s t.text with
     | none=>
       rw [h1] at c1
       simp only [aEt,h1] at e
       (repeat' (first | refine gT ?_ ?_ | refine gF ?_ ?_ | refine gC ?_ ?_ | ((refine bU (c1) ?_ ?_; (focus (simp -implicitDefEqProofs (disch:=omega) only [qI,cC,zdB,go_sem,simprocAttr]; done))); simp -implicitDefEqProofs (disch:=omega) only [qI,cC,go_sem,simprocAttr]) | refine bG (by omega) ?_ | (intro hr; have hc:=hr; (try simp only [zdz] at hc); simp -implicitDefEqProofs (disch:=omega) only [hr,qI,cC,go_sem,simprocAttr]; (try clear hr))))
       all_goals exact bR (by rw [e]) rfl
     | some q=>
       rw [h1] at c1
       simp only [aEt,h1] at e
       (repeat' (first | refine gT ?_ ?_ | refine gF ?_ ?_ | refine gC ?_ ?_ | ((refine bU (c1) ?_ ?_; (focus (simp -implicitDefEqProofs (disch:=omega) only [qI,cC,zdB,go_sem,simprocAttr]; done))); simp -implicitDefEqProofs (disch:=omega) only [qI,cC,go_sem,simprocAttr]) | refine bG (by omega) ?_ | (intro hr; have hc:=hr; (try simp only [zdz] at hc); simp -implicitDefEqProofs (disch:=omega) only [hr,qI,cC,go_sem,simprocAttr]; (try clear hr))))
       · have hn:¬ q.args.length=t.kids.length:=by omega
         rw [zf hn,aP] at e
         exact bR (by rw [e]) rfl
       have hn:q.args.length=t.kids.length:=by omega
       rw [zt hn,aO] at e
       refine lI (fun (k:Nat)=>(.k::.k::.k::.k::.j::.k::.k::.k::.k::.j::.j::(rp 47 .k (.v (.i .i64 (k:Nat))::(rp 16 .j (rp 35 .k [])))))) (fun k=>(.box false (tmC t)::(g++[.box false (eR q)]))) (fun k=>k≤t.kids.length∧∀ j,j < k→lZ s (oF s (t.kids.getD j default)) (q.args.getD j [])=true) (fun k=>t.kids.length - k) (0) [] ⟨bJ _,fun j h=>by omega⟩ (by simp [avs,avb,avi,avo,eR,dD]) (by simp [gX]) ?_
       rintro kk g2 j2 ⟨hkk,ha2⟩
       refine zg ?_
       (refine zt2 (aAf s (t.kids.getD kk default)) (aIw s (oF s (t.kids.getD kk default)) (q.args.getD kk []) hs) ?_; repeat' first | exact trivial | refine zJ ?_ ?_ | refine zH fun hc=>?_)
       · exact bR (by rw [e,sE kk (by omega) hc]) rfl
       · exact ⟨kk+1,_,⟨by omega,eC ha2 hc⟩,by omega,rfl,by simp⟩
       · exact bR (by rw [e,D6 (fun j hj=>ha2 j (by omega))]) rfl
   · rw [yH (fun j hj=>ha j (by omega)),aO,if_neg (by assumption),if_pos hc] at e
     refine dB (fun (i:Nat)=>(.k::.k::.k::.k::.j::(rp 6 .k (.v (.i .i64 ((2 * i:Nat):Int))::(rp 65 .k (rp 33 .j [])))))) (fun i=>(.box false (tmC t)::g)) (fun i=>2 * i≤t.kids.length+1∧∀ j,j < i→F7 W3 t j=true) (fun i=>t.kids.length+1 - 2 * i) (0) ⟨bJ _,fun j h=>by omega⟩ rfl (by simp [gX]) ?_
     rintro i j2 ⟨hi,ha2⟩
     have h0:(((2 * i:Nat):Int) - 2).toNat=2 * i - 2:=by omega
     have o1:2 * i < t.kids.length→OkT (t.kids.getD (2 * i) default):=fun h=>ht.kid _ (cQ h)
     have o2:2 * i < t.kids.length→OkT (t.kids.getD (2 * i - 2) default):=fun h=>ht.kid _ (cQ (by omega))
     refine zh h0 ?_
     (repeat' (first | refine gT ?_ ?_ | refine gF ?_ ?_ | refine gC ?_ ?_ | ((first | refine cF (aPq (t.kids.getD (2 * i) default)) ?_ | refine cF (bKq (t.kids.getD (2 * i - 2) default) (t.kids.getD (2 * i) default) (o2 (by omega)) (o1 (by omega))) ?_); simp -implicitDefEqProofs (disch:=omega) only [h0,go_sem,simprocAttr]) | refine bG (by omega) ?_ | (intro hr; have hc:=hr; (try simp only [zdz] at hc); simp -implicitDefEqProofs (disch:=omega) only [hr,h0,go_sem,simprocAttr]; (try clear hr))))
     · exact bR (by rw [e,Y7,sE i (by omega) (aUo (by assumption) hc)]) rfl
     · exact ⟨i+1,⟨by omega,eC ha2 (aNx (by assumption) hc)⟩,by omega,by rw [show ((2 * (i+1):Nat):Int)=((2 * i:Nat):Int)+2 by omega]⟩
     · exact ⟨i+1,⟨by omega,eC ha2 (bDi (by assumption) hc)⟩,by omega,by rw [show ((2 * (i+1):Nat):Int)=((2 * i:Nat):Int)+2 by omega]⟩
     · exact bR (by rw [e,Y7,sE i (by omega) (aNy hc)]) rfl
     · exact bR (by rw [e,Y7,D6 (fun j hj=>ha2 j (by omega))]) rfl
   · rw [yH (fun j hj=>ha j (by omega)),aO,if_neg (by assumption),if_neg (by assumption)] at e
     exact bR (by rw [e]) rfl
   · exfalso; omega
theorem bKt (s:eD) (hs:Small s):∀ (t:LTerm),OkT t→CT 102 [cC s,elT t] (.b (qW s t)):=
 iR fun t hk _ ht=>aWc s t hs ht (fun k hm=>hk k hm (ht.kid k hm))

theorem aPu {a b:Str}:vN a b=0↔a=b:=by
 constructor
 · intro h
   by_cases h1:a < b
   · rw [aCy h1] at h; cases h
   · by_cases h2:a=b
     · exact h2
     · rw [aCz h1 h2] at h; cases h
 · exact aDa
structure ZN (t:LTerm):Prop where
 a:t.kind=1∨t.kind=2→t.text=[]∧t.sort=[]∧t.kids=[]∧t.rest=[]
 b:t.kind=3∨t.kind=4→t.n=0∧t.sort=[]∧t.kids=[]∧t.rest=[]
 c:t.kind=5→t.n=0∧t.sort=[]∧t.rest=[]
 d:t.kind=6→t.n=0∧t.kids=[]∧t.rest=[]
 e:t.kind=7∨t.kind=8→t.n=0∧t.text=[]∧t.sort=[]
 f:1≤t.kind∧t.kind≤8
theorem oZ {t:LTerm} {a b c d e:Bool} (h:gO t a b c d e=true):(a=false→t.n=0)∧(b=false→t.text=[])∧(c=false→t.sort=[])∧(d=false→t.kids=[])∧(e=false→t.rest=[]):=by
 simp only [gO,aE,cN,decide_eq_true_eq] at h
 obtain ⟨⟨⟨⟨h1,h2⟩,h3⟩,h4⟩,h5⟩:=h
 exact ⟨fun h=>h1.resolve_left (by simp [h]),fun h=>h2.resolve_left (by simp [h]),fun h=>h3.resolve_left (by simp [h]),fun h=>h4.resolve_left (by simp [h]),fun h=>h5.resolve_left (by simp [h])⟩
theorem bCl {t:LTerm} (h:eG t=true):ZN t:=by
 have two:∀ {x y:Bool},(x && y)=true→x=true∧y=true:=by simp
 unfold eG at h
 split at h
 · have z:=oZ (two h).2
   exact ⟨fun _=>⟨z.2.1 rfl,z.2.2.1 rfl,z.2.2.2.1 rfl,z.2.2.2.2 rfl⟩,fun _=>by omega,fun _=>by omega,fun _=>by omega,fun _=>by omega,by omega⟩
 split at h
 · have z:=oZ (two h).2
   exact ⟨fun _=>⟨z.2.1 rfl,z.2.2.1 rfl,z.2.2.2.1 rfl,z.2.2.2.2 rfl⟩,fun _=>by omega,fun _=>by omega,fun _=>by omega,fun _=>by omega,by omega⟩
 split at h
 · have z:=oZ (two h).2
   exact ⟨fun _=>by omega,fun _=>⟨z.1 rfl,z.2.2.1 rfl,z.2.2.2.1 rfl,z.2.2.2.2 rfl⟩,fun _=>by omega,fun _=>by omega,fun _=>by omega,by omega⟩
 split at h
 · have z:=oZ (two h).2
   exact ⟨fun _=>by omega,fun _=>⟨z.1 rfl,z.2.2.1 rfl,z.2.2.2.1 rfl,z.2.2.2.2 rfl⟩,fun _=>by omega,fun _=>by omega,fun _=>by omega,by omega⟩
 split at h
 · have z:=oZ (two h).2
   exact ⟨fun _=>by omega,fun _=>by omega,fun _=>⟨z.1 rfl,z.2.2.1 rfl,z.2.2.2.2 rfl⟩,fun _=>by omega,fun _=>by omega,by omega⟩
 split at h
 · have z:gO t false true true false false=true:=by
     split at h
     · exact (two h).2
     · exact (two h).2
   have z:=oZ z
   exact ⟨fun _=>by omega,fun _=>by omega,fun _=>by omega,fun _=>⟨z.1 rfl,z.2.2.2.1 rfl,z.2.2.2.2 rfl⟩,fun _=>by omega,by omega⟩
 split at h
 · have z:=oZ (two h).2
   exact ⟨fun _=>by omega,fun _=>by omega,fun _=>by omega,fun _=>by omega,fun _=>⟨z.1 rfl,z.2.1 rfl,z.2.2.1 rfl⟩,by omega⟩
 split at h
 · have z:=oZ (two h).2
   exact ⟨fun _=>by omega,fun _=>by omega,fun _=>by omega,fun _=>by omega,fun _=>⟨z.1 rfl,z.2.1 rfl,z.2.2.1 rfl⟩,by omega⟩
 · cases h
theorem aLs {t:LTerm} {so:Str} (h:qU t so=true):∀ r ∈ t.rest,ZN r∧r.kids=[]∧r.rest=[]:=by
 intro r hr
 simp only [qU,cN,aE,decide_eq_true_eq] at h
 rcases h with h | ⟨⟨⟨⟨h1,h2⟩,h3⟩,h4⟩,h5⟩
 · rw [dV] at h; rw [h] at hr; cases hr
 · obtain ⟨x,hx⟩:=List.length_eq_one_iff.1 h1
   rw [hx] at hr h2 h5
   simp only [bV] at hr
   subst hr
   simp only [fS] at h2 h5
   have z:=oZ h5
   exact ⟨⟨fun _=>by omega,fun _=>by omega,fun _=>by omega,fun _=>⟨z.1 rfl,z.2.2.2.1 rfl,z.2.2.2.2 rfl⟩,fun _=>by omega,by omega⟩,z.2.2.2.1 rfl,z.2.2.2.2 rfl⟩
theorem W9 {t:LTerm} (h:eG t=true):∀ r ∈ t.rest,ZN r∧r.kids=[]∧r.rest=[]:=by
 have two:∀ {x y:Bool},(x && y)=true→x=true∧y=true:=by simp
 have z:=bCl h
 intro r hr
 have hne:t.rest ≠ []:=fun e=>by rw [e] at hr; cases hr
 have h7:t.kind=7∨t.kind=8:=by
   rcases z.f with ⟨f1,f2⟩
   by_cases h1:t.kind=1∨t.kind=2
   · exact absurd (z.a h1).2.2.2 hne
   by_cases h3:t.kind=3∨t.kind=4
   · exact absurd (z.b h3).2.2.2 hne
   by_cases h5:t.kind=5
   · exact absurd (z.c h5).2.2 hne
   by_cases h6:t.kind=6
   · exact absurd (z.d h6).2.2 hne
   omega
 unfold eG at h
 rw [if_neg (by omega),if_neg (by omega),if_neg (by omega),if_neg (by omega),if_neg (by omega),if_neg (by omega)] at h
 split at h
 · exact aLs (two h).1 r hr
 · split at h
   · exact aLs (two (two h).1).1 r hr
   · cases h
theorem kS {p:LTerm→Bool} {t:LTerm}:wfT p t=true↔p t=true∧∀ k ∈ t.kids,wfT p k=true:=by
 have hl:∀ l:List LTerm,wfL p l=true↔∀ k ∈ l,wfT p k=true:=by
   intro l
   induction l with
   | nil=>simp [wfL]
   | cons a l ih=>simp [wfL,ih]
 cases t
 rw [wfT,aE,hl]; rfl
theorem aPv (a:Str):vN a a=0:=aDa rfl
theorem aWf {a b:Str}:vN a b < 0↔a < b:=by
 by_cases h1:a < b
 · rw [aCy h1]; simp [h1]
 · by_cases h2:a=b
   · subst h2; rw [aPv]; simp [h1]
   · rw [aCz h1 h2]; simp [h1]

def jH (s:eD) (t:LTerm):Bool:=kV eG t && qW s t
theorem aPr (s:eD) (t:LTerm) (hs:Small s) (ht:OkT t): CT 47 [cC s,elT t] (.b (jH s t)):=by
 refine bY cU Tryz.func47 g0 ?_
 · skip
   (refine zt2 (aFz t ht) (bKt s hs t ht) ?_; repeat' first | exact trivial | refine zJ ?_ ?_ | refine zH fun hc=>?_)
   all_goals refine bR ?_ rfl
   all_goals simp only [jH, *,aO,aP]
theorem tQ {t:LTerm} (h:kV eG t=true):wfT eG t=true:=by
 simp only [kV,aE] at h; exact h.1.1

theorem aYc {H g:List AObj} {out:AV} {l:List LTerm} (h:gW 6 0 g out (l.flatMap aV) l.length) (hH:H=g):Rd6 H out l:=by
 subst hH
 rcases h with ⟨rfl,hn,h0⟩ | ⟨i,rfl,hi,hl⟩
 · exact .inl ⟨rfl,dV.1 (by omega)⟩
 · refine .inr (.inr ⟨i+0,0,_,_,_,rfl,(by simpa using hi),by omega,?_⟩)
   rw [bC,bD (by omega)]
theorem aYw {H:List AObj} {v:AV} {l:List LTerm} (r:Rd6 H v l):Fin H v (.sl (l.flatMap aV) l.length):=by
 have e:=bBj r
 have e1:nE H v (.sl (l.flatMap aV) l.length):=e.1
 have e2:cV v (.sl (l.flatMap aV) l.length)=[]:=e.2
 exact .inr ⟨e1,by rw [e2]; exact fJ,by rw [e2]; simp⟩
theorem aHi {l:List LTerm} {k:Nat} (h:k < l.length):(l.take (k+1)).flatMap aV=(l.take k).flatMap aV++aV (l.getD k default):=by
 rw [eN (d:=default) h,List.flatMap_append]; simp
theorem nW {α:Type} {l:List α}:(List.replicate 1 l).flatten=l:=by simp
theorem aFy (l:List LTerm) (hl:l.length≤1466015503701) (ih:∀ t ∈ l,CT 60 [elT t] (elT t)): CT 122 [avt l] (avt l):=by
 refine dN cU Tryz.func122 g0 ?_
 · simp -implicitDefEqProofs (disch:=omega) only [Tryz.f122,go_sem,List.replicate,↓reduceIte,reduceAdd,reduceSub,reduceMul,reduceLeDiff,reduceLT,reduceEqDiff,reduceNeg,Nat.reduceBEq,avt]
   refine dB (fun (s:Nat × AV × List AObj)=>(.k::.k::.k::.v (s.2.1)::.k::.j::.k::.k::.v (.i .i64 (s.1:Nat))::(rp 9 .j [.k]))) (fun s=>s.2.2) (fun s=>s.1≤l.length∧gW 6 0 s.2.2 s.2.1 ((l.take s.1).flatMap aV) s.1) (fun s=>l.length - s.1) ((0,.e0,[])) ⟨bJ _,iI⟩ rfl (by simp [gX]) ?_
   rintro ⟨k,out,g⟩ j ⟨hk,ho⟩
   dsimp only at hk ho
   have o:k < l.length→CT 60 [elT (l.getD k default)] (elT (l.getD k default)):=fun h=>ih _ (cQ h)
   refine zg ?_
   (repeat' (first | refine gT ?_ ?_ | refine gF ?_ ?_ | refine gC ?_ ?_ | ((refine bU ((o (by omega))) ?_ ?_; (focus (simp -implicitDefEqProofs (disch:=omega) only [nW,zdB,go_sem,↓reduceIte,reduceAdd,reduceSub,reduceMul,reduceLeDiff,reduceLT,reduceEqDiff,reduceNeg,Nat.reduceBEq]; done))); simp -implicitDefEqProofs (disch:=omega) only [nW,go_sem,↓reduceIte,reduceAdd,reduceSub,reduceMul,reduceLeDiff,reduceLT,reduceEqDiff,reduceNeg,Nat.reduceBEq]) | refine bG (by omega) ?_ | (intro hr; have hc:=hr; (try simp only [zdz] at hc); simp -implicitDefEqProofs (disch:=omega) only [hr,nW,go_sem,↓reduceIte,reduceAdd,reduceSub,reduceMul,reduceLeDiff,reduceLT,reduceEqDiff,reduceNeg,Nat.reduceBEq]; (try clear hr))))
   · refine eK (pre:=[]) (g:=g++[.box false (tmC (l.getD k default))]) (more:=[.arr false 6 ((tmC (l.getD k default)))]) (news:=(tmC (l.getD k default))) (m:=1) ((ho).more _) rfl (by simp -implicitDefEqProofs (disch:=omega) only [go_sem,↓reduceIte,reduceAdd,reduceSub,reduceMul,reduceLeDiff,reduceLT,reduceEqDiff,reduceNeg,Nat.reduceBEq]) aZb aXm aXq aZx rfl (by decide) (by simp -implicitDefEqProofs (disch:=omega) only [go_sem,↓reduceIte,reduceAdd,reduceSub,reduceMul,reduceLeDiff,reduceLT,reduceEqDiff,reduceNeg,Nat.reduceBEq]) (by simp -implicitDefEqProofs (disch:=omega) only [go_sem,↓reduceIte,reduceAdd,reduceSub,reduceMul,reduceLeDiff,reduceLT,reduceEqDiff,reduceNeg,Nat.reduceBEq]) ⟨by omega,by omega⟩ ?_
     intro out' g' ho' _
     refine zg ?_
     refine ⟨(k+1,out',g'),⟨by dsimp only; omega,?_⟩,by dsimp only; omega,rfl,by simp⟩
     dsimp only
     rw [aHi (by omega),aS]
     exact ho'
   · have h1:k=l.length:=by omega
     subst h1
     rw [gY] at ho
     exact aYw (aYc ho rfl)
theorem aWd (t:LTerm) (ihk:CT 122 [avt t.kids] (avt t.kids)) (ihr:CT 122 [avt t.rest] (avt t.rest)): CT 60 [elT t] (elT t):=by
 refine bY cU Tryz.func60 g0 ?_
 · skip
   (refine zt2 ihk ihr ?_; repeat' first | exact trivial | refine zJ ?_ ?_ | refine zH fun hc=>?_)
   all_goals exact bR rfl (by simp only [pers,persL,iW,eE])
theorem aZq:∀ (t:LTerm),OkT t→CT 60 [elT t] (elT t):=
 iR fun t hk hr ht=>aWd t (aFy t.kids ht.kids fun x hx=>hk x hx (ht.kid x hx)) (aFy t.rest ht.rest fun x hx=>hr x hx (ht.rst x hx))
end Go.Proofs.YtdjcggcjlphdoaaGreatDoor
