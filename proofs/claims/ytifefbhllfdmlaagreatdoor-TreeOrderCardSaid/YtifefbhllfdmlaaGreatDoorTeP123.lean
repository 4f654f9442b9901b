/-
  How terms are measured: plain laws; no condition beyond those that each theorem names.
-/
import Derived.Test.YtifefbhllfdmlaaGreatDoorTeP122
import Derived.Test.YtifefbhllfdmlaaGreatDoorSoP123
import Derived.Test.YtifefbhllfdmlaaGreatDoorTeP121
import Derived.Test.YtifefbhllfdmlaaGreatDoorVoP125
set_option maxRecDepth 100000
set_option linter.unusedSimpArgs false
set_option linter.unusedVariables false
set_option maxHeartbeats 4000000
namespace Go.Proofs.YtifefbhllfdmlaaGreatDoor
open Go Go.Vo
open Nat (reduceAdd reduceSub reduceMul reduceLeDiff reduceLT reduceEqDiff)
open Int (reduceNeg)

def tH:Str:=[73,110,116]
def U7:Str:=[66,111,111,108]
def aEp:Str:=[84,101,120,116]
def idS:Str:=[73,100]
def bBn (s:Str):List Str:=if s=[97,100,100] then [tH,tH] else if s=[115,117,98] then [tH,tH] else if s=[109,117,108] then [tH,tH] else if s=[100,105,118] then [tH,tH] else if s=[109,111,100] then [tH,tH] else if s=[108,116] then [tH,tH] else if s=[108,101] then [tH,tH] else if s=[103,116] then [tH,tH] else if s=[103,101] then [tH,tH] else if s=[110,101,103] then [tH] else if s=[116,101,120,116] then [tH] else if s=[101,113] then [C3,C3] else if s=[110,101] then [C3,C3] else if s=[97,110,100] then [U7,U7] else if s=[111,114] then [U7,U7] else if s=[110,111,116] then [U7] else if s=[112,105,99,107] then [U7,C3,C3] else if s=[99,97,116] then [aEp,aEp] else if s=[108,101,110,103,116,104] then [I2] else if s=[106,111,105,110] then [I2,I2] else if s=[103,101,116] then [aHc,C3] else if s=[104,97,115] then [aHc,C3] else if s=[100,101,108] then [aHc,C3] else if s=[112,117,116] then [aHc,C3,C3] else if s=[107,101,121,115] then [aHc] else if s=[115,105,122,101] then [aHc] else if s=[105,115] then [C3,aEp] else [C3]
def X7 (s:Str):Str:=if s=[97,100,100] then tH else if s=[115,117,98] then tH else if s=[109,117,108] then tH else if s=[100,105,118] then tH else if s=[109,111,100] then tH else if s=[110,101,103] then tH else if s=[108,101,110,103,116,104] then tH else if s=[115,105,122,101] then tH else if s=[99,97,116] then aEp else if s=[116,101,120,116] then aEp else if s=[106,111,105,110] then I2 else if s=[107,101,121,115] then I2 else if s=[112,117,116] then aHc else if s=[100,101,108] then aHc else if s=[112,105,99,107] then C3 else if s=[103,101,116] then C3 else U7
def strs:List AV→List Str
 | .s x::l=>x::strs l
 | _=>[]
theorem aIp {H:List AObj} {i:Nat} {fz t:Bool} {l:List Str} (h1:H[i]? = some (.arr fz 1 (l.map .s))):avs l=fU dep H (.hs i 0 l.length t):=by
 simp only [fS,pers,qX,h1,aH,if_false,cZ,Nat.mul_one,fM,aX,if_true,dX]
 rw [aJ (by simp)]
 simp only [kY,if_true,avs]
theorem aCy {H:List AObj} {i n:Nat} {cells:List AV} {fz t:Bool} {l:List Str} (h1:H[i]? = some (.arr fz 1 cells)) (hl:l=strs cells) (hc:(strs cells).map .s=cells) (hn:n=(strs cells).length):Fin H (.hs i 0 n t) (avs l):=by
 rw [← hl] at hc hn
 rw [← hc] at h1
 subst hn
 exact .inr ⟨aIp h1,by simp [cD,avs],by simp [cD,avs]⟩
theorem bGq (s:Str): CT 253 [.s s] (avs (bBn s)):=by
 refine aQ mixed Tryz.func253 g0 ?_
 · skip
   (refine zs0 ?_; repeat' first | exact trivial | refine zJ ?_ ?_ | refine zH fun hc=>?_)
   all_goals first
     | (subst hc; exact aCy rfl (by decide +kernel) rfl rfl)
     | (simp only [bBn, *,if_false]; exact aCy rfl rfl rfl rfl)
theorem bGp (s:Str): CT 254 [.s s] (.s (X7 s)):=by
 refine aQ mixed Tryz.func254 g0 ?_
 · skip
   (refine zs0 ?_; repeat' first | exact trivial | refine zJ ?_ ?_ | refine zH fun hc=>?_)
   all_goals first
     | (subst hc; exact aP (congrArg AV.s (by decide +kernel)) rfl)
     | (simp only [X7, *,if_false]; exact aP rfl rfl)
def zI (x:Str):Option LOp:=if oP.contains x then some ⟨x,bBn x,X7 x,[],0,0,[]⟩ else none
theorem qS {H:List AObj} {o o':LOp} {a b a' b':Bool} (h:(o',a',b')=(o,a,b)):Fin H (.tup [.agg [.s o.name,.sl (o.args.map .s) o.args.length,.s o.sort,.sl (o.pieces.flatMap dP) o.pieces.length,.i .i64 o.prec,.i .i64 o.assoc,.sl (o.strict.map (.i .i64)) o.strict.length],.b a,.b b]) (.tup [.agg [.s o'.name,.sl (o'.args.map .s) o'.args.length,.s o'.sort,.sl (o'.pieces.flatMap dP) o'.pieces.length,.i .i64 o'.prec,.i .i64 o'.assoc,.sl (o'.strict.map (.i .i64)) o'.strict.length],.b a',.b b']):=by
 injection h with h1 h2; injection h2 with h2 h3
 subst h1 h2 h3
 exact aP rfl (by simp only [pers,persL,kY,jE,fX,dV])
theorem aLy {H:List AObj} {x r:Str} {l:List Str}:Fin H (.tup [.agg [.s x,.sl (l.map .s) l.length,.s r,.e0,.i .i64 0,.i .i64 0,.e0],.b true]) (.tup [elO ⟨x,l,r,[],0,0,[]⟩,.b true]):=
 .inr ⟨⟨⟨rfl,by show _=fU dep H _; simp only [fS,pers,kY,if_true]; rfl,rfl,rfl,rfl,rfl,rfl,trivial⟩,rfl,trivial⟩,by simp [elO,dA,cD,finIdsL,avs,avb,avi],by simp [elO,dA,cD,finIdsL,avs,avb,avi]⟩
theorem bGt (x:Str): CT 226 [.s x] (oY (zI x)):=by
 refine aQ mixed Tryz.func226 g0 ?_
 · skip
   (refine zt3 (bAt x) (bGq x) (bGp x) ?_; repeat' first | exact trivial | refine zJ ?_ ?_ | refine zH fun hc=>?_)
   · rw [zI,if_neg (by rw [hc]; simp)]
     exact aLw
   · rw [zI,if_pos hc]
     exact aLy
def mX (s:dF) (x:Str):LOp × Bool × Bool:=match aVj s x with
 | some o=>(o,false,true)
 | none=>match aFy s x with
   | some o=>(o,true,true)
   | none=>match zI x with
     | some o=>(o,true,true)
     | none=>(default,true,false)
theorem aMo (s:dF) (x:Str): CT 185 [cU s,.s x] (.tup [elO (mX s x).1,.b (mX s x).2.1,.b (mX s x).2.2]):=by
 refine aQ mixed Tryz.func185 g0 ?_
 · skip
   have c1:=bFc s x
   have c2:=bMc s x
   have c3:=bGt x
   cases h1:aVj s x with
   | some o=>
     rw [h1] at c1
     (repeat' (first | refine gT ?_ ?_ | refine gF ?_ ?_ | refine gC ?_ ?_ | ((refine bI (c1) ?_ ?_; (focus (simp -implicitDefEqProofs (disch:=omega) only [oY,zdB,go_sem,simprocAttr]; done))); simp -implicitDefEqProofs (disch:=omega) only [oY,go_sem,simprocAttr]) | refine bM (by omega) ?_ | (intro hr; have hc:=hr; (try simp only [zdz] at hc); simp -implicitDefEqProofs (disch:=omega) only [hr,oY,go_sem,simprocAttr]; (try clear hr))))
     exact qS (by simp only [mX,h1])
   | none=>
   rw [h1] at c1
   cases h2:aFy s x with
   | some o=>
     rw [h2] at c2
     (repeat' (first | refine gT ?_ ?_ | refine gF ?_ ?_ | refine gC ?_ ?_ | ((first | (refine bI (c1) ?_ ?_; (focus (simp -implicitDefEqProofs (disch:=omega) only [oY,zdB,go_sem,simprocAttr]; done))) | (refine bI (c2) ?_ ?_; (focus (simp -implicitDefEqProofs (disch:=omega) only [oY,zdB,go_sem,simprocAttr]; done)))); simp -implicitDefEqProofs (disch:=omega) only [oY,go_sem,simprocAttr]) | refine bM (by omega) ?_ | (intro hr; have hc:=hr; (try simp only [zdz] at hc); simp -implicitDefEqProofs (disch:=omega) only [hr,oY,go_sem,simprocAttr]; (try clear hr))))
     exact qS (by simp only [mX,h1,h2])
   | none=>
   rw [h2] at c2
   cases h3:zI x with
   | some o=>
     rw [h3] at c3
     (repeat' (first | refine gT ?_ ?_ | refine gF ?_ ?_ | refine gC ?_ ?_ | ((first | (refine bI (c1) ?_ ?_; (focus (simp -implicitDefEqProofs (disch:=omega) only [oY,zdB,go_sem,simprocAttr]; done))) | (refine bI (c2) ?_ ?_; (focus (simp -implicitDefEqProofs (disch:=omega) only [oY,zdB,go_sem,simprocAttr]; done))) | (refine bI (c3) ?_ ?_; (focus (simp -implicitDefEqProofs (disch:=omega) only [oY,zdB,go_sem,simprocAttr]; done)))); simp -implicitDefEqProofs (disch:=omega) only [oY,go_sem,simprocAttr]) | refine bM (by omega) ?_ | (intro hr; have hc:=hr; (try simp only [zdz] at hc); simp -implicitDefEqProofs (disch:=omega) only [hr,oY,go_sem,simprocAttr]; (try clear hr))))
     exact qS (by simp only [mX,h1,h2,h3])
   | none=>
     rw [h3] at c3
     (repeat' (first | refine gT ?_ ?_ | refine gF ?_ ?_ | refine gC ?_ ?_ | ((first | (refine bI (c1) ?_ ?_; (focus (simp -implicitDefEqProofs (disch:=omega) only [oY,zdB,go_sem,simprocAttr]; done))) | (refine bI (c2) ?_ ?_; (focus (simp -implicitDefEqProofs (disch:=omega) only [oY,zdB,go_sem,simprocAttr]; done))) | (refine bI (c3) ?_ ?_; (focus (simp -implicitDefEqProofs (disch:=omega) only [oY,zdB,go_sem,simprocAttr]; done)))); simp -implicitDefEqProofs (disch:=omega) only [oY,go_sem,simprocAttr]) | refine bM (by omega) ?_ | (intro hr; have hc:=hr; (try simp only [zdz] at hc); simp -implicitDefEqProofs (disch:=omega) only [hr,oY,go_sem,simprocAttr]; (try clear hr))))
     exact qS (by simp only [mX,h1,h2,h3])
def B3 (s:dF) (t:LTerm):Str:=if t.kind=1 then tH else if t.kind=2 then U7 else if t.kind=3 then aEp else if t.kind=4 then idS else if t.kind=7 then I2 else if t.kind=8 then aHc else if t.kind=5 then (mX s t.text).1.sort else if iI s t.sort then t.sort else []
theorem aMq (s:dF) (t:LTerm): CT 159 [cU s,elT t] (.s (B3 s t)):=by
 refine aQ mixed Tryz.func159 g0 ?_
 · skip
   (refine zt2 (aMo s t.text) (J1 s t.sort) ?_; repeat' first | exact trivial | refine zJ ?_ ?_ | refine zH fun hc=>?_)
   all_goals refine aP (congrArg AV.s ?_) rfl
   all_goals simp only [B3, *,if_true,if_false,aH,Int.reduceEq]
   all_goals rfl
theorem iC (b:Bool):b=true∨b=false:=by cases b <;> simp

theorem aDj (l m:List LTerm) (hl:l.length≤1466015503701) (hm:m.length≤1466015503701) (ih:∀ a ∈ l,∀ b ∈ m,CT 154 [elT a,elT b] (.b (decide (a=b)))): CT 200 [avt l,avt m,.fn 154 [] []] (.b (decide (l=m))):=by
 refine cX mixed Tryz.func200 g0 ?_
 · simp -implicitDefEqProofs (disch:=omega) only [Tryz.f200,go_sem,List.replicate,simprocAttr,avt]
   (refine zs0 ?_; repeat' first | exact trivial | refine zJ ?_ ?_ | refine zH fun hc=>?_)
   · refine aP ?_ (by rfl)
     have:l ≠ m:=fun h=>by rw [h] at hc; exact hc rfl
     rw [zf this]
   refine jW (fun (k:Nat)=>[.k,.k,.k,.k,.k,.k,.j,.j,.j,.j,.k,.k,.k,.k,.k,.k,.k,.v (.i .i64 k),.j,.j,.j,.j,.j,.j,.j,.j,.j,.j,.j,.j,.j,.j]) (fun k=>[]) (fun k=>k≤l.length∧∀ j,j < k→l.getD j default=m.getD j default) (fun k=>l.length - k) (0) _ ⟨aT _,fun j h=>by omega⟩ rfl (by simp [iL]) ?_
   rintro k g j ⟨hk,ha⟩
   have o:k < l.length→k < m.length→CT 154 [elT (l.getD k default),elT (m.getD k default)] (.b (decide (l.getD k default=m.getD k default))):=fun h h'=>ih _ (cC h) _ (cC h')
   refine zg ?_
   (refine zt1 o ?_; repeat' first | exact trivial | refine zJ ?_ ?_ | refine zH fun hc=>?_)
   · refine aP ?_ (by rfl)
     have:l ≠ m:=fun h=>by simp [h] at *
     rw [zf this]
   · exact ⟨k+1,_,⟨by omega,dS ha (by simpa using hc)⟩,by omega,rfl,by simp⟩
   · refine aP ?_ (by rfl)
     have:l=m:=bAn (d:=default) (by omega) (fun j hj=>ha j (by omega))
     rw [zt this]
def aXu (a b:LTerm):Bool:=decide (a.kind=b.kind) && decide (a.n=b.n) && decide (a.text=b.text) && decide (a.sort=b.sort) && decide (a.kids=b.kids) && decide (a.rest=b.rest)
theorem aPt (a b:LTerm):aXu a b=decide (a=b):=by
 rw [kA]; simp only [aXu,aB,decide_eq_true_eq,LTerm.ext_iff,and_assoc]
theorem aTb (a b:LTerm) (ha:OkT a) (hb:OkT b) (ihk:∀ x ∈ a.kids,∀ y ∈ b.kids,CT 154 [elT x,elT y] (.b (decide (x=y)))) (ihr:∀ x ∈ a.rest,∀ y ∈ b.rest,CT 154 [elT x,elT y] (.b (decide (x=y)))): CT 154 [elT a,elT b] (.b (decide (a=b))):=by
 refine aQ mixed Tryz.func154 g0 ?_
 · skip
   have h1:=ha.kids
   have h2:=ha.rest
   have h3:=hb.kids
   have h4:=hb.rest
   rw [← aPt]
   (refine zt2 (aDj a.kids b.kids h1 h3 ihk) (aDj a.rest b.rest h2 h4 ihr) ?_; repeat' first | exact trivial | refine zJ ?_ ?_ | refine zH fun hc=>?_)
   all_goals refine aP ?_ rfl
   all_goals simp only [aXu, *,decide_true,decide_false,aM,aS,bS,aW]
theorem aMn (a:LTerm):∀ (b:LTerm),OkT a→OkT b→CT 154 [elT a,elT b] (.b (decide (a=b))):=
 fR (Q:=fun a=>∀ (b:LTerm),OkT a→OkT b→CT 154 [elT a,elT b] (.b (decide (a=b)))) (fun a hk hr b ha hb=>aTb a b ha hb (fun x hx y hy=>hk x hx y (ha.kid x hx) (hb.kid y hy)) (fun x hx y hy=>hr x hx y (ha.rst x hx) (hb.rst y hy))) a

mutual
def Q9:LTerm→LTerm→Int
 | .mk k n t s ks rs,.mk k' n' t' s' ks' rs'=>
   if vV k k'=0 then (if vV n n'=0 then (if A9 t t'=0 then (if A9 s s'=0 then (if ordPL ks ks'=0 then ordPL rs rs' else ordPL ks ks') else A9 s s') else A9 t t') else vV n n') else vV k k'
def ordPL:List LTerm→List LTerm→Int
 | [],[]=>0
 | [],_::_ => -1
 | _::_,[]=>1
 | a::l,b::m=>if Q9 a b=0 then ordPL l m else Q9 a b
end
theorem aKb (a b:LTerm):Q9 a b=if vV a.kind b.kind=0 then (if vV a.n b.n=0 then (if A9 a.text b.text=0 then (if A9 a.sort b.sort=0 then (if ordPL a.kids b.kids=0 then ordPL a.rest b.rest else ordPL a.kids b.kids) else A9 a.sort b.sort) else A9 a.text b.text) else vV a.n b.n) else vV a.kind b.kind:=by
 cases a; cases b; rw [Q9]; rfl
theorem aMv {a b:Int} (h:a < b):vV a b = -1:=if_pos h
theorem aMw {a b:Int} (h:b < a):vV a b=1:=by rw [vV,if_neg (by omega),if_pos h]
theorem aMx {a b:Int} (h:a=b):vV a b=0:=by rw [vV,if_neg (by omega),if_neg (by omega)]
theorem aBz {l m:List LTerm} {k:Nat} (h:k < l.length) (h':k < m.length):ordPL (l.drop k) (m.drop k)=if Q9 (l.getD k default) (m.getD k default)=0 then ordPL (l.drop (k+1)) (m.drop (k+1)) else Q9 (l.getD k default) (m.getD k default):=by
 rw [cP h,cP h',ordPL]; simp [List.getD,h,h']
theorem yE {l m:List LTerm} {k:Nat} (h:k=l.length∨k=m.length) (h1:k≤l.length) (h2:k≤m.length):ordPL (l.drop k) (m.drop k)=vV l.length m.length:=by
 by_cases h3:k < l.length
 · rw [cP h3,cK (l:=m) (by omega),ordPL,aMw (by omega)]
 · by_cases h4:k < m.length
   · rw [cP h4,cK (l:=l) (by omega),ordPL,aMv (by omega)]
   · rw [cK (l:=l) (by omega),cK (l:=m) (by omega),ordPL,aMx (by omega)]
theorem aDk (l m:List LTerm) (hl:l.length≤1466015503701) (hm:m.length≤1466015503701) (ih:∀ a ∈ l,∀ b ∈ m,CT 160 [elT a,elT b] (.i .i64 (Q9 a b))): CT 206 [avt l,avt m,.fn 160 [] []] (.i .i64 (ordPL l m)):=by
 refine cX mixed Tryz.func206 g0 ?_
 · simp -implicitDefEqProofs (disch:=omega) only [Tryz.f206,go_sem,List.replicate,simprocAttr,avt]
   refine jW (fun (k:Nat)=>[.k,.k,.k,.k,.k,.k,.j,.j,.j,.j,.j,.k,.k,.v (.i .i64 k),.j,.j,.j,.j,.j,.j,.j,.j,.j,.j,.j,.j,.j,.j,.j,.j,.j,.j,.j,.j,.k,.k,.k,.k,.k]) (fun k=>[]) (fun k=>k≤l.length∧k≤m.length∧ordPL l m=ordPL (l.drop k) (m.drop k)) (fun k=>l.length - k) (0) _ ⟨aT _,aT _,rfl⟩ rfl (by simp [iL]) ?_
   rintro k g j ⟨hk,hk2,he⟩
   have o:k < l.length→k < m.length→CT 160 [elT (l.getD k default),elT (m.getD k default)] (.i .i64 (Q9 (l.getD k default) (m.getD k default))):=fun h h'=>ih _ (cC h) _ (cC h')
   refine zg ?_
   (refine zt1 o ?_; repeat' first | exact trivial | refine zJ ?_ ?_ | refine zH fun hc=>?_)
   · exact aP (congrArg _ (by rw [he,yE (.inr (by omega)) hk hk2,aMw (by omega)])) rfl
   · exact aP (congrArg _ (by rw [he,aBz (by omega) (by omega),if_neg hc])) rfl
   · exact ⟨k+1,_,⟨by omega,by omega,by rw [he,aBz (by omega) (by omega),if_pos hc]⟩,by omega,rfl,by simp⟩
   · exact aP (congrArg _ (by rw [he,yE (.inl (by omega)) hk hk2,aMv (by omega)])) rfl
   · exact aP (congrArg _ (by rw [he,yE (.inl (by omega)) hk hk2,aMx (by omega)])) rfl
theorem aVg (a b:LTerm):(if orI [vV a.kind b.kind,vV a.n b.n,A9 a.text b.text,A9 a.sort b.sort]=0 then orI [ordPL a.kids b.kids,ordPL a.rest b.rest] else orI [vV a.kind b.kind,vV a.n b.n,A9 a.text b.text,A9 a.sort b.sort])=Q9 a b:=by
 rw [aKb]
 by_cases h1:vV a.kind b.kind=0 <;> by_cases h2:vV a.n b.n=0 <;> by_cases h3:A9 a.text b.text=0 <;> by_cases h4:A9 a.sort b.sort=0 <;> by_cases h5:ordPL a.kids b.kids=0 <;> by_cases h6:ordPL a.rest b.rest=0 <;> simp only [orI,h1,h2,h3,h4,h5,h6,if_true,if_false]
theorem aTc (a b:LTerm) (ha:OkT a) (hb:OkT b) (ihk:∀ x ∈ a.kids,∀ y ∈ b.kids,CT 160 [elT x,elT y] (.i .i64 (Q9 x y))) (ihr:∀ x ∈ a.rest,∀ y ∈ b.rest,CT 160 [elT x,elT y] (.i .i64 (Q9 x y))): CT 160 [elT a,elT b] (.i .i64 (Q9 a b)):=by
 refine aQ mixed Tryz.func160 g0 ?_
 · skip
   have e:=aKb a b
   (repeat' (first | refine gT ?_ ?_ | refine gF ?_ ?_ | refine gC ?_ ?_ | ((first | refine cF (bGk a.kind b.kind) ?_ | refine cF (bGj a.n b.n) ?_ | (refine bI (aWj a.text b.text) ?_ ?_; (focus (simp -implicitDefEqProofs (disch:=omega) only [aO,bE,aD,aY,Nat.reduceAdd,zdB,go_sem,simprocAttr]; done))) | (refine bI (aWj a.sort b.sort) ?_ ?_; (focus (simp -implicitDefEqProofs (disch:=omega) only [aO,bE,aD,aY,Nat.reduceAdd,zdB,go_sem,simprocAttr]; done))) | (refine bI (aWk [vV a.kind b.kind,vV a.n b.n,A9 a.text b.text,A9 a.sort b.sort] (by simp)) ?_ ?_; (focus (simp -implicitDefEqProofs (disch:=omega) only [aO,bE,aD,aY,Nat.reduceAdd,zdB,go_sem,simprocAttr]; done))) | (refine bI (aDk a.kids b.kids ha.kids hb.kids ihk) ?_ ?_; (focus (simp -implicitDefEqProofs (disch:=omega) only [aO,bE,aD,aY,Nat.reduceAdd,zdB,go_sem,simprocAttr]; done))) | (refine bI (aDk a.rest b.rest ha.rest hb.rest ihr) ?_ ?_; (focus (simp -implicitDefEqProofs (disch:=omega) only [aO,bE,aD,aY,Nat.reduceAdd,zdB,go_sem,simprocAttr]; done))) | (refine bI (aWk [ordPL a.kids b.kids,ordPL a.rest b.rest] (by simp)) ?_ ?_; (focus (simp -implicitDefEqProofs (disch:=omega) only [aO,bE,aD,aY,Nat.reduceAdd,zdB,go_sem,simprocAttr]; done)))); simp -implicitDefEqProofs (disch:=omega) only [aO,bE,aD,aY,Nat.reduceAdd,go_sem,simprocAttr]) | refine bM (by omega) ?_ | (intro hr; have hc:=hr; (try simp only [zdz] at hc); simp -implicitDefEqProofs (disch:=omega) only [hr,aO,bE,aD,aY,Nat.reduceAdd,go_sem,simprocAttr]; (try clear hr))))
   all_goals refine aP (congrArg _ ?_) rfl
   · rw [← aVg a b,if_neg hc]
   · rw [← aVg a b,if_pos hc]
theorem bGo (a b:LTerm) (ha:OkT a) (hb:OkT b):CT 160 [elT a,elT b] (.i .i64 (Q9 a b)):=
 fR (Q:=fun a=>∀ (b:LTerm),OkT a→OkT b→CT 160 [elT a,elT b] (.i .i64 (Q9 a b))) (fun a hk hr b ha hb=>aTc a b ha hb (fun x hx y hy=>hk x hx y (ha.kid x hx) (hb.kid y hy)) (fun x hx y hy=>hr x hx y (ha.rst x hx) (hb.rst y hy))) a b ha hb

theorem aZj:gG [95]=false:=by decide
theorem aRa:gG [36]=false:=by decide
theorem aYt {s:Str} (h:R3 s=true):gG s=false:=by
 simp only [R3,cL,decide_eq_true_eq] at h
 rcases h with rfl | rfl <;> decide
theorem aQu (s:Str):gG s=true→¬ s=[95]∧¬ s=[36]:=by
 intro h
 constructor <;> (rintro rfl; revert h; decide)
theorem aMm (t:LTerm) (ht:OkT t) (h6:t.kind=6): CT 201 [elT t] (.b (nodeB t)):=by
 refine eD (rx:=true) (th:=fun i=>if i=19 then some ⟨some 1,[],false,false,false,[],[],0⟩ else none) mixed Tryz.func201 g0 ?_
 · simp -implicitDefEqProofs (disch:=omega) only [Tryz.f201,go_sem,List.replicate,simprocAttr]
   have no1:=aQu t.text
   (refine zy2 (zA2 h6 (zA2 @decide_true @decide_false)) (J2 t.text ht.text) (J2 t.sort ht.sort) ?_; repeat' first | exact trivial | refine zJ ?_ ?_ | refine zH fun hc=>?_)
   all_goals try simp only [J7,J8,qE,qD] at *
   all_goals refine aP ?_ rfl
   all_goals (simp_all [nodeB,R3,gS,aZj,aRa]; done)
theorem aFg {t:LTerm} {so:Str} (hs:gG so=true) (h1:t.rest.length=1) (h6:(t.rest.getD 0 default).kind=6):(nodeB (t.rest.getD 0 default) && gG (t.rest.getD 0 default).text && decide ((t.rest.getD 0 default).sort=so))=uH t so:=by
 have h0:t.rest.length ≠ 0:=by omega
 generalize hr:t.rest.getD 0 default=r at *
 have h3:uH t so=(gG r.text && decide (r.sort=so) && gS r false true true false false):=by
   simp only [uH,hr,h1,h6,decide_true,Nat.one_ne_zero,decide_false,dM,aM]
 rw [h3]
 have h4:nodeB r=(if R3 r.text=true then decide (r.sort=aHd) && gS r false true true false false else gG r.text && gG r.sort && gS r false true true false false):=by
   simp only [nodeB,h6]; rfl
 rw [h4]
 cases ho:R3 r.text with
 | true=>rw [aYt ho]; simp
 | false=>
   by_cases hq:r.sort=so
   · rw [hq,hs]; cases gG r.text <;> cases gS r false true true false false <;> simp
   · simp [hq]
theorem aWg (t:LTerm) (so:Str) (ht:OkT t) (hso:gG so=true): CT 236 [elT t,.s so] (.b (uH t so)):=by
 refine aQ mixed Tryz.func236 g0 ?_
 · skip
   have h1:0 < t.rest.length→OkT (t.rest.getD 0 default):=fun h=>ht.rst _ (cC h)
   have hA:=fun a b=>aFg (t:=t) hso a b
   (repeat' (first | refine gT ?_ ?_ | refine gF ?_ ?_ | refine gC ?_ ?_ | ((first | (refine bI (aMm (t.rest.getD 0 default) (h1 (by omega)) (by assumption)) ?_ ?_; (focus (simp -implicitDefEqProofs (disch:=omega) only [zdB,go_sem,simprocAttr]; done))) | (refine bI (J2 (t.rest.getD 0 default).text (h1 (by omega)).text) ?_ ?_; (focus (simp -implicitDefEqProofs (disch:=omega) only [zdB,go_sem,simprocAttr]; done)))); simp -implicitDefEqProofs (disch:=omega) only [go_sem,simprocAttr]) | refine bM (by omega) ?_ | (intro hr; have hc:=hr; (try simp only [zdz] at hc); simp -implicitDefEqProofs (disch:=omega) only [hr,go_sem,simprocAttr]; (try clear hr))))
   all_goals try simp only [J7,J8] at *
   all_goals refine aP ?_ rfl
   all_goals first
     | (have e:=hA (by assumption) (by assumption); clear hA; rw [← e]; clear e; simp_all only [decide_true,decide_false,bR,dM,aM,aS,aW,bS]; done)
     | (clear hA; simp_all only [uH,decide_true,decide_false,bR,dM,aM,aS,aW,bS,Nat.one_ne_zero]; done)
theorem aZg {t:LTerm} (h:t.kind=1):nodeB t=(mM t.n && gS t true false false false false):=by simp only [nodeB,h]; rfl
theorem aZf {t:LTerm} (h:t.kind=2):nodeB t=((decide (t.n=0) || decide (t.n=1)) && gS t true false false false false):=by simp only [nodeB,h]; rfl
theorem aZe {t:LTerm} (h:t.kind=3):nodeB t=(vM t.text && gS t false true false false false):=by simp only [nodeB,h]; rfl
theorem aZd {t:LTerm} (h:t.kind=4):nodeB t=(bCg t.text && gS t false true false false false):=by simp only [nodeB,h]; rfl
theorem aZc {t:LTerm} (h:t.kind=5):nodeB t=(D8 t.text && decide (t.kids.length≤8) && gS t false true false true false):=by simp only [nodeB,h]; rfl
theorem aZb {t:LTerm} (h:t.kind=7):nodeB t=(uH t I2 && gS t false false false true true):=by simp only [nodeB,h]; rfl
theorem aZa {t:LTerm} (h:t.kind=8):nodeB t=(uH t aHc && decide (t.kids.length % 2=0) && gS t false false false true true):=by simp only [nodeB,h]; rfl
theorem aZo {α:Type} {l:List α}:l.length=0↔l=[]:=bO
theorem aSz (t:LTerm) (ht:OkT t) (hk:t.kind=1): CT 201 [elT t] (.b (nodeB t)):=by
 refine eD (rx:=true) (th:=fun i=>if i=19 then some ⟨some 1,[],false,false,false,[],[],0⟩ else none) mixed Tryz.func201 g0 ?_
 · simp -implicitDefEqProofs (disch:=omega) only [Tryz.f201,go_sem,List.replicate,simprocAttr]
   (refine zy1 (zA2 hk (zA2 @decide_true @decide_false)) (aWi t.n) ?_; repeat' first | exact trivial | refine zJ ?_ ?_ | refine zH fun hc=>?_)
   all_goals try simp only [J7,J8,qE,qD,aZo] at *
   all_goals refine aP ?_ rfl
   all_goals rw [aZg hk]
   all_goals clear ht
   all_goals first
     | (simp_all only [gS,mM,decide_true,decide_false,bR,dM,aM,aS,aW,bS,bU,bC,not_true_eq_false,not_false_eq_true]; done)
     | (simp_all [gS,mM] <;> (intros; omega))
theorem aSy (t:LTerm) (ht:OkT t) (hk:t.kind=2): CT 201 [elT t] (.b (nodeB t)):=by
 refine eD (rx:=true) (th:=fun i=>if i=19 then some ⟨some 1,[],false,false,false,[],[],0⟩ else none) mixed Tryz.func201 g0 ?_
 · simp -implicitDefEqProofs (disch:=omega) only [Tryz.f201,go_sem,List.replicate,simprocAttr]
   (refine zy1 (zA2 hk (zA2 @decide_true @decide_false)) (aWi t.n) ?_; repeat' first | exact trivial | refine zJ ?_ ?_ | refine zH fun hc=>?_)
   all_goals try simp only [J7,J8,qE,qD,aZo] at *
   all_goals refine aP ?_ rfl
   all_goals rw [aZf hk]
   all_goals clear ht
   all_goals first
     | (simp_all only [gS,mM,decide_true,decide_false,bR,dM,aM,aS,aW,bS,bU,bC,not_true_eq_false,not_false_eq_true]; done)
     | (simp_all [gS,mM] <;> (intros; omega))
theorem aSx (t:LTerm) (ht:OkT t) (hk:t.kind=3): CT 201 [elT t] (.b (nodeB t)):=by
 refine eD (rx:=true) (th:=fun i=>if i=19 then some ⟨some 1,[],false,false,false,[],[],0⟩ else none) mixed Tryz.func201 g0 ?_
 · simp -implicitDefEqProofs (disch:=omega) only [Tryz.f201,go_sem,List.replicate,simprocAttr]
   (refine zy1 (zA2 hk (zA2 @decide_true @decide_false)) (bGn t.text ht.text) ?_; repeat' first | exact trivial | refine zJ ?_ ?_ | refine zH fun hc=>?_)
   all_goals try simp only [J7,J8,qE,qD,aZo] at *
   all_goals refine aP ?_ rfl
   all_goals rw [aZe hk]
   all_goals clear ht
   all_goals first
     | (simp_all only [gS,mM,decide_true,decide_false,bR,dM,aM,aS,aW,bS,bU,bC,not_true_eq_false,not_false_eq_true]; done)
     | (simp_all [gS,mM] <;> (intros; omega))
theorem aSw (t:LTerm) (ht:OkT t) (hk:t.kind=4): CT 201 [elT t] (.b (nodeB t)):=by
 refine eD (rx:=true) (th:=fun i=>if i=19 then some ⟨some 1,[],false,false,false,[],[],0⟩ else none) mixed Tryz.func201 g0 ?_
 · simp -implicitDefEqProofs (disch:=omega) only [Tryz.f201,go_sem,List.replicate,simprocAttr]
   (refine zy1 (zA2 hk (zA2 @decide_true @decide_false)) (bGh t.text ht.text) ?_; repeat' first | exact trivial | refine zJ ?_ ?_ | refine zH fun hc=>?_)
   all_goals try simp only [J7,J8,qE,qD,aZo] at *
   all_goals refine aP ?_ rfl
   all_goals rw [aZd hk]
   all_goals clear ht
   all_goals first
     | (simp_all only [gS,mM,decide_true,decide_false,bR,dM,aM,aS,aW,bS,bU,bC,not_true_eq_false,not_false_eq_true]; done)
     | (simp_all [gS,mM] <;> (intros; omega))
theorem aSv (t:LTerm) (ht:OkT t) (hk:t.kind=5): CT 201 [elT t] (.b (nodeB t)):=by
 refine eD (rx:=true) (th:=fun i=>if i=19 then some ⟨some 1,[],false,false,false,[],[],0⟩ else none) mixed Tryz.func201 g0 ?_
 · simp -implicitDefEqProofs (disch:=omega) only [Tryz.f201,go_sem,List.replicate,simprocAttr]
   (refine zy1 (zA2 hk (zA2 @decide_true @decide_false)) (aWh t.text ht.text) ?_; repeat' first | exact trivial | refine zJ ?_ ?_ | refine zH fun hc=>?_)
   all_goals try simp only [J7,J8,qE,qD,aZo] at *
   all_goals refine aP ?_ rfl
   all_goals rw [aZc hk]
   all_goals clear ht
   all_goals first
     | (simp_all only [gS,mM,decide_true,decide_false,bR,dM,aM,aS,aW,bS,bU,bC,not_true_eq_false,not_false_eq_true]; done)
     | (simp_all [gS,mM] <;> (intros; omega))
theorem aSu (t:LTerm) (ht:OkT t) (hk:t.kind=7): CT 201 [elT t] (.b (nodeB t)):=by
 refine eD (rx:=true) (th:=fun i=>if i=19 then some ⟨some 1,[],false,false,false,[],[],0⟩ else none) mixed Tryz.func201 g0 ?_
 · simp -implicitDefEqProofs (disch:=omega) only [Tryz.f201,go_sem,List.replicate,simprocAttr]
   (refine zy1 (zA2 hk (zA2 @decide_true @decide_false)) (aWg t I2 ht (by decide)) ?_; repeat' first | exact trivial | refine zJ ?_ ?_ | refine zH fun hc=>?_)
   all_goals try simp only [J7,J8,qE,qD,aZo] at *
   all_goals refine aP ?_ rfl
   all_goals rw [aZb hk]
   all_goals clear ht
   all_goals first
     | (simp_all only [gS,mM,decide_true,decide_false,bR,dM,aM,aS,aW,bS,bU,bC,not_true_eq_false,not_false_eq_true]; done)
     | (simp_all [gS,mM] <;> (intros; omega))
theorem aSt (t:LTerm) (ht:OkT t) (hk:t.kind=8): CT 201 [elT t] (.b (nodeB t)):=by
 refine eD (rx:=true) (th:=fun i=>if i=19 then some ⟨some 1,[],false,false,false,[],[],0⟩ else none) mixed Tryz.func201 g0 ?_
 · simp -implicitDefEqProofs (disch:=omega) only [Tryz.f201,go_sem,List.replicate,simprocAttr]
   (refine zy1 (zA2 hk (zA2 @decide_true @decide_false)) (aWg t aHc ht (by decide)) ?_; repeat' first | exact trivial | refine zJ ?_ ?_ | refine zH fun hc=>?_)
   all_goals try simp only [J7,J8,qE,qD,aZo] at *
   all_goals refine aP ?_ rfl
   all_goals rw [aZa hk]
   all_goals clear ht
   all_goals first
     | (simp_all only [gS,mM,decide_true,decide_false,bR,dM,aM,aS,aW,bS,bU,bC,not_true_eq_false,not_false_eq_true]; done)
     | (simp_all [gS,mM] <;> (intros; omega))
theorem aTa (t:LTerm) (h1:¬ t.kind=1) (h2:¬ t.kind=2) (h3:¬ t.kind=3) (h4:¬ t.kind=4) (h5:¬ t.kind=5) (h6:¬ t.kind=6) (h7:¬ t.kind=7) (h8:¬ t.kind=8): CT 201 [elT t] (.b (nodeB t)):=by
 refine eD (rx:=true) (th:=fun i=>if i=19 then some ⟨some 1,[],false,false,false,[],[],0⟩ else none) mixed Tryz.func201 g0 ?_
 · simp -implicitDefEqProofs (disch:=omega) only [Tryz.f201,go_sem,List.replicate,simprocAttr]
   have hn:nodeB t=false:=by simp only [nodeB,h1,h2,h3,h4,h5,h6,h7,h8,if_false]
   (refine zx0 (zA2 h1 (zA2 h2 (zA2 h3 (zA2 h4 (zA2 h5 (zA2 h6 (zA2 h7 (zA2 h8 (zA2 @decide_true @decide_false))))))))) ?_; repeat' first | exact trivial | refine zJ ?_ ?_ | refine zH fun hc=>?_)
   all_goals exact aP (by rw [hn]) rfl
theorem bGl (t:LTerm) (ht:OkT t):CT 201 [elT t] (.b (nodeB t)):=by
 by_cases h1:t.kind=1
 · exact aSz t ht h1
 by_cases h2:t.kind=2
 · exact aSy t ht h2
 by_cases h3:t.kind=3
 · exact aSx t ht h3
 by_cases h4:t.kind=4
 · exact aSw t ht h4
 by_cases h5:t.kind=5
 · exact aSv t ht h5
 by_cases h6:t.kind=6
 · exact aMm t ht h6
 by_cases h7:t.kind=7
 · exact aSu t ht h7
 by_cases h8:t.kind=8
 · exact aSt t ht h8
 exact aTa t h1 h2 h3 h4 h5 h6 h7 h8
end Go.Proofs.YtifefbhllfdmlaaGreatDoor
namespace Go.Vo
section
variable (p:LTerm→Bool)
mutual
def lH:LTerm→Int→Int→Int × Bool
 | .mk k n t s ks rs,d,m=>
   if (decide (d≤60) && decide (m+1≤2000) && p (.mk k n t s ks rs))=true then
     (if (lookL ks (d+1) (m+1)).2=true then ((lookL ks (d+1) (m+1)).1+rs.length,decide (rs.length=0) || (decide (d < 60) && decide ((lookL ks (d+1) (m+1)).1+rs.length≤2000))) else ((lookL ks (d+1) (m+1)).1,false))
   else (m+1,false)
def lookL:List LTerm→Int→Int→Int × Bool
 | [],d,m=>(m,true)
 | k::l,d,m=>if (lH k d m).2=true then lookL l d (lH k d m).1 else ((lH k d m).1,false)
end
mutual
def wfT:LTerm→Bool
 | .mk k n t s ks rs=>p (.mk k n t s ks rs) && wfL ks
def wfL:List LTerm→Bool
 | []=>true
 | k::l=>wfT k && wfL l
end
end
mutual
def nodesT:LTerm→Nat
 | .mk k n t s ks rs=>1+rs.length+nodesL ks
def nodesL:List LTerm→Nat
 | []=>0
 | k::l=>nodesT k+nodesL l
end
mutual
def highT:LTerm→Nat
 | .mk k n t s ks rs=>1+max rs.length (highL ks)
def highL:List LTerm→Nat
 | []=>0
 | k::l=>max (highT k) (highL l)
end
section
variable {p:LTerm→Bool}
mutual
theorem uN (hp:∀ t,p t=true→t.rest.length≤1):∀ (t:LTerm) (d m:Int),((lH p t d m).2=true↔wfT p t=true∧d+highT t≤61∧m+nodesT t≤2000)∧((lH p t d m).2=true→(lH p t d m).1=m+nodesT t)
 | .mk k n t s ks rs,d,m=>by
   rw [lH,wfT,highT,nodesT]
   split
   · rename_i hc
     simp only [aB,decide_eq_true_eq] at hc
     obtain ⟨⟨h1,h2⟩,h3⟩:=hc
     have hr:=hp _ h3
     simp only [LTerm.rest] at hr
     obtain ⟨i1,i2⟩:=lookL_spec hp ks (d+1) (m+1) (by omega) (by omega)
     rw [h3,aM]
     split
     · rename_i hl
       have e:=i2 hl
       obtain ⟨w,w2,w3⟩:=i1.1 hl
       simp only [cL,aB,decide_eq_true_eq,w,true_and,e]
       exact ⟨by omega,fun _=>by omega⟩
     · rename_i hl
       refine ⟨⟨(fun h=>by cases h),fun ⟨a,b,c⟩=>?_⟩,fun h=>by cases h⟩
       exact absurd (i1.2 ⟨a,by omega,by omega⟩) hl
   · rename_i hc
     refine ⟨⟨(fun h=>by cases h),fun ⟨a,b,c⟩=>?_⟩,fun h=>by cases h⟩
     exfalso
     refine hc ?_
     simp only [aB,decide_eq_true_eq] at a ⊢
     exact ⟨⟨by omega,by omega⟩,a.1⟩
theorem lookL_spec (hp:∀ t,p t=true→t.rest.length≤1):∀ (l:List LTerm) (d m:Int),d≤61→m≤2000→((lookL p l d m).2=true↔wfL p l=true∧d+highL l≤61∧m+nodesL l≤2000)∧((lookL p l d m).2=true→(lookL p l d m).1=m+nodesL l)
 | [],d,m,hd,hm=>by
   rw [lookL,wfL,highL,nodesL]
   exact ⟨⟨fun _=>⟨rfl,by omega,by omega⟩,fun _=>rfl⟩,fun _=>by omega⟩
 | k :: l,d,m,hd,hm=>by
   obtain ⟨i1,i2⟩:=uN hp k d m
   rw [lookL,wfL,highL,nodesL]
   split
   · rename_i hk
     have e:=i2 hk
     obtain ⟨w,w2,w3⟩:=i1.1 hk
     obtain ⟨j1,j2⟩:=lookL_spec hp l d (lH p k d m).1 hd (by omega)
     rw [w,aM,j1]
     exact ⟨⟨fun ⟨a,b,c⟩=>⟨a,by omega,by omega⟩,fun ⟨a,b,c⟩=>⟨a,by omega,by omega⟩⟩,fun h=>by have:=j2 (j1.2 h); omega⟩
   · rename_i hk
     refine ⟨⟨(fun h=>by cases h),fun ⟨a,b,c⟩=>?_⟩,fun h=>by cases h⟩
     rw [aB] at a
     exact absurd (i1.2 ⟨a.1,by omega,by omega⟩) hk
end
def jQ (p:LTerm→Bool) (t:LTerm):Bool:=wfT p t && decide (highT t≤60) && decide (nodesT t≤2000)
theorem aFs (hp:∀ t,p t=true→t.rest.length≤1) (t:LTerm):(lH p t 1 0).2=jQ p t:=by
 rw [kA,(uN hp t 1 0).1,jQ]
 simp only [aB,decide_eq_true_eq]
 exact ⟨fun ⟨a,b,c⟩=>⟨⟨a,by omega⟩,by omega⟩,fun ⟨⟨a,b⟩,c⟩=>⟨a,by omega,by omega⟩⟩
end
end Go.Vo
namespace Go.Proofs.YtifefbhllfdmlaaGreatDoor
open Go Go.Vo
open Nat (reduceAdd reduceSub reduceMul reduceLeDiff reduceLT reduceEqDiff)
open Int (reduceNeg)

theorem aCj (p:LTerm→Bool) (t:LTerm) (d m:Int):lH p t d m=if (decide (d≤60) && decide (m+1≤2000) && p t)=true then (if (lookL p t.kids (d+1) (m+1)).2=true then ((lookL p t.kids (d+1) (m+1)).1+t.rest.length,decide (t.rest.length=0) || (decide (d < 60) && decide ((lookL p t.kids (d+1) (m+1)).1+t.rest.length≤2000))) else ((lookL p t.kids (d+1) (m+1)).1,false)) else (m+1,false):=by
 cases t; rw [lH]; rfl
theorem aRh {p:LTerm→Bool} {l:List LTerm} {k:Nat} {d m:Int} (h:k < l.length):lookL p (l.drop k) d m=if (lH p (l.getD k default) d m).2=true then lookL p (l.drop (k+1)) d (lH p (l.getD k default) d m).1 else ((lH p (l.getD k default) d m).1,false):=by
 rw [cP h,lookL]; simp [List.getD,h]
theorem aRg {p:LTerm→Bool} {t:LTerm} {d m:Int} (hp:∀ t,p t=true→t.rest.length≤1) (hm:0≤m) (h:(lH p t d m).2=true):0≤(lH p t d m).1∧(lH p t d m).1≤2000:=by
 have s:=uN hp t d m
 rw [s.2 h]
 have:=s.1.1 h
 omega
theorem Z8 {p:LTerm→Bool} {t:LTerm} {d m:Int} (h:(decide (d≤60) && decide (m+1≤2000) && p t)=false):lH p t d m=(m+1,false):=by
 rw [aCj,if_neg (by rw [h]; simp)]
abbrev aUq (t:LTerm) (d m:Int):AV→List AObj→Prop:=fun r h'=>r=.tup []∧∃ g,h'=.box false [.i .i64 (lH nodeB t d m).1,.b (lH nodeB t d m).2]::g
theorem tC {t:LTerm} {d m a:Int} {b:Bool} {h g:List AObj} (e:lH nodeB t d m=(a,b)) (hh:h=.box false [.i .i64 a,.b b]::g):aUq t d m (.tup []) h:=⟨rfl,g,by rw [e]; exact hh⟩
def xR (d m:Int) (j:Nat):Bool:=decide (j=0) || (decide (d < 60) && decide (m+j≤2000))
@[simp] theorem bIy {d m:Int}:xR d m 0=true:=by simp [xR]
theorem rP {d m:Int} {j:Nat}:xR d m (j+1)=(xR d m j && decide (d < 60) && decide (m+j+1≤2000)):=by
 rw [kA]
 simp only [xR,cL,aB,decide_eq_true_eq]
 omega
theorem bKn (t:LTerm) (d m:Int) (ht:OkT t) (hm0:0≤m) (hm:m≤2000) (hd0:0≤d) (hd:d≤100) (ih:∀ k ∈ t.kids,∀ (d m:Int),0≤m→m≤2000→0≤d→d≤100→ACalls Tryz.prog G0 156 [.ptr 0 0,elT k,.i .i64 d] [.box false [.i .i64 m,.b true]] (aUq k d m)): ACalls Tryz.prog G0 156 [.ptr 0 0,elT t,.i .i64 d] [.box false [.i .i64 m,.b true]] (aUq t d m):=by
 refine hJ (rx:=false) (th:=fun _=>none) mixed Tryz.func156 ?_
 · simp -implicitDefEqProofs (disch:=omega) only [Tryz.f156,go_sem,List.replicate,simprocAttr]
   have hk1:=ht.kids
   have hr1:=ht.rest
   have c:=bGl t ht
   cases hnb:nodeB t with
   | false=>
     rw [hnb] at c
     (refine zt1 c ?_; repeat' first | exact trivial | refine zJ ?_ ?_ | refine zH fun hc=>?_)
     all_goals exact tC (Z8 (by simp only [hnb,aW])) rfl
   | true=>
   rw [hnb] at c
   (refine zt1 c ?_; repeat' first | exact trivial | refine zJ ?_ ?_ | refine zH fun hc=>?_)
   rotate_left
   · exact tC (Z8 (by simp only [*,decide_true,decide_false,aS,aW,aM])) rfl
   · exact tC (Z8 (by simp only [*,decide_true,decide_false,aS,aW,aM])) rfl
   have hif:lH nodeB t d m=_:=aCj nodeB t d m
   rw [if_pos (by simp only [*,decide_true,dV])] at hif
   refine jW (fun (s:Nat × Int)=>[.k,.k,.k,.k,.k,.k,.k,.j,.k,.k,.k,.k,.k,.k,.k,.k,.k,.k,.k,.k,.k,.k,.k,.k,.k,.k,.k,.k,.k,.k,.k,.k,.k,.k,.k,.k,.k,.k,.k,.k,.k,.k,.k,.k,.k,.v (.i .i64 (s.1:Nat)),.j,.j,.j,.j,.j,.j,.j,.j,.j,.j,.j,.j,.j,.j,.k,.k,.k,.k,.k,.k,.k,.k,.k,.k,.k,.k,.k,.k,.k,.k,.k,.k,.k,.k,.k,.k,.k,.k,.k,.k,.k,.k,.k,.k,.k]) (fun s=>[.box false [.i .i64 s.2,.b true],.box false [.i .i64 (t).kind,.i .i64 (t).n,.s (t).text,.s (t).sort,.sl ((t).kids.flatMap aE) (t).kids.length,.sl ((t).rest.flatMap aE) (t).rest.length]]) (fun s=>s.1≤t.kids.length∧lookL nodeB t.kids (d+1) (m+1)=lookL nodeB (t.kids.drop s.1) (d+1) s.2∧0≤s.2∧s.2≤2000) (fun s=>t.kids.length - s.1) ((0,m+1)) _ ⟨aT _,rfl,by dsimp only; omega,by dsimp only; omega⟩ rfl (by simp [iL]) ?_
   rintro ⟨k,m2⟩ g j ⟨hk,hL,hm20,hm2⟩
   dsimp only at hk hL hm20 hm2
   refine zg ?_
   (refine zs0 ?_; repeat' first | exact trivial | refine zJ ?_ ?_ | refine zH fun hc=>?_)
   · have hlt:k < t.kids.length:=by omega
     rw [aRh hlt] at hL
     refine bBi 0 g0 (ih _ (cC (d:=default) hlt) (d+1) m2 hm20 hm2 (by omega) (by omega)) rfl rfl rfl rfl ?_ ?_
     · simp only [renL,ren,elT,bT,avt,renL_pers _ _ iF,aMd]
     · intro g2
       refine zg ?_
       (refine zs0 ?_; repeat' first | exact trivial | refine zJ ?_ ?_ | refine zH fun hc=>?_)
       · rw [if_neg (by rw [show (lH nodeB (t.kids.getD k default) (d+1) m2).2=false from hc]; simp)] at hL
         rw [hL,if_neg (by simp)] at hif
         rw [show (lH nodeB (t.kids.getD k default) (d+1) m2).2=false from hc]
         exact tC hif rfl
       · have e:(lH nodeB (t.kids.getD k default) (d+1) m2).2=true:=hc
         rw [if_pos e] at hL
         have hle:=aRg uL hm20 e
         rw [e]
         exact ⟨(k+1,(lH nodeB (t.kids.getD k default) (d+1) m2).1),_,⟨by dsimp only; omega,hL,hle.1,hle.2⟩,by dsimp only; omega,rfl,by simp⟩
   · rw [cK (by omega),lookL] at hL
     rw [hL,if_pos rfl] at hif
     refine dD (fun (i:Nat)=>[.k,.k,.k,.k,.k,.k,.k,.k,.k,.k,.k,.k,.k,.k,.k,.k,.k,.k,.k,.k,.k,.k,.k,.k,.k,.k,.k,.k,.k,.k,.k,.k,.k,.k,.k,.k,.k,.k,.k,.k,.k,.k,.k,.k,.k,.k,.k,.k,.k,.k,.k,.k,.k,.k,.k,.k,.k,.k,.k,.k,.k,.k,.k,.v (.i .i64 (i:Nat)),.j,.j,.j,.j,.j,.j,.j,.j,.j,.j,.j,.j,.j,.j,.j,.j,.j,.j,.j,.j,.j,.j,.j,.j,.j,.j,.j]) (fun i=>.box false [.i .i64 (m2+(i:Nat)),.b (xR d m2 i)]::.box false [.i .i64 (t).kind,.i .i64 (t).n,.s (t).text,.s (t).sort,.sl ((t).kids.flatMap aE) (t).kids.length,.sl ((t).rest.flatMap aE) (t).rest.length]::g) (fun i=>i≤t.rest.length) (fun i=>t.rest.length - i) (0) (aT _) (by simp [avs,avb,avi,avo,dA]) (by simp [iL]) ?_
     rintro i j hi
     refine zg ?_
     (refine zs0 ?_; repeat' first | exact trivial | refine zJ ?_ ?_ | refine zH fun hc=>?_)
     · exact ⟨i+1,by omega,by omega,by rw [rP,show xR d m2 i=true by assumption,Int.natCast_succ,← Int.add_assoc]; simp only [aM,zt hc],by simp⟩
     · exact ⟨i+1,by omega,by omega,by rw [rP,Int.natCast_succ,← Int.add_assoc]; simp only [zf hc,aW,aS],by simp⟩
     · exact ⟨i+1,by omega,by omega,by rw [rP,hc,Int.natCast_succ,← Int.add_assoc]; simp only [aS],by simp⟩
     · have e:i=t.rest.length:=by omega
       exact tC hif (by rw [e]; rfl)
theorem look:∀ (t:LTerm),OkT t→∀ (d m:Int),0≤m→m≤2000→0≤d→d≤100→ACalls Tryz.prog G0 156 [.ptr 0 0,elT t,.i .i64 d] [.box false [.i .i64 m,.b true]] (aUq t d m):=
 fR fun t hk _ ht d m h1 h2 h3 h4=>bKn t d m ht h1 h2 h3 h4 (fun k hmem d m a b c e=>hk k hmem (ht.kid k hmem) d m a b c e)
theorem aMr (t:LTerm) (ht:OkT t): CT 99 [elT t] (.b (jQ nodeB t)):=by
 refine aQ mixed Tryz.func99 g0 ?_
 · skip
   (refine zs0 ?_; repeat' first | exact trivial | refine zJ ?_ ?_ | refine zH fun hc=>?_)
   refine bBi 1 g0 (look t ht 1 0 (by decide) (by decide) (by decide) (by decide)) rfl rfl rfl rfl ?_ ?_
   · simp only [renL,ren,elT,bT,avt,renL_pers _ _ iF,aMd]
   · intro g2
     refine zg ?_
     (refine zs0 ?_; repeat' first | exact trivial | refine zJ ?_ ?_ | refine zH fun hc=>?_)
     exact aP (by rw [aFs uL]) rfl


def aUd (n:Nat) (f:Nat→Bool):Bool:=(List.range n).all f
theorem zU {n:Nat} {f:Nat→Bool} (h:∀ j,j < n→f j=true):aUd n f=true:=by
 simp only [aUd,aV,jP]; exact h
theorem qW {n:Nat} {f:Nat→Bool} (j:Nat) (hj:j < n) (h:f j=false):aUd n f=false:=by
 rw [gV]; intro e; simp only [aUd,aV,jP] at e; rw [e j hj] at h; cases h
theorem wX {l:List LTerm} {f:LTerm→Bool} (h:∀ j,j < l.length→f (l.getD j default)=true):l.all f=true:=by
 rw [aV]; intro x hx; obtain ⟨j,hj,rfl⟩:=eC.1 hx; have:=h j hj; simpa [List.getD,hj] using this
theorem V4 {l:List LTerm} {f:LTerm→Bool} (j:Nat) (hj:j < l.length) (h:f (l.getD j default)=false):l.all f=false:=by
 rw [gV]; intro e; rw [aV.1 e _ (cC hj)] at h; cases h
def aCa (s:dF) (t:LTerm):Bool:=match aVj s t.text with
 | none=>false
 | some o=>decide (o.args.length=t.kids.length) && aUd t.kids.length (fun i=>vX s (B3 s (t.kids.getD i default)) (o.args.getD i []))
def B7 (f:LTerm→LTerm→Int) (t:LTerm) (i:Nat):Bool:=aAe (t.kids.getD (2 * i) default) && (decide (i=0) || decide (f (t.kids.getD (2 * i - 2) default) (t.kids.getD (2 * i) default) < 0))
def R8 (f:LTerm→LTerm→Int) (t:LTerm):Bool:=aUd ((t.kids.length+1) / 2) (B7 f t)
section
variable {f:LTerm→LTerm→Int} {t:LTerm} {i:Nat}
theorem aLb (h:aAe (t.kids.getD (2 * i) default)=false):B7 f t i=false:=by rw [B7,h,aS]
theorem aRo (h:0 < ((2 * i:Nat):Int)) (h2:0≤f (t.kids.getD (2 * i - 2) default) (t.kids.getD (2 * i) default)):B7 f t i=false:=by
 rw [B7,zf (by omega:¬ i=0),zf (by omega:¬ f (t.kids.getD (2 * i - 2) default) (t.kids.getD (2 * i) default) < 0),dM,aW]
theorem aLa (h:aAe (t.kids.getD (2 * i) default)=true) (h2:¬ 0≤f (t.kids.getD (2 * i - 2) default) (t.kids.getD (2 * i) default)):B7 f t i=true:=by
 rw [B7,h,zt (by omega:f (t.kids.getD (2 * i - 2) default) (t.kids.getD (2 * i) default) < 0),bU]; rfl
theorem aZt (h:aAe (t.kids.getD (2 * i) default)=true) (h2:¬ 0 < ((2 * i:Nat):Int)):B7 f t i=true:=by
 rw [B7,h,zt (by omega:i=0)]; rfl
end
mutual
def pI (s:dF):LTerm→Bool
 | .mk k n x so ks rs => !decide (k=6) && decide (rs=[]) && plainPL s ks && (if k=5 then aCa s (.mk k n x so ks rs) else if k=8 then R8 Q9 (.mk k n x so ks rs) else true)
def plainPL (s:dF):List LTerm→Bool
 | []=>true
 | k::l=>pI s k && plainPL s l
end
theorem D6 {s:dF}:∀ l,plainPL s l=l.all (pI s)
 | []=>rfl
 | k::l=>by rw [plainPL,D6 l]; rfl
theorem aJo (s:dF) (t:LTerm):pI s t=(!decide (t.kind=6) && decide (t.rest=[]) && t.kids.all (pI s) && (if t.kind=5 then aCa s t else if t.kind=8 then R8 Q9 t else true)):=by
 cases t; rw [pI,D6]; rfl
theorem aTd (s:dF) (t:LTerm) (hs:Small s) (ht:OkT t) (ih:∀ k ∈ t.kids,CT 100 [cU s,elT k] (.b (pI s k))): CT 100 [cU s,elT t] (.b (pI s t)):=by
 refine aQ mixed Tryz.func100 g0 ?_
 · skip
   have e:=aJo s t
   have hk1:=ht.kids
   by_cases h6:t.kind=6
   · rw [zt h6,bX,aS,aS,aS] at e
     (refine zs0 ?_; repeat' first | exact trivial | refine zJ ?_ ?_ | refine zH fun hc=>?_)
     all_goals first
       | exact aP (by rw [e]) rfl
       | (exfalso; omega)
   by_cases hr:¬ t.rest=[]
   · rw [zf hr,aW,aS,aS] at e
     have hr2:¬ t.rest.length=0:=fun h=>hr (bO.1 h)
     (refine zs0 ?_; repeat' first | exact trivial | refine zJ ?_ ?_ | refine zH fun hc=>?_)
     all_goals first
       | exact aP (by rw [e]) rfl
       | (exfalso; omega)
   have hr:t.rest=[]:=Classical.not_not.1 hr
   have hr2:t.rest.length=0:=by rw [hr]; rfl
   rw [zf h6,zt hr,bY,aM,aM] at e
   (refine zs0 ?_; repeat' first | exact trivial | refine zJ ?_ ?_ | refine zH fun hc=>?_)
   · exfalso; omega
   refine jW (fun (k:Nat)=>[.k,.k,.k,.k,.j,.k,.j,.k,.k,.k,.k,.k,.k,.k,.k,.k,.k,.k,.k,.k,.k,.k,.k,.k,.v (.i .i64 (k:Nat)),.j,.j,.j,.j,.j,.j,.j,.j,.k,.k,.k,.k,.k,.k,.k,.k,.k,.k,.k,.k,.k,.k,.k,.k,.k,.k,.k,.k,.k,.k,.k,.k,.k,.k,.k,.k,.k,.k,.k,.k,.k,.k,.k,.k,.k,.k,.k,.k,.k,.k,.k,.k,.k,.k,.k,.k,.k,.k,.k,.k,.k,.k,.k,.k,.k,.k,.k,.k,.k,.k,.k,.k,.k,.k,.k,.k,.k,.k,.k,.k,.k,.k,.k,.k,.k]) (fun k=>[.box false [.i .i64 (t).kind,.i .i64 (t).n,.s (t).text,.s (t).sort,.sl ((t).kids.flatMap aE) (t).kids.length,.sl ((t).rest.flatMap aE) (t).rest.length]]) (fun k=>k≤t.kids.length∧∀ j,j < k→pI s (t.kids.getD j default)=true) (fun k=>t.kids.length - k) (0) _ ⟨aT _,fun j h=>by omega⟩ rfl (by simp [iL]) ?_
   rintro k g j ⟨hk,ha⟩
   have o:k < t.kids.length→CT 100 [cU s,elT (t.kids.getD k default)] (.b (pI s (t.kids.getD k default))):=fun h=>ih _ (cC h)
   refine zg ?_
   (refine zt1 o ?_; repeat' first | exact trivial | refine zJ ?_ ?_ | refine zH fun hc=>?_)
   · exact aP (by rw [e,V4 k (by omega) hc,aS]) rfl
   · exact ⟨k+1,_,⟨by omega,dS ha hc⟩,by omega,rfl,by simp⟩
   · rw [wX (fun j hj=>ha j (by omega)),aM,if_pos hc] at e
     have c1:=bFc s t.text
     cases h1:aVj s t.text with
     | none=>
       rw [h1] at c1
       simp only [aCa,h1] at e
       (repeat' (first | refine gT ?_ ?_ | refine gF ?_ ?_ | refine gC ?_ ?_ | ((refine bI (c1) ?_ ?_; (focus (simp -implicitDefEqProofs (disch:=omega) only [oY,cU,zdB,go_sem,simprocAttr]; done))); simp -implicitDefEqProofs (disch:=omega) only [oY,cU,go_sem,simprocAttr]) | refine bM (by omega) ?_ | (intro hr; have hc:=hr; (try simp only [zdz] at hc); simp -implicitDefEqProofs (disch:=omega) only [hr,oY,cU,go_sem,simprocAttr]; (try clear hr))))
       all_goals exact aP (by rw [e]) rfl
     | some q=>
       rw [h1] at c1
       simp only [aCa,h1] at e
       (repeat' (first | refine gT ?_ ?_ | refine gF ?_ ?_ | refine gC ?_ ?_ | ((refine bI (c1) ?_ ?_; (focus (simp -implicitDefEqProofs (disch:=omega) only [oY,cU,zdB,go_sem,simprocAttr]; done))); simp -implicitDefEqProofs (disch:=omega) only [oY,cU,go_sem,simprocAttr]) | refine bM (by omega) ?_ | (intro hr; have hc:=hr; (try simp only [zdz] at hc); simp -implicitDefEqProofs (disch:=omega) only [hr,oY,cU,go_sem,simprocAttr]; (try clear hr))))
       · have hn:¬ q.args.length=t.kids.length:=by omega
         rw [zf hn,aS] at e
         exact aP (by rw [e]) rfl
       have hn:q.args.length=t.kids.length:=by omega
       rw [zt hn,aM] at e
       refine jW (fun (k:Nat)=>[.k,.k,.k,.k,.j,.k,.k,.k,.k,.j,.j,.k,.k,.k,.k,.k,.k,.k,.k,.k,.k,.k,.k,.k,.k,.k,.k,.k,.k,.k,.k,.k,.k,.k,.k,.k,.k,.k,.k,.k,.k,.k,.k,.k,.k,.k,.k,.k,.k,.k,.k,.k,.k,.k,.k,.k,.k,.k,.v (.i .i64 (k:Nat)),.j,.j,.j,.j,.j,.j,.j,.j,.j,.j,.j,.j,.j,.j,.j,.j,.k,.k,.k,.k,.k,.k,.k,.k,.k,.k,.k,.k,.k,.k,.k,.k,.k,.k,.k,.k,.k,.k,.k,.k,.k,.k,.k,.k,.k,.k,.k,.k,.k,.k,.k]) (fun k=>(.box false [.i .i64 (t).kind,.i .i64 (t).n,.s (t).text,.s (t).sort,.sl ((t).kids.flatMap aE) (t).kids.length,.sl ((t).rest.flatMap aE) (t).rest.length]::(g++[.box false (dA q)]))) (fun k=>k≤t.kids.length∧∀ j,j < k→vX s (B3 s (t.kids.getD j default)) (q.args.getD j [])=true) (fun k=>t.kids.length - k) (0) [] ⟨aT _,fun j h=>by omega⟩ (by simp [avs,avb,avi,avo,dA,cB]) (by simp [iL]) ?_
       rintro kk g2 j2 ⟨hkk,ha2⟩
       refine zg ?_
       (refine zt2 (aMq s (t.kids.getD kk default)) (aSq s (B3 s (t.kids.getD kk default)) (q.args.getD kk []) hs) ?_; repeat' first | exact trivial | refine zJ ?_ ?_ | refine zH fun hc=>?_)
       · exact aP (by rw [e,qW kk (by omega) hc]) rfl
       · exact ⟨kk+1,_,⟨by omega,dS ha2 hc⟩,by omega,rfl,by simp⟩
       · exact aP (by rw [e,zU (fun j hj=>ha2 j (by omega))]) rfl
   · rw [wX (fun j hj=>ha j (by omega)),aM,if_neg (by assumption),if_pos hc] at e
     refine dD (fun (i:Nat)=>[.k,.k,.k,.k,.j,.k,.k,.k,.k,.k,.k,.v (.i .i64 ((2 * i:Nat):Int)),.k,.k,.k,.k,.k,.k,.k,.k,.k,.k,.k,.k,.k,.k,.k,.k,.k,.k,.k,.k,.k,.k,.k,.k,.k,.k,.k,.k,.k,.k,.k,.k,.k,.k,.k,.k,.k,.k,.k,.k,.k,.k,.k,.k,.k,.k,.k,.k,.k,.k,.k,.k,.k,.k,.k,.k,.k,.k,.k,.k,.k,.k,.k,.k,.k,.j,.j,.j,.j,.j,.j,.j,.j,.j,.j,.j,.j,.j,.j,.j,.j,.j,.j,.j,.j,.j,.j,.j,.j,.j,.j,.j,.j,.j,.j,.j,.j,.j]) (fun i=>(.box false [.i .i64 (t).kind,.i .i64 (t).n,.s (t).text,.s (t).sort,.sl ((t).kids.flatMap aE) (t).kids.length,.sl ((t).rest.flatMap aE) (t).rest.length]::g)) (fun i=>2 * i≤t.kids.length+1∧∀ j,j < i→B7 Q9 t j=true) (fun i=>t.kids.length+1 - 2 * i) (0) ⟨aT _,fun j h=>by omega⟩ rfl (by simp [iL]) ?_
     rintro i j2 ⟨hi,ha2⟩
     have h0:(((2 * i:Nat):Int) - 2).toNat=2 * i - 2:=by omega
     have o1:2 * i < t.kids.length→OkT (t.kids.getD (2 * i) default):=fun h=>ht.kid _ (cC h)
     have o2:2 * i < t.kids.length→OkT (t.kids.getD (2 * i - 2) default):=fun h=>ht.kid _ (cC (by omega))
     refine zh h0 ?_
     (repeat' (first | refine gT ?_ ?_ | refine gF ?_ ?_ | refine gC ?_ ?_ | ((first | refine cF (aMp (t.kids.getD (2 * i) default)) ?_ | refine cF (bGo (t.kids.getD (2 * i - 2) default) (t.kids.getD (2 * i) default) (o2 (by omega)) (o1 (by omega))) ?_); simp -implicitDefEqProofs (disch:=omega) only [h0,go_sem,simprocAttr]) | refine bM (by omega) ?_ | (intro hr; have hc:=hr; (try simp only [zdz] at hc); simp -implicitDefEqProofs (disch:=omega) only [hr,h0,go_sem,simprocAttr]; (try clear hr))))
     · exact aP (by rw [e,R8,qW i (by omega) (aRo (by assumption) hc)]) rfl
     · exact ⟨i+1,⟨by omega,dS ha2 (aLa (by assumption) hc)⟩,by omega,by rw [show ((2 * (i+1):Nat):Int)=((2 * i:Nat):Int)+2 by omega]⟩
     · exact ⟨i+1,⟨by omega,dS ha2 (aZt (by assumption) hc)⟩,by omega,by rw [show ((2 * (i+1):Nat):Int)=((2 * i:Nat):Int)+2 by omega]⟩
     · exact aP (by rw [e,R8,qW i (by omega) (aLb hc)]) rfl
     · exact aP (by rw [e,R8,zU (fun j hj=>ha2 j (by omega))]) rfl
   · rw [wX (fun j hj=>ha j (by omega)),aM,if_neg (by assumption),if_neg (by assumption)] at e
     exact aP (by rw [e]) rfl
   · exfalso; omega
theorem bGr (s:dF) (hs:Small s):∀ (t:LTerm),OkT t→CT 100 [cU s,elT t] (.b (pI s t)):=
 fR fun t hk _ ht=>aTd s t hs ht (fun k hm=>hk k hm (ht.kid k hm))

structure ZN (t:LTerm):Prop where
 a:t.kind=1∨t.kind=2→t.text=[]∧t.sort=[]∧t.kids=[]∧t.rest=[]
 b:t.kind=3∨t.kind=4→t.n=0∧t.sort=[]∧t.kids=[]∧t.rest=[]
 c:t.kind=5→t.n=0∧t.sort=[]∧t.rest=[]
 d:t.kind=6→t.n=0∧t.kids=[]∧t.rest=[]
 e:t.kind=7∨t.kind=8→t.n=0∧t.text=[]∧t.sort=[]
 f:1≤t.kind∧t.kind≤8
theorem nV {t:LTerm} {a b c d e:Bool} (h:gS t a b c d e=true):(a=false→t.n=0)∧(b=false→t.text=[])∧(c=false→t.sort=[])∧(d=false→t.kids=[])∧(e=false→t.rest=[]):=by
 simp only [gS,aB,cL,decide_eq_true_eq] at h
 obtain ⟨⟨⟨⟨h1,h2⟩,h3⟩,h4⟩,h5⟩:=h
 exact ⟨fun h=>h1.resolve_left (by simp [h]),fun h=>h2.resolve_left (by simp [h]),fun h=>h3.resolve_left (by simp [h]),fun h=>h4.resolve_left (by simp [h]),fun h=>h5.resolve_left (by simp [h])⟩
theorem aYz {t:LTerm} (h:nodeB t=true):ZN t:=by
 have two:∀ {x y:Bool},(x && y)=true→x=true∧y=true:=by simp
 unfold nodeB at h
 split at h
 · have z:=nV (two h).2
   exact ⟨fun _=>⟨z.2.1 rfl,z.2.2.1 rfl,z.2.2.2.1 rfl,z.2.2.2.2 rfl⟩,fun _=>by omega,fun _=>by omega,fun _=>by omega,fun _=>by omega,by omega⟩
 split at h
 · have z:=nV (two h).2
   exact ⟨fun _=>⟨z.2.1 rfl,z.2.2.1 rfl,z.2.2.2.1 rfl,z.2.2.2.2 rfl⟩,fun _=>by omega,fun _=>by omega,fun _=>by omega,fun _=>by omega,by omega⟩
 split at h
 · have z:=nV (two h).2
   exact ⟨fun _=>by omega,fun _=>⟨z.1 rfl,z.2.2.1 rfl,z.2.2.2.1 rfl,z.2.2.2.2 rfl⟩,fun _=>by omega,fun _=>by omega,fun _=>by omega,by omega⟩
 split at h
 · have z:=nV (two h).2
   exact ⟨fun _=>by omega,fun _=>⟨z.1 rfl,z.2.2.1 rfl,z.2.2.2.1 rfl,z.2.2.2.2 rfl⟩,fun _=>by omega,fun _=>by omega,fun _=>by omega,by omega⟩
 split at h
 · have z:=nV (two h).2
   exact ⟨fun _=>by omega,fun _=>by omega,fun _=>⟨z.1 rfl,z.2.2.1 rfl,z.2.2.2.2 rfl⟩,fun _=>by omega,fun _=>by omega,by omega⟩
 split at h
 · have z:gS t false true true false false=true:=by
     split at h
     · exact (two h).2
     · exact (two h).2
   have z:=nV z
   exact ⟨fun _=>by omega,fun _=>by omega,fun _=>by omega,fun _=>⟨z.1 rfl,z.2.2.2.1 rfl,z.2.2.2.2 rfl⟩,fun _=>by omega,by omega⟩
 split at h
 · have z:=nV (two h).2
   exact ⟨fun _=>by omega,fun _=>by omega,fun _=>by omega,fun _=>by omega,fun _=>⟨z.1 rfl,z.2.1 rfl,z.2.2.1 rfl⟩,by omega⟩
 split at h
 · have z:=nV (two h).2
   exact ⟨fun _=>by omega,fun _=>by omega,fun _=>by omega,fun _=>by omega,fun _=>⟨z.1 rfl,z.2.1 rfl,z.2.2.1 rfl⟩,by omega⟩
 · cases h
theorem aIz {t:LTerm} {so:Str} (h:uH t so=true):∀ r ∈ t.rest,ZN r∧r.kids=[]∧r.rest=[]:=by
 intro r hr
 simp only [uH,cL,aB,decide_eq_true_eq] at h
 rcases h with h | ⟨⟨⟨⟨h1,h2⟩,h3⟩,h4⟩,h5⟩
 · rw [bO] at h; rw [h] at hr; cases hr
 · obtain ⟨x,hx⟩:=List.length_eq_one_iff.1 h1
   rw [hx] at hr h2 h5
   simp only [bA] at hr
   subst hr
   simp only [iT] at h2 h5
   have z:=nV h5
   exact ⟨⟨fun _=>by omega,fun _=>by omega,fun _=>by omega,fun _=>⟨z.1 rfl,z.2.2.2.1 rfl,z.2.2.2.2 rfl⟩,fun _=>by omega,by omega⟩,z.2.2.2.1 rfl,z.2.2.2.2 rfl⟩
theorem aKn {t:LTerm} (h:nodeB t=true):∀ r ∈ t.rest,ZN r∧r.kids=[]∧r.rest=[]:=by
 have two:∀ {x y:Bool},(x && y)=true→x=true∧y=true:=by simp
 have z:=aYz h
 intro r hr
 have hne:t.rest ≠ []:=fun e=>by rw [e] at hr; cases hr
 have h7:t.kind=7∨t.kind=8:=by
   rcases z.f with ⟨f1,f2⟩
   by_cases h1:t.kind=1∨t.kind=2
   · exact absurd (z.a h1).2.2.2 hne
   by_cases h3:t.kind=3∨t.kind=4
   · exact absurd (z.b h3).2.2.2 hne
   by_cases h5:t.kind=5
   · exact absurd (z.c h5).2.2 hne
   by_cases h6:t.kind=6
   · exact absurd (z.d h6).2.2 hne
   omega
 unfold nodeB at h
 rw [if_neg (by omega),if_neg (by omega),if_neg (by omega),if_neg (by omega),if_neg (by omega),if_neg (by omega)] at h
 split at h
 · exact aIz (two h).1 r hr
 · split at h
   · exact aIz (two (two h).1).1 r hr
   · cases h
theorem aHm {p:LTerm→Bool} {t:LTerm}:wfT p t=true↔p t=true∧∀ k ∈ t.kids,wfT p k=true:=by
 have hl:∀ l:List LTerm,wfL p l=true↔∀ k ∈ l,wfT p k=true:=by
   intro l
   induction l with
   | nil=>simp [wfL]
   | cons a l ih=>simp [wfL,ih]
 cases t
 rw [wfT,aB,hl]; rfl

def nK (s:dF) (t:LTerm):Bool:=jQ nodeB t && pI s t
theorem aMs (s:dF) (t:LTerm) (hs:Small s) (ht:OkT t): CT 50 [cU s,elT t] (.b (nK s t)):=by
 refine aQ mixed Tryz.func50 g0 ?_
 · skip
   (refine zt2 (aMr t ht) (bGr s hs t ht) ?_; repeat' first | exact trivial | refine zJ ?_ ?_ | refine zH fun hc=>?_)
   all_goals refine aP ?_ rfl
   all_goals simp only [nK, *,aM,aS]
theorem aPa {t:LTerm} (h:jQ nodeB t=true):wfT nodeB t=true:=by
 simp only [jQ,aB] at h; exact h.1.1

theorem aVf {H g:List AObj} {out:AV} {l:List LTerm} (h:fD 6 0 g out (l.flatMap aE) l.length) (hH:H=g):Rd6 H out l:=by
 subst hH
 rcases h with ⟨rfl,hn,h0⟩ | ⟨i,rfl,hi,hl⟩
 · exact .inl ⟨rfl,bO.1 (by omega)⟩
 · refine .inr (.inr ⟨i+0,0,_,_,_,rfl,(by simpa using hi),by omega,?_⟩)
   rw [dX,aJ (by omega)]
theorem aVu {H:List AObj} {v:AV} {l:List LTerm} (r:Rd6 H v l):Fin H v (.sl (l.flatMap aE) l.length):=by
 have e:=aYb r
 have e1:kQ H v (.sl (l.flatMap aE) l.length):=e.1
 have e2:cD v (.sl (l.flatMap aE) l.length)=[]:=e.2
 exact .inr ⟨e1,by rw [e2]; exact fL,by rw [e2]; simp⟩
theorem aEu {l:List LTerm} {k:Nat} (h:k < l.length):(l.take (k+1)).flatMap aE=(l.take k).flatMap aE++aE (l.getD k default):=by
 rw [fZ (d:=default) h,eJ]; simp
theorem gI {α:Type} {l:List α}:(List.replicate 1 l).flatten=l:=by simp
theorem aDl (l:List LTerm) (hl:l.length≤1466015503701) (ih:∀ t ∈ l,CT 44 [elT t] (elT t)): CT 78 [avt l] (avt l):=by
 refine cX mixed Tryz.func78 g0 ?_
 · simp -implicitDefEqProofs (disch:=omega) only [Tryz.f78,go_sem,List.replicate,↓reduceIte,reduceAdd,reduceSub,reduceMul,reduceLeDiff,reduceLT,reduceEqDiff,reduceNeg,Nat.reduceBEq,avt]
   refine dD (fun (s:Nat × AV × List AObj)=>[.k,.k,.k,.v (s.2.1),.k,.j,.k,.k,.v (.i .i64 (s.1:Nat)),.j,.j,.j,.j,.j,.j,.j,.j,.j,.k]) (fun s=>s.2.2) (fun s=>s.1≤l.length∧fD 6 0 s.2.2 s.2.1 ((l.take s.1).flatMap aE) s.1) (fun s=>l.length - s.1) ((0,.e0,[])) ⟨aT _,kK⟩ rfl (by simp [iL]) ?_
   rintro ⟨k,out,g⟩ j ⟨hk,ho⟩
   dsimp only at hk ho
   have o:k < l.length→CT 44 [elT (l.getD k default)] (elT (l.getD k default)):=fun h=>ih _ (cC h)
   refine zg ?_
   (repeat' (first | refine gT ?_ ?_ | refine gF ?_ ?_ | refine gC ?_ ?_ | ((refine bI ((o (by omega))) ?_ ?_; (focus (simp -implicitDefEqProofs (disch:=omega) only [gI,zdB,go_sem,↓reduceIte,reduceAdd,reduceSub,reduceMul,reduceLeDiff,reduceLT,reduceEqDiff,reduceNeg,Nat.reduceBEq]; done))); simp -implicitDefEqProofs (disch:=omega) only [gI,go_sem,↓reduceIte,reduceAdd,reduceSub,reduceMul,reduceLeDiff,reduceLT,reduceEqDiff,reduceNeg,Nat.reduceBEq]) | refine bM (by omega) ?_ | (intro hr; have hc:=hr; (try simp only [zdz] at hc); simp -implicitDefEqProofs (disch:=omega) only [hr,gI,go_sem,↓reduceIte,reduceAdd,reduceSub,reduceMul,reduceLeDiff,reduceLT,reduceEqDiff,reduceNeg,Nat.reduceBEq]; (try clear hr))))
   · refine fE (pre:=[]) (g:=g++[.box false [.i .i64 (l.getD k default).kind,.i .i64 (l.getD k default).n,.s (l.getD k default).text,.s (l.getD k default).sort,.sl ((l.getD k default).kids.flatMap aE) (l.getD k default).kids.length,.sl ((l.getD k default).rest.flatMap aE) (l.getD k default).rest.length]]) (more:=[.arr false 6 ([.i .i64 (l.getD k default).kind,.i .i64 (l.getD k default).n,.s (l.getD k default).text,.s (l.getD k default).sort,.sl ((l.getD k default).kids.flatMap aE) (l.getD k default).kids.length,.sl ((l.getD k default).rest.flatMap aE) (l.getD k default).rest.length])]) (news:=[.i .i64 (l.getD k default).kind,.i .i64 (l.getD k default).n,.s (l.getD k default).text,.s (l.getD k default).sort,.sl ((l.getD k default).kids.flatMap aE) (l.getD k default).kids.length,.sl ((l.getD k default).rest.flatMap aE) (l.getD k default).rest.length]) (m:=1) ((ho).more _) rfl (by simp -implicitDefEqProofs (disch:=omega) only [go_sem,↓reduceIte,reduceAdd,reduceSub,reduceMul,reduceLeDiff,reduceLT,reduceEqDiff,reduceNeg,Nat.reduceBEq]) bLy bJl bJw bMo rfl (by decide) (by simp -implicitDefEqProofs (disch:=omega) only [go_sem,↓reduceIte,reduceAdd,reduceSub,reduceMul,reduceLeDiff,reduceLT,reduceEqDiff,reduceNeg,Nat.reduceBEq]) (by simp -implicitDefEqProofs (disch:=omega) only [go_sem,↓reduceIte,reduceAdd,reduceSub,reduceMul,reduceLeDiff,reduceLT,reduceEqDiff,reduceNeg,Nat.reduceBEq]) ⟨by omega,by omega⟩ ?_
     intro out' g' ho' _
     refine zg ?_
     refine ⟨(k+1,out',g'),⟨by dsimp only; omega,?_⟩,by dsimp only; omega,rfl,by simp⟩
     dsimp only
     rw [aEu (by omega),bT]
     exact ho'
   · have h1:k=l.length:=by omega
     subst h1
     rw [jB] at ho
     exact aVu (aVf ho rfl)
theorem aTe (t:LTerm) (ihk:CT 78 [avt t.kids] (avt t.kids)) (ihr:CT 78 [avt t.rest] (avt t.rest)): CT 44 [elT t] (elT t):=by
 refine aQ mixed Tryz.func44 g0 ?_
 · skip
   (refine zt2 ihk ihr ?_; repeat' first | exact trivial | refine zJ ?_ ?_ | refine zH fun hc=>?_)
   all_goals exact aP rfl (by simp only [pers,persL,iF,dV])
theorem aWl:∀ (t:LTerm),OkT t→CT 44 [elT t] (elT t):=
 fR fun t hk hr ht=>aTe t (aDl t.kids ht.kids fun x hx=>hk x hx (ht.kid x hx)) (aDl t.rest ht.rest fun x hx=>hr x hx (ht.rst x hx))
end Go.Proofs.YtifefbhllfdmlaaGreatDoor
