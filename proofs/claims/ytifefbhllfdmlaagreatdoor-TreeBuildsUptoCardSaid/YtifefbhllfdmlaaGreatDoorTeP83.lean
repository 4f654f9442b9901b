/-
  How terms are measured: plain laws; no condition beyond those that each theorem names.
-/
import Derived.Test.YtifefbhllfdmlaaGreatDoorTeP82
import Derived.Test.YtifefbhllfdmlaaGreatDoorSoP83
import Derived.Test.YtifefbhllfdmlaaGreatDoorTeP81
import Derived.Test.YtifefbhllfdmlaaGreatDoorVoP85
set_option maxRecDepth 100000
set_option linter.unusedSimpArgs false
set_option linter.unusedVariables false
set_option maxHeartbeats 4000000
namespace Go.Proofs.YtifefbhllfdmlaaGreatDoor
open Go Go.Vo
open Nat (reduceAdd reduceSub reduceMul reduceLeDiff reduceLT reduceEqDiff)
open Int (reduceNeg)

def kT:Str:=[73,110,116]
def lE:Str:=[66,111,111,108]
def xG:Str:=[84,101,120,116]
def idS:Str:=[73,100]
def aMz (s:Str):List Str:=if s=[97,100,100] then [kT,kT] else if s=[115,117,98] then [kT,kT] else if s=[109,117,108] then [kT,kT] else if s=[100,105,118] then [kT,kT] else if s=[109,111,100] then [kT,kT] else if s=[108,116] then [kT,kT] else if s=[108,101] then [kT,kT] else if s=[103,116] then [kT,kT] else if s=[103,101] then [kT,kT] else if s=[110,101,103] then [kT] else if s=[116,101,120,116] then [kT] else if s=[101,113] then [pP,pP] else if s=[110,101] then [pP,pP] else if s=[97,110,100] then [lE,lE] else if s=[111,114] then [lE,lE] else if s=[110,111,116] then [lE] else if s=[112,105,99,107] then [lE,pP,pP] else if s=[99,97,116] then [xG,xG] else if s=[108,101,110,103,116,104] then [sA] else if s=[106,111,105,110] then [sA,sA] else if s=[103,101,116] then [E4,pP] else if s=[104,97,115] then [E4,pP] else if s=[100,101,108] then [E4,pP] else if s=[112,117,116] then [E4,pP,pP] else if s=[107,101,121,115] then [E4] else if s=[115,105,122,101] then [E4] else if s=[105,115] then [pP,xG] else [pP]
def xJ (s:Str):Str:=if s=[97,100,100] then kT else if s=[115,117,98] then kT else if s=[109,117,108] then kT else if s=[100,105,118] then kT else if s=[109,111,100] then kT else if s=[110,101,103] then kT else if s=[108,101,110,103,116,104] then kT else if s=[115,105,122,101] then kT else if s=[99,97,116] then xG else if s=[116,101,120,116] then xG else if s=[106,111,105,110] then sA else if s=[107,101,121,115] then sA else if s=[112,117,116] then E4 else if s=[100,101,108] then E4 else if s=[112,105,99,107] then pP else if s=[103,101,116] then pP else lE
def H5 (s:Str):List Str × Str:=if s=[97,100,100] then ([kT,kT],kT) else if s=[115,117,98] then ([kT,kT],kT) else if s=[109,117,108] then ([kT,kT],kT) else if s=[100,105,118] then ([kT,kT],kT) else if s=[109,111,100] then ([kT,kT],kT) else if s=[110,101,103] then ([kT],kT) else if s=[108,116] then ([kT,kT],lE) else if s=[108,101] then ([kT,kT],lE) else if s=[103,116] then ([kT,kT],lE) else if s=[103,101] then ([kT,kT],lE) else if s=[101,113] then ([pP,pP],lE) else if s=[110,101] then ([pP,pP],lE) else if s=[97,110,100] then ([lE,lE],lE) else if s=[111,114] then ([lE,lE],lE) else if s=[110,111,116] then ([lE],lE) else if s=[112,105,99,107] then ([lE,pP,pP],pP) else if s=[99,97,116] then ([xG,xG],xG) else if s=[108,101,110,103,116,104] then ([sA],kT) else if s=[116,101,120,116] then ([kT],xG) else if s=[106,111,105,110] then ([sA,sA],sA) else if s=[103,101,116] then ([E4,pP],pP) else if s=[112,117,116] then ([E4,pP,pP],E4) else if s=[104,97,115] then ([E4,pP],lE) else if s=[100,101,108] then ([E4,pP],E4) else if s=[107,101,121,115] then ([E4],sA) else if s=[115,105,122,101] then ([E4],kT) else if s=[105,115] then ([pP,xG],lE) else ([pP],lE)
def strs:List AV→List Str
 | .s x::l=>x::strs l
 | _=>[]
theorem Z3 {H:List AObj} {i:Nat} {fz t:Bool} {l:List Str} (h1:H[i]? = some (.arr fz 1 (l.map .s))):avs l=gH dep H (.hs i 0 l.length t):=by
 simp only [fV,pers,rH,h1,aM,if_false,cM,Nat.mul_one,eH,aZ,if_true,cZ]
 rw [aH (by simp)]
 simp only [jW,if_true,avs]
theorem aIk {H:List AObj} {i n:Nat} {cells:List AV} {fz t:Bool} {l:List Str} (h1:H[i]? = some (.arr fz 1 cells)) (hl:l=strs cells) (hc:(strs cells).map .s=cells) (hn:n=(strs cells).length):Fin H (.hs i 0 n t) (avs l):=by
 rw [← hl] at hc hn
 rw [← hc] at h1
 subst hn
 exact .inr ⟨Z3 h1,by simp [bW,avs],by simp [bW,avs]⟩
theorem aBu {H:List AObj} {i n:Nat} {cells:List AV} {fz t:Bool} {l:List Str} {r r':Str} (h1:H[i]? = some (.arr fz 1 cells)) (hl:(l,r')=(strs cells,r)) (hc:(strs cells).map .s=cells) (hn:n=(strs cells).length):Fin H (.tup [.hs i 0 n t,.s r]) (.tup [avs l,.s r']):=by
 injection hl with hl hr
 rw [← hl] at hc hn
 rw [← hc] at h1
 subst hn hr
 exact .inr ⟨⟨Z3 h1,rfl,trivial⟩,by simp [bW,finIdsL,avs],by simp [bW,finIdsL,avs]⟩
theorem bQi (s:Str): CT 253 [.s s] (avs (aMz s)):=by
 refine aL mixed Tryz.func253 g0 ?_
 · skip
   (refine zs0 ?_; repeat' first | exact trivial | refine zJ ?_ ?_ | refine zH fun hc=>?_)
   all_goals first
     | (subst hc; exact aIk rfl (by decide +kernel) rfl rfl)
     | (simp only [aMz, *,if_false]; exact aIk rfl rfl rfl rfl)
theorem bQh (s:Str): CT 254 [.s s] (.s (xJ s)):=by
 refine aL mixed Tryz.func254 g0 ?_
 · skip
   (refine zs0 ?_; repeat' first | exact trivial | refine zJ ?_ ?_ | refine zH fun hc=>?_)
   all_goals first
     | (subst hc; exact aF (congrArg AV.s (by decide +kernel)) rfl)
     | (simp only [xJ, *,if_false]; exact aF rfl rfl)
theorem bQm (s:Str): CT 255 [.s s] (.tup [avs (H5 s).1,.s (H5 s).2]):=by
 refine aL mixed Tryz.func255 g0 ?_
 · skip
   (refine zs0 ?_; repeat' first | exact trivial | refine zJ ?_ ?_ | refine zH fun hc=>?_)
   all_goals first
     | (subst hc; exact aBu rfl (by decide +kernel) rfl rfl)
     | (simp only [H5, *,if_false]; exact aBu rfl rfl rfl rfl)
def sK (x:Str):Option LOp:=if iJ.contains x then some ⟨x,aMz x,xJ x,[],0,0,[]⟩ else none
theorem sZ {H:List AObj} {o o':LOp} {a b a' b':Bool} (h:(o',a',b')=(o,a,b)):Fin H (.tup [.agg [.s o.name,.sl (o.args.map .s) o.args.length,.s o.sort,.sl (o.pieces.flatMap cD) o.pieces.length,.i .i64 o.prec,.i .i64 o.assoc,.sl (o.strict.map (.i .i64)) o.strict.length],.b a,.b b]) (.tup [.agg [.s o'.name,.sl (o'.args.map .s) o'.args.length,.s o'.sort,.sl (o'.pieces.flatMap cD) o'.pieces.length,.i .i64 o'.prec,.i .i64 o'.assoc,.sl (o'.strict.map (.i .i64)) o'.strict.length],.b a',.b b']):=by
 injection h with h1 h2; injection h2 with h2 h3
 subst h1 h2 h3
 exact aF rfl (by simp only [pers,persL,jW,iR,eP,dY])
theorem aSc {H:List AObj} {x r:Str} {l:List Str}:Fin H (.tup [.agg [.s x,.sl (l.map .s) l.length,.s r,.e0,.i .i64 0,.i .i64 0,.e0],.b true]) (.tup [elO ⟨x,l,r,[],0,0,[]⟩,.b true]):=
 .inr ⟨⟨⟨rfl,by show _=gH dep H _; simp only [fV,pers,jW,if_true]; rfl,rfl,rfl,rfl,rfl,rfl,trivial⟩,rfl,trivial⟩,by simp [elO,bK,bW,finIdsL,avs,avb,avi],by simp [elO,bK,bW,finIdsL,avs,avb,avi]⟩
theorem bQn (x:Str): CT 226 [.s x] (rJ (sK x)):=by
 refine aL mixed Tryz.func226 g0 ?_
 · skip
   (refine zt3 (bIy x) (bQi x) (bQh x) ?_; repeat' first | exact trivial | refine zJ ?_ ?_ | refine zH fun hc=>?_)
   · rw [sK,if_neg (by rw [hc]; simp)]
     exact aBt
   · rw [sK,if_pos hc]
     exact aSc
def called (s:bZ) (x:Str):LOp × Bool × Bool:=match J9 s x with
 | some o=>(o,false,true)
 | none=>match F0 s x with
   | some o=>(o,true,true)
   | none=>match sK x with
     | some o=>(o,true,true)
     | none=>(default,true,false)
theorem aSy (s:bZ) (x:Str): CT 185 [cX s,.s x] (.tup [elO (called s x).1,.b (called s x).2.1,.b (called s x).2.2]):=by
 refine aL mixed Tryz.func185 g0 ?_
 · skip
   have c1:=bNu s x
   have c2:=bWd s x
   have c3:=bQn x
   cases h1:J9 s x with
   | some o=>
     rw [h1] at c1
     (repeat' (first | refine gT ?_ ?_ | refine gF ?_ ?_ | refine gC ?_ ?_ | ((refine bF (c1) ?_ ?_; (focus (simp -implicitDefEqProofs (disch:=omega) only [rJ,zdB,go_sem,simprocAttr]; done))); simp -implicitDefEqProofs (disch:=omega) only [rJ,go_sem,simprocAttr]) | refine bB (by omega) ?_ | (intro hr; have hc:=hr; (try simp only [zdz] at hc); simp -implicitDefEqProofs (disch:=omega) only [hr,rJ,go_sem,simprocAttr]; (try clear hr))))
     exact sZ (by simp only [called,h1])
   | none=>
   rw [h1] at c1
   cases h2:F0 s x with
   | some o=>
     rw [h2] at c2
     (repeat' (first | refine gT ?_ ?_ | refine gF ?_ ?_ | refine gC ?_ ?_ | ((first | (refine bF (c1) ?_ ?_; (focus (simp -implicitDefEqProofs (disch:=omega) only [rJ,zdB,go_sem,simprocAttr]; done))) | (refine bF (c2) ?_ ?_; (focus (simp -implicitDefEqProofs (disch:=omega) only [rJ,zdB,go_sem,simprocAttr]; done)))); simp -implicitDefEqProofs (disch:=omega) only [rJ,go_sem,simprocAttr]) | refine bB (by omega) ?_ | (intro hr; have hc:=hr; (try simp only [zdz] at hc); simp -implicitDefEqProofs (disch:=omega) only [hr,rJ,go_sem,simprocAttr]; (try clear hr))))
     exact sZ (by simp only [called,h1,h2])
   | none=>
   rw [h2] at c2
   cases h3:sK x with
   | some o=>
     rw [h3] at c3
     (repeat' (first | refine gT ?_ ?_ | refine gF ?_ ?_ | refine gC ?_ ?_ | ((first | (refine bF (c1) ?_ ?_; (focus (simp -implicitDefEqProofs (disch:=omega) only [rJ,zdB,go_sem,simprocAttr]; done))) | (refine bF (c2) ?_ ?_; (focus (simp -implicitDefEqProofs (disch:=omega) only [rJ,zdB,go_sem,simprocAttr]; done))) | (refine bF (c3) ?_ ?_; (focus (simp -implicitDefEqProofs (disch:=omega) only [rJ,zdB,go_sem,simprocAttr]; done)))); simp -implicitDefEqProofs (disch:=omega) only [rJ,go_sem,simprocAttr]) | refine bB (by omega) ?_ | (intro hr; have hc:=hr; (try simp only [zdz] at hc); simp -implicitDefEqProofs (disch:=omega) only [hr,rJ,go_sem,simprocAttr]; (try clear hr))))
     exact sZ (by simp only [called,h1,h2,h3])
   | none=>
     rw [h3] at c3
     (repeat' (first | refine gT ?_ ?_ | refine gF ?_ ?_ | refine gC ?_ ?_ | ((first | (refine bF (c1) ?_ ?_; (focus (simp -implicitDefEqProofs (disch:=omega) only [rJ,zdB,go_sem,simprocAttr]; done))) | (refine bF (c2) ?_ ?_; (focus (simp -implicitDefEqProofs (disch:=omega) only [rJ,zdB,go_sem,simprocAttr]; done))) | (refine bF (c3) ?_ ?_; (focus (simp -implicitDefEqProofs (disch:=omega) only [rJ,zdB,go_sem,simprocAttr]; done)))); simp -implicitDefEqProofs (disch:=omega) only [rJ,go_sem,simprocAttr]) | refine bB (by omega) ?_ | (intro hr; have hc:=hr; (try simp only [zdz] at hc); simp -implicitDefEqProofs (disch:=omega) only [hr,rJ,go_sem,simprocAttr]; (try clear hr))))
     exact sZ (by simp only [called,h1,h2,h3])
def kZ (s:bZ) (t:LTerm):Str:=if t.kind=1 then kT else if t.kind=2 then lE else if t.kind=3 then xG else if t.kind=4 then idS else if t.kind=7 then sA else if t.kind=8 then E4 else if t.kind=5 then (called s t.text).1.sort else if existsA s t.sort then t.sort else []
theorem aTa (s:bZ) (t:LTerm): CT 159 [cX s,elT t] (.s (kZ s t)):=by
 refine aL mixed Tryz.func159 g0 ?_
 · skip
   (refine zt2 (aSy s t.text) (T5 s t.sort) ?_; repeat' first | exact trivial | refine zJ ?_ ?_ | refine zH fun hc=>?_)
   all_goals refine aF (congrArg AV.s ?_) rfl
   all_goals simp only [kZ, *,if_true,if_false,aM,Int.reduceEq]
   all_goals rfl
def argsR2 (s:bZ) (x:Str):List Str × Str × Bool:=match J9 s x with
 | some o=>(o.args,o.sort,true)
 | none=>match F0 s x with
   | some o=>(o.args,o.sort,true)
   | none=>if iJ.contains x then ((H5 x).1,(H5 x).2,true) else ([],[],false)
theorem F5 {H:List AObj} {l l':List Str} {r r':Str} {b b':Bool} (h:(l',r',b')=(l,r,b)):Fin H (.tup [.sl (l.map .s) l.length,.s r,.b b]) (.tup [.sl (l'.map .s) l'.length,.s r',.b b']):=by
 injection h with h1 h2; injection h2 with h2 h3
 subst h1 h2 h3
 exact aF rfl (by simp only [pers,persL,jW,dY])
theorem aSd {H:List AObj} {l':List Str} {r r':Str} {b b':Bool} (h:(l',r',b')=([],r,b)):Fin H (.tup [.e0,.s r,.b b]) (.tup [.sl (l'.map .s) l'.length,.s r',.b b']):=by
 injection h with h1 h2; injection h2 with h2 h3
 subst h1 h2 h3
 exact .inr ⟨⟨rfl,rfl,rfl,trivial⟩,by simp [bW,finIdsL],by simp [bW,finIdsL]⟩
theorem bDy (s:bZ) (x:Str) (hs:OkS s): CT 228 [.agg (aO s),.s x] (.tup [avs (argsR2 s x).1,.s (argsR2 s x).2.1,.b (argsR2 s x).2.2]):=by
 refine aL mixed Tryz.func228 g0 ?_
 · skip
   have c1:Ctr _ _ _ _ (gV (J9 s x)):=aJe s.ops x hs.ops
   have c2:Ctr _ _ _ _ (gV (F0 s x)):=aJe s.funs x hs.funs
   cases h1:J9 s x with
   | some o=>
     rw [h1] at c1
     (repeat' (first | refine gT ?_ ?_ | refine gF ?_ ?_ | refine gC ?_ ?_ | ((refine bF (c1) ?_ ?_; (focus (simp -implicitDefEqProofs (disch:=omega) only [gV,zdB,go_sem,simprocAttr]; done))); simp -implicitDefEqProofs (disch:=omega) only [gV,go_sem,simprocAttr]) | refine bB (by omega) ?_ | (intro hr; have hc:=hr; (try simp only [zdz] at hc); simp -implicitDefEqProofs (disch:=omega) only [hr,gV,go_sem,simprocAttr]; (try clear hr))))
     exact F5 (by simp only [argsR2,h1])
   | none=>
   rw [h1] at c1
   cases h2:F0 s x with
   | some o=>
     rw [h2] at c2
     (repeat' (first | refine gT ?_ ?_ | refine gF ?_ ?_ | refine gC ?_ ?_ | ((first | (refine bF (c1) ?_ ?_; (focus (simp -implicitDefEqProofs (disch:=omega) only [gV,zdB,go_sem,simprocAttr]; done))) | (refine bF (c2) ?_ ?_; (focus (simp -implicitDefEqProofs (disch:=omega) only [gV,zdB,go_sem,simprocAttr]; done)))); simp -implicitDefEqProofs (disch:=omega) only [gV,go_sem,simprocAttr]) | refine bB (by omega) ?_ | (intro hr; have hc:=hr; (try simp only [zdz] at hc); simp -implicitDefEqProofs (disch:=omega) only [hr,gV,go_sem,simprocAttr]; (try clear hr))))
     exact F5 (by simp only [argsR2,h1,h2])
   | none=>
     rw [h2] at c2
     (repeat' (first | refine gT ?_ ?_ | refine gF ?_ ?_ | refine gC ?_ ?_ | ((first | (refine bF (c1) ?_ ?_; (focus (simp -implicitDefEqProofs (disch:=omega) only [gV,zdB,go_sem,simprocAttr]; done))) | (refine bF (c2) ?_ ?_; (focus (simp -implicitDefEqProofs (disch:=omega) only [gV,zdB,go_sem,simprocAttr]; done))) | (refine bF (bIx x) ?_ ?_; (focus (simp -implicitDefEqProofs (disch:=omega) only [gV,zdB,go_sem,simprocAttr]; done))) | (refine bF (bQm x) ?_ ?_; (focus (simp -implicitDefEqProofs (disch:=omega) only [gV,zdB,go_sem,simprocAttr]; done)))); simp -implicitDefEqProofs (disch:=omega) only [gV,go_sem,simprocAttr]) | refine bB (by omega) ?_ | (intro hr; have hc:=hr; (try simp only [zdz] at hc); simp -implicitDefEqProofs (disch:=omega) only [hr,gV,go_sem,simprocAttr]; (try clear hr))))
     · exact aSd (by simp only [argsR2,h1,h2,hc,aM,if_false])
     · exact F5 (by simp only [argsR2,h1,h2,hc,if_true])
def ofR (s:bZ) (t:LTerm):Str × Bool:=if t.kind=1 then (kT,true) else if t.kind=2 then (lE,true) else if t.kind=3 then (xG,true) else if t.kind=4 then (idS,true) else if t.kind=7 then (sA,true) else if t.kind=8 then (E4,true) else if t.kind=6 then (t.sort,iL s t.sort) else ((argsR2 s t.text).2.1,(argsR2 s t.text).2.2)
theorem aJb (s:bZ) (t:LTerm) (hs:OkS s): CT 215 [.agg (aO s),elT t] (.tup [.s (ofR s t).1,.b (ofR s t).2]):=by
 refine aL mixed Tryz.func215 g0 ?_
 · skip
   (refine zt4 (bDy s t.text hs) bIu (zI oP t.sort (by decide)) (zI s.sorts t.sort hs.sorts) ?_; repeat' first | exact trivial | refine zJ ?_ ?_ | refine zH fun hc=>?_)
   all_goals refine aF ?_ rfl
   all_goals simp only [ofR,iL, *,if_true,if_false,dD,cT,Int.reduceEq]
   all_goals rfl
theorem eM (b:Bool):b=true∨b=false:=by cases b <;> simp

theorem aJc (l m:List LTerm) (hl:l.length≤1466015503701) (hm:m.length≤1466015503701) (ih:∀ a ∈ l,∀ b ∈ m,CT 74 [elT a,elT b] (.b (decide (a=b)))): CT 33 [avt l,avt m] (.b (decide (l=m))):=by
 refine bQ mixed Tryz.func33 g0 ?_
 · simp -implicitDefEqProofs (disch:=omega) only [Tryz.f33,go_sem,List.replicate,simprocAttr,avt]
   (refine zs0 ?_; repeat' first | exact trivial | refine zJ ?_ ?_ | refine zH fun hc=>?_)
   · refine aF ?_ (by rfl)
     have:l ≠ m:=fun h=>by rw [h] at hc; exact hc rfl
     rw [zf this]
   refine bP (fun (k:Nat)=>[.k,.k,.k,.k,.j,.j,.k,.k,.k,.k,.k,.k,.k,.v (.i .i64 k),.j,.j,.j,.j,.j,.j,.j,.j,.j,.j,.j,.j,.j]) (fun k=>[]) (fun k=>k≤l.length∧∀ j,j < k→l.getD j default=m.getD j default) (fun k=>l.length - k) (0) ⟨aG _,fun j h=>by omega⟩ rfl (by simp [eN]) ?_
   rintro k j ⟨hk,ha⟩
   have o:k < l.length→k < m.length→CT 74 [elT (l.getD k default),elT (m.getD k default)] (.b (decide (l.getD k default=m.getD k default))):=fun h h'=>ih _ (aU h) _ (aU h')
   refine zg ?_
   (refine zt1 o ?_; repeat' first | exact trivial | refine zJ ?_ ?_ | refine zH fun hc=>?_)
   · refine aF ?_ (by rfl)
     have:l ≠ m:=fun h=>by simp [h] at *
     rw [zf this]
   · exact ⟨k+1,⟨by omega,bD ha (by simpa using hc)⟩,by omega,by simp⟩
   · refine aF ?_ (by rfl)
     have:l=m:=aSh (d:=default) (by omega) (fun j hj=>ha j (by omega))
     rw [zt this]
theorem aIw (l m:List LTerm) (hl:l.length≤1466015503701) (hm:m.length≤1466015503701) (ih:∀ a ∈ l,∀ b ∈ m,CT 154 [elT a,elT b] (.b (decide (a=b)))): CT 200 [avt l,avt m,.fn 154 [] []] (.b (decide (l=m))):=by
 refine bQ mixed Tryz.func200 g0 ?_
 · simp -implicitDefEqProofs (disch:=omega) only [Tryz.f200,go_sem,List.replicate,simprocAttr,avt]
   (refine zs0 ?_; repeat' first | exact trivial | refine zJ ?_ ?_ | refine zH fun hc=>?_)
   · refine aF ?_ (by rfl)
     have:l ≠ m:=fun h=>by rw [h] at hc; exact hc rfl
     rw [zf this]
   refine eE (fun (k:Nat)=>[.k,.k,.k,.k,.k,.k,.j,.j,.j,.j,.k,.k,.k,.k,.k,.k,.k,.v (.i .i64 k),.j,.j,.j,.j,.j,.j,.j,.j,.j,.j,.j,.j,.j,.j]) (fun k=>[]) (fun k=>k≤l.length∧∀ j,j < k→l.getD j default=m.getD j default) (fun k=>l.length - k) (0) _ ⟨aG _,fun j h=>by omega⟩ rfl (by simp [eN]) ?_
   rintro k g j ⟨hk,ha⟩
   have o:k < l.length→k < m.length→CT 154 [elT (l.getD k default),elT (m.getD k default)] (.b (decide (l.getD k default=m.getD k default))):=fun h h'=>ih _ (aU h) _ (aU h')
   refine zg ?_
   (refine zt1 o ?_; repeat' first | exact trivial | refine zJ ?_ ?_ | refine zH fun hc=>?_)
   · refine aF ?_ (by rfl)
     have:l ≠ m:=fun h=>by simp [h] at *
     rw [zf this]
   · exact ⟨k+1,_,⟨by omega,bD ha (by simpa using hc)⟩,by omega,rfl,by simp⟩
   · refine aF ?_ (by rfl)
     have:l=m:=aSh (d:=default) (by omega) (fun j hj=>ha j (by omega))
     rw [zt this]
def aWg (a b:LTerm):Bool:=decide (a.kind=b.kind) && decide (a.n=b.n) && decide (a.text=b.text) && decide (a.sort=b.sort) && decide (a.kids=b.kids) && decide (a.rest=b.rest)
theorem aGn (a b:LTerm):aWg a b=decide (a=b):=by
 rw [cI]; simp only [aWg,aA,decide_eq_true_eq,LTerm.ext_iff,and_assoc]
theorem bAh (a b:LTerm) (ha:OkT a) (hb:OkT b) (ihk:∀ x ∈ a.kids,∀ y ∈ b.kids,CT 74 [elT x,elT y] (.b (decide (x=y)))) (ihr:∀ x ∈ a.rest,∀ y ∈ b.rest,CT 74 [elT x,elT y] (.b (decide (x=y)))): CT 74 [elT a,elT b] (.b (decide (a=b))):=by
 refine aL mixed Tryz.func74 g0 ?_
 · skip
   have h1:=ha.kids
   have h2:=ha.rest
   have h3:=hb.kids
   have h4:=hb.rest
   rw [← aGn]
   (refine zt2 (aJc a.kids b.kids h1 h3 ihk) (aJc a.rest b.rest h2 h4 ihr) ?_; repeat' first | exact trivial | refine zJ ?_ ?_ | refine zH fun hc=>?_)
   all_goals refine aF ?_ rfl
   all_goals simp only [aWg, *,decide_true,decide_false,Bool.true_and,Bool.false_and,Bool.and_true,Bool.and_false]
theorem aJd (a:LTerm):∀ (b:LTerm),OkT a→OkT b→CT 74 [elT a,elT b] (.b (decide (a=b))):=
 dO (Q:=fun a=>∀ (b:LTerm),OkT a→OkT b→CT 74 [elT a,elT b] (.b (decide (a=b)))) (fun a hk hr b ha hb=>bAh a b ha hb (fun x hx y hy=>hk x hx y (ha.kid x hx) (hb.kid y hy)) (fun x hx y hy=>hr x hx y (ha.rst x hx) (hb.rst y hy))) a
theorem bAc (a b:LTerm) (ha:OkT a) (hb:OkT b) (ihk:∀ x ∈ a.kids,∀ y ∈ b.kids,CT 154 [elT x,elT y] (.b (decide (x=y)))) (ihr:∀ x ∈ a.rest,∀ y ∈ b.rest,CT 154 [elT x,elT y] (.b (decide (x=y)))): CT 154 [elT a,elT b] (.b (decide (a=b))):=by
 refine aL mixed Tryz.func154 g0 ?_
 · skip
   have h1:=ha.kids
   have h2:=ha.rest
   have h3:=hb.kids
   have h4:=hb.rest
   rw [← aGn]
   (refine zt2 (aIw a.kids b.kids h1 h3 ihk) (aIw a.rest b.rest h2 h4 ihr) ?_; repeat' first | exact trivial | refine zJ ?_ ?_ | refine zH fun hc=>?_)
   all_goals refine aF ?_ rfl
   all_goals simp only [aWg, *,decide_true,decide_false,Bool.true_and,Bool.false_and,Bool.and_true,Bool.and_false]
theorem aSx (a:LTerm):∀ (b:LTerm),OkT a→OkT b→CT 154 [elT a,elT b] (.b (decide (a=b))):=
 dO (Q:=fun a=>∀ (b:LTerm),OkT a→OkT b→CT 154 [elT a,elT b] (.b (decide (a=b)))) (fun a hk hr b ha hb=>bAc a b ha hb (fun x hx y hy=>hk x hx y (ha.kid x hx) (hb.kid y hy)) (fun x hx y hy=>hr x hx y (ha.rst x hx) (hb.rst y hy))) a

mutual
def J4:LTerm→LTerm→Int
 | .mk k n t s ks rs,.mk k' n' t' s' ks' rs'=>
   if qR k k'=0 then (if qR n n'=0 then (if rM t t'=0 then (if rM s s'=0 then (if ordPL ks ks'=0 then ordPL rs rs' else ordPL ks ks') else rM s s') else rM t t') else qR n n') else qR k k'
def ordPL:List LTerm→List LTerm→Int
 | [],[]=>0
 | [],_::_ => -1
 | _::_,[]=>1
 | a::l,b::m=>if J4 a b=0 then ordPL l m else J4 a b
end
mutual
def J8:LTerm→LTerm→Int
 | .mk k n t s ks rs,.mk k' n' t' s' ks' rs'=>
   if qR k k'=0 then (if k=1∨k=2 then qR n n' else if k=3∨k=4 then rM t t' else if k=6 then (if rM t t'=0 then rM s s' else rM t t') else if k=5 then (if rM t t'=0 then ordRL ks ks' else rM t t') else (if ordRL ks ks'=0 then ordRL rs rs' else ordRL ks ks')) else qR k k'
def ordRL:List LTerm→List LTerm→Int
 | [],[]=>0
 | [],_::_ => -1
 | _::_,[]=>1
 | a::l,b::m=>if J8 a b=0 then ordRL l m else J8 a b
end
theorem aDy (a b:LTerm):J4 a b=if qR a.kind b.kind=0 then (if qR a.n b.n=0 then (if rM a.text b.text=0 then (if rM a.sort b.sort=0 then (if ordPL a.kids b.kids=0 then ordPL a.rest b.rest else ordPL a.kids b.kids) else rM a.sort b.sort) else rM a.text b.text) else qR a.n b.n) else qR a.kind b.kind:=by
 cases a; cases b; rw [J4]; rfl
theorem aQa (a b:LTerm):J8 a b=if qR a.kind b.kind=0 then (if a.kind=1∨a.kind=2 then qR a.n b.n else if a.kind=3∨a.kind=4 then rM a.text b.text else if a.kind=6 then (if rM a.text b.text=0 then rM a.sort b.sort else rM a.text b.text) else if a.kind=5 then (if rM a.text b.text=0 then ordRL a.kids b.kids else rM a.text b.text) else (if ordRL a.kids b.kids=0 then ordRL a.rest b.rest else ordRL a.kids b.kids)) else qR a.kind b.kind:=by
 cases a; cases b; rw [J8]; rfl
theorem aFi {a b:Int} (h:a < b):qR a b = -1:=if_pos h
theorem aFj {a b:Int} (h:b < a):qR a b=1:=by rw [qR,if_neg (by omega),if_pos h]
theorem U2 {a b:Int} (h:a=b):qR a b=0:=by rw [qR,if_neg (by omega),if_neg (by omega)]
theorem aHd {l m:List LTerm} {k:Nat} (h:k < l.length) (h':k < m.length):ordPL (l.drop k) (m.drop k)=if J4 (l.getD k default) (m.getD k default)=0 then ordPL (l.drop (k+1)) (m.drop (k+1)) else J4 (l.getD k default) (m.getD k default):=by
 rw [bH h,bH h',ordPL]; simp [List.getD,h,h']
theorem D7 {l m:List LTerm} {k:Nat} (h:k=l.length∨k=m.length) (h1:k≤l.length) (h2:k≤m.length):ordPL (l.drop k) (m.drop k)=qR l.length m.length:=by
 by_cases h3:k < l.length
 · rw [bH h3,aY (l:=m) (by omega),ordPL,aFj (by omega)]
 · by_cases h4:k < m.length
   · rw [bH h4,aY (l:=l) (by omega),ordPL,aFi (by omega)]
   · rw [aY (l:=l) (by omega),aY (l:=m) (by omega),ordPL,U2 (by omega)]
theorem aHc {l m:List LTerm} {k:Nat} (h:k < l.length) (h':k < m.length):ordRL (l.drop k) (m.drop k)=if J8 (l.getD k default) (m.getD k default)=0 then ordRL (l.drop (k+1)) (m.drop (k+1)) else J8 (l.getD k default) (m.getD k default):=by
 rw [bH h,bH h',ordRL]; simp [List.getD,h,h']
theorem aAs {l m:List LTerm} {k:Nat} (h:k=l.length∨k=m.length) (h1:k≤l.length) (h2:k≤m.length):ordRL (l.drop k) (m.drop k)=qR l.length m.length:=by
 by_cases h3:k < l.length
 · rw [bH h3,aY (l:=m) (by omega),ordRL,aFj (by omega)]
 · by_cases h4:k < m.length
   · rw [bH h4,aY (l:=l) (by omega),ordRL,aFi (by omega)]
   · rw [aY (l:=l) (by omega),aY (l:=m) (by omega),ordRL,U2 (by omega)]
theorem aIx (l m:List LTerm) (hl:l.length≤1466015503701) (hm:m.length≤1466015503701) (ih:∀ a ∈ l,∀ b ∈ m,CT 160 [elT a,elT b] (.i .i64 (J4 a b))): CT 206 [avt l,avt m,.fn 160 [] []] (.i .i64 (ordPL l m)):=by
 refine bQ mixed Tryz.func206 g0 ?_
 · simp -implicitDefEqProofs (disch:=omega) only [Tryz.f206,go_sem,List.replicate,simprocAttr,avt]
   refine eE (fun (k:Nat)=>[.k,.k,.k,.k,.k,.k,.j,.j,.j,.j,.j,.k,.k,.v (.i .i64 k),.j,.j,.j,.j,.j,.j,.j,.j,.j,.j,.j,.j,.j,.j,.j,.j,.j,.j,.j,.j,.k,.k,.k,.k,.k]) (fun k=>[]) (fun k=>k≤l.length∧k≤m.length∧ordPL l m=ordPL (l.drop k) (m.drop k)) (fun k=>l.length - k) (0) _ ⟨aG _,aG _,rfl⟩ rfl (by simp [eN]) ?_
   rintro k g j ⟨hk,hk2,he⟩
   have o:k < l.length→k < m.length→CT 160 [elT (l.getD k default),elT (m.getD k default)] (.i .i64 (J4 (l.getD k default) (m.getD k default))):=fun h h'=>ih _ (aU h) _ (aU h')
   refine zg ?_
   (refine zt1 o ?_; repeat' first | exact trivial | refine zJ ?_ ?_ | refine zH fun hc=>?_)
   · exact aF (congrArg _ (by rw [he,D7 (.inr (by omega)) hk hk2,aFj (by omega)])) rfl
   · exact aF (congrArg _ (by rw [he,aHd (by omega) (by omega),if_neg hc])) rfl
   · exact ⟨k+1,_,⟨by omega,by omega,by rw [he,aHd (by omega) (by omega),if_pos hc]⟩,by omega,rfl,by simp⟩
   · exact aF (congrArg _ (by rw [he,D7 (.inl (by omega)) hk hk2,aFi (by omega)])) rfl
   · exact aF (congrArg _ (by rw [he,D7 (.inl (by omega)) hk hk2,U2 (by omega)])) rfl
theorem aIv (l m:List LTerm) (hl:l.length≤1466015503701) (hm:m.length≤1466015503701) (ih:∀ a ∈ l,∀ b ∈ m,CT 217 [elT a,elT b] (.i .i64 (J8 a b))): CT 243 [avt l,avt m] (.i .i64 (ordRL l m)):=by
 refine bQ mixed Tryz.func243 g0 ?_
 · simp -implicitDefEqProofs (disch:=omega) only [Tryz.f243,go_sem,List.replicate,simprocAttr,avt]
   refine bP (fun (k:Nat)=>[.k,.k,.k,.k,.j,.v (.i .i64 k),.j,.j,.j,.j,.j,.j,.j,.j,.j,.j,.j,.j,.j,.j,.j,.j,.j,.j,.j,.j,.j,.j,.j,.j,.j,.k,.k,.k,.k,.k]) (fun k=>[]) (fun k=>k≤l.length∧k≤m.length∧ordRL l m=ordRL (l.drop k) (m.drop k)) (fun k=>l.length - k) (0) ⟨aG _,aG _,rfl⟩ rfl (by simp [eN]) ?_
   rintro k j ⟨hk,hk2,he⟩
   have o:k < l.length→k < m.length→CT 217 [elT (l.getD k default),elT (m.getD k default)] (.i .i64 (J8 (l.getD k default) (m.getD k default))):=fun h h'=>ih _ (aU h) _ (aU h')
   refine zg ?_
   (refine zt2 o (aSv l.length m.length) ?_; repeat' first | exact trivial | refine zJ ?_ ?_ | refine zH fun hc=>?_)
   · exact aF (congrArg _ (by rw [he,aHc (by omega) (by omega),if_neg hc])) rfl
   · exact ⟨k+1,⟨by omega,by omega,by rw [he,aHc (by omega) (by omega),if_pos hc]⟩,by omega,by simp⟩
   · exact aF (congrArg _ (by rw [he,aAs (.inr (by omega)) hk hk2])) rfl
   · exact aF (congrArg _ (by rw [he,aAs (.inl (by omega)) hk hk2])) rfl
theorem bCi (a b:LTerm):(if orI [qR a.kind b.kind,qR a.n b.n,rM a.text b.text,rM a.sort b.sort]=0 then orI [ordPL a.kids b.kids,ordPL a.rest b.rest] else orI [qR a.kind b.kind,qR a.n b.n,rM a.text b.text,rM a.sort b.sort])=J4 a b:=by
 rw [aDy]
 by_cases h1:qR a.kind b.kind=0 <;> by_cases h2:qR a.n b.n=0 <;> by_cases h3:rM a.text b.text=0 <;> by_cases h4:rM a.sort b.sort=0 <;> by_cases h5:ordPL a.kids b.kids=0 <;> by_cases h6:ordPL a.rest b.rest=0 <;> simp only [orI,h1,h2,h3,h4,h5,h6,if_true,if_false]
theorem bAd (a b:LTerm) (ha:OkT a) (hb:OkT b) (ihk:∀ x ∈ a.kids,∀ y ∈ b.kids,CT 160 [elT x,elT y] (.i .i64 (J4 x y))) (ihr:∀ x ∈ a.rest,∀ y ∈ b.rest,CT 160 [elT x,elT y] (.i .i64 (J4 x y))): CT 160 [elT a,elT b] (.i .i64 (J4 a b)):=by
 refine aL mixed Tryz.func160 g0 ?_
 · skip
   have e:=aDy a b
   (repeat' (first | refine gT ?_ ?_ | refine gF ?_ ?_ | refine gC ?_ ?_ | ((first | refine cF (bQb a.kind b.kind) ?_ | refine cF (bQa a.n b.n) ?_ | (refine bF (bDw a.text b.text) ?_ ?_; (focus (simp -implicitDefEqProofs (disch:=omega) only [aT,bN,aI,aX,Nat.reduceAdd,zdB,go_sem,simprocAttr]; done))) | (refine bF (bDw a.sort b.sort) ?_ ?_; (focus (simp -implicitDefEqProofs (disch:=omega) only [aT,bN,aI,aX,Nat.reduceAdd,zdB,go_sem,simprocAttr]; done))) | (refine bF (bDx [qR a.kind b.kind,qR a.n b.n,rM a.text b.text,rM a.sort b.sort] (by simp)) ?_ ?_; (focus (simp -implicitDefEqProofs (disch:=omega) only [aT,bN,aI,aX,Nat.reduceAdd,zdB,go_sem,simprocAttr]; done))) | (refine bF (aIx a.kids b.kids ha.kids hb.kids ihk) ?_ ?_; (focus (simp -implicitDefEqProofs (disch:=omega) only [aT,bN,aI,aX,Nat.reduceAdd,zdB,go_sem,simprocAttr]; done))) | (refine bF (aIx a.rest b.rest ha.rest hb.rest ihr) ?_ ?_; (focus (simp -implicitDefEqProofs (disch:=omega) only [aT,bN,aI,aX,Nat.reduceAdd,zdB,go_sem,simprocAttr]; done))) | (refine bF (bDx [ordPL a.kids b.kids,ordPL a.rest b.rest] (by simp)) ?_ ?_; (focus (simp -implicitDefEqProofs (disch:=omega) only [aT,bN,aI,aX,Nat.reduceAdd,zdB,go_sem,simprocAttr]; done)))); simp -implicitDefEqProofs (disch:=omega) only [aT,bN,aI,aX,Nat.reduceAdd,go_sem,simprocAttr]) | refine bB (by omega) ?_ | (intro hr; have hc:=hr; (try simp only [zdz] at hc); simp -implicitDefEqProofs (disch:=omega) only [hr,aT,bN,aI,aX,Nat.reduceAdd,go_sem,simprocAttr]; (try clear hr))))
   all_goals refine aF (congrArg _ ?_) rfl
   · rw [← bCi a b,if_neg hc]
   · rw [← bCi a b,if_pos hc]
theorem bAb (a b:LTerm) (ha:OkT a) (hb:OkT b) (ihk:∀ x ∈ a.kids,∀ y ∈ b.kids,CT 217 [elT x,elT y] (.i .i64 (J8 x y))) (ihr:∀ x ∈ a.rest,∀ y ∈ b.rest,CT 217 [elT x,elT y] (.i .i64 (J8 x y))): CT 217 [elT a,elT b] (.i .i64 (J8 a b)):=by
 refine aL mixed Tryz.func217 g0 ?_
 · skip
   have e:=aQa a b
   (repeat' (first | refine gT ?_ ?_ | refine gF ?_ ?_ | refine gC ?_ ?_ | ((first | (refine bF (aSv a.kind b.kind) ?_ ?_; (focus (simp -implicitDefEqProofs (disch:=omega) only [zdB,go_sem,simprocAttr]; done))) | (refine bF (aSv a.n b.n) ?_ ?_; (focus (simp -implicitDefEqProofs (disch:=omega) only [zdB,go_sem,simprocAttr]; done))) | (refine bF (bDu a.text b.text) ?_ ?_; (focus (simp -implicitDefEqProofs (disch:=omega) only [zdB,go_sem,simprocAttr]; done))) | (refine bF (bDu a.sort b.sort) ?_ ?_; (focus (simp -implicitDefEqProofs (disch:=omega) only [zdB,go_sem,simprocAttr]; done))) | (refine bF (aIv a.kids b.kids ha.kids hb.kids ihk) ?_ ?_; (focus (simp -implicitDefEqProofs (disch:=omega) only [zdB,go_sem,simprocAttr]; done))) | (refine bF (aIv a.rest b.rest ha.rest hb.rest ihr) ?_ ?_; (focus (simp -implicitDefEqProofs (disch:=omega) only [zdB,go_sem,simprocAttr]; done)))); simp -implicitDefEqProofs (disch:=omega) only [go_sem,simprocAttr]) | refine bB (by omega) ?_ | (intro hr; have hc:=hr; (try simp only [zdz] at hc); simp -implicitDefEqProofs (disch:=omega) only [hr,go_sem,simprocAttr]; (try clear hr))))
   all_goals refine aF (congrArg _ ?_) rfl
   all_goals rw [e]
   all_goals (first | rw [if_pos (by assumption)] | rw [if_neg (by assumption)])
   all_goals simp only [*,if_true,if_false,Int.reduceEq,or_true,true_or,or_false,false_or,not_true_eq_false,not_false_eq_true]
theorem bQg (a b:LTerm) (ha:OkT a) (hb:OkT b):CT 160 [elT a,elT b] (.i .i64 (J4 a b)):=
 dO (Q:=fun a=>∀ (b:LTerm),OkT a→OkT b→CT 160 [elT a,elT b] (.i .i64 (J4 a b))) (fun a hk hr b ha hb=>bAd a b ha hb (fun x hx y hy=>hk x hx y (ha.kid x hx) (hb.kid y hy)) (fun x hx y hy=>hr x hx y (ha.rst x hx) (hb.rst y hy))) a b ha hb
theorem bQd (a b:LTerm) (ha:OkT a) (hb:OkT b):CT 217 [elT a,elT b] (.i .i64 (J8 a b)):=
 dO (Q:=fun a=>∀ (b:LTerm),OkT a→OkT b→CT 217 [elT a,elT b] (.i .i64 (J8 a b))) (fun a hk hr b ha hb=>bAb a b ha hb (fun x hx y hy=>hk x hx y (ha.kid x hx) (hb.kid y hy)) (fun x hx y hy=>hr x hx y (ha.rst x hx) (hb.rst y hy))) a b ha hb

theorem bHi:dN [95]=false:=by decide
theorem aXq:dN [36]=false:=by decide
theorem bGq {s:Str} (h:vO s=true):dN s=false:=by
 simp only [vO,bJ,decide_eq_true_eq] at h
 rcases h with rfl | rfl <;> decide
theorem aXl (s:Str):dN s=true→¬ s=[95]∧¬ s=[36]:=by
 intro h
 constructor <;> (rintro rfl; revert h; decide)
theorem aSw (t:LTerm) (ht:OkT t) (h6:t.kind=6): CT 201 [elT t] (.b (nodeB t)):=by
 refine cY (rx:=true) (th:=fun i=>if i=19 then some ⟨some 1,[],false,false,false,[],[]⟩ else none) mixed Tryz.func201 g0 ?_
 · simp -implicitDefEqProofs (disch:=omega) only [Tryz.f201,go_sem,List.replicate,simprocAttr]
   have no1:=aXl t.text
   (refine zy2 (zA2 h6 (zA2 @decide_true @decide_false)) (T8 t.text ht.text) (T8 t.sort ht.sort) ?_; repeat' first | exact trivial | refine zJ ?_ ?_ | refine zH fun hc=>?_)
   all_goals try simp only [H1,H2,qT,qS] at *
   all_goals refine aF ?_ rfl
   all_goals (simp_all [nodeB,vO,eY,bHi,aXq]; done)
theorem aLd {t:LTerm} {so:Str} (hs:dN so=true) (h1:t.rest.length=1) (h6:(t.rest.getD 0 default).kind=6):(nodeB (t.rest.getD 0 default) && dN (t.rest.getD 0 default).text && decide ((t.rest.getD 0 default).sort=so))=qE t so:=by
 have h0:t.rest.length ≠ 0:=by omega
 generalize hr:t.rest.getD 0 default=r at *
 have h3:qE t so=(dN r.text && decide (r.sort=so) && eY r false true true false false):=by
   simp only [qE,hr,h1,h6,decide_true,Nat.one_ne_zero,decide_false,cT,Bool.true_and]
 rw [h3]
 have h4:nodeB r=(if vO r.text=true then decide (r.sort=aJu) && eY r false true true false false else dN r.text && dN r.sort && eY r false true true false false):=by
   simp only [nodeB,h6]; rfl
 rw [h4]
 cases ho:vO r.text with
 | true=>rw [bGq ho]; simp
 | false=>
   by_cases hq:r.sort=so
   · rw [hq,hs]; cases dN r.text <;> cases eY r false true true false false <;> simp
   · simp [hq]
theorem bDs (t:LTerm) (so:Str) (ht:OkT t) (hso:dN so=true): CT 236 [elT t,.s so] (.b (qE t so)):=by
 refine aL mixed Tryz.func236 g0 ?_
 · skip
   have h1:0 < t.rest.length→OkT (t.rest.getD 0 default):=fun h=>ht.rst _ (aU h)
   have hA:=fun a b=>aLd (t:=t) hso a b
   (repeat' (first | refine gT ?_ ?_ | refine gF ?_ ?_ | refine gC ?_ ?_ | ((first | (refine bF (aSw (t.rest.getD 0 default) (h1 (by omega)) (by assumption)) ?_ ?_; (focus (simp -implicitDefEqProofs (disch:=omega) only [zdB,go_sem,simprocAttr]; done))) | (refine bF (T8 (t.rest.getD 0 default).text (h1 (by omega)).text) ?_ ?_; (focus (simp -implicitDefEqProofs (disch:=omega) only [zdB,go_sem,simprocAttr]; done)))); simp -implicitDefEqProofs (disch:=omega) only [go_sem,simprocAttr]) | refine bB (by omega) ?_ | (intro hr; have hc:=hr; (try simp only [zdz] at hc); simp -implicitDefEqProofs (disch:=omega) only [hr,go_sem,simprocAttr]; (try clear hr))))
   all_goals try simp only [H1,H2] at *
   all_goals refine aF ?_ rfl
   all_goals first
     | (have e:=hA (by assumption) (by assumption); clear hA; rw [← e]; clear e; simp_all only [decide_true,decide_false,dD,cT,Bool.true_and,Bool.false_and,Bool.and_false,Bool.and_true]; done)
     | (clear hA; simp_all only [qE,decide_true,decide_false,dD,cT,Bool.true_and,Bool.false_and,Bool.and_false,Bool.and_true,Nat.one_ne_zero]; done)
theorem bHf {t:LTerm} (h:t.kind=1):nodeB t=(nF t.n && eY t true false false false false):=by simp only [nodeB,h]; rfl
theorem bHe {t:LTerm} (h:t.kind=2):nodeB t=((decide (t.n=0) || decide (t.n=1)) && eY t true false false false false):=by simp only [nodeB,h]; rfl
theorem bHd {t:LTerm} (h:t.kind=3):nodeB t=(wA t.text && eY t false true false false false):=by simp only [nodeB,h]; rfl
theorem bHc {t:LTerm} (h:t.kind=4):nodeB t=(aYg t.text && eY t false true false false false):=by simp only [nodeB,h]; rfl
theorem bHb {t:LTerm} (h:t.kind=5):nodeB t=(yM t.text && decide (t.kids.length≤8) && eY t false true false true false):=by simp only [nodeB,h]; rfl
theorem bHa {t:LTerm} (h:t.kind=7):nodeB t=(qE t sA && eY t false false false true true):=by simp only [nodeB,h]; rfl
theorem bGz {t:LTerm} (h:t.kind=8):nodeB t=(qE t E4 && decide (t.kids.length % 2=0) && eY t false false false true true):=by simp only [nodeB,h]; rfl
theorem bHn {α:Type} {l:List α}:l.length=0↔l=[]:=List.length_eq_zero_iff
theorem aZz (t:LTerm) (ht:OkT t) (hk:t.kind=1): CT 201 [elT t] (.b (nodeB t)):=by
 refine cY (rx:=true) (th:=fun i=>if i=19 then some ⟨some 1,[],false,false,false,[],[]⟩ else none) mixed Tryz.func201 g0 ?_
 · simp -implicitDefEqProofs (disch:=omega) only [Tryz.f201,go_sem,List.replicate,simprocAttr]
   (refine zy1 (zA2 hk (zA2 @decide_true @decide_false)) (bDv t.n) ?_; repeat' first | exact trivial | refine zJ ?_ ?_ | refine zH fun hc=>?_)
   all_goals try simp only [H1,H2,qT,qS,bHn] at *
   all_goals refine aF ?_ rfl
   all_goals rw [bHf hk]
   all_goals clear ht
   all_goals first
     | (simp_all only [eY,nF,decide_true,decide_false,dD,cT,Bool.true_and,Bool.false_and,Bool.and_false,Bool.and_true,dE,cG,not_true_eq_false,not_false_eq_true]; done)
     | (simp_all [eY,nF] <;> (intros; omega))
theorem aZy (t:LTerm) (ht:OkT t) (hk:t.kind=2): CT 201 [elT t] (.b (nodeB t)):=by
 refine cY (rx:=true) (th:=fun i=>if i=19 then some ⟨some 1,[],false,false,false,[],[]⟩ else none) mixed Tryz.func201 g0 ?_
 · simp -implicitDefEqProofs (disch:=omega) only [Tryz.f201,go_sem,List.replicate,simprocAttr]
   (refine zy1 (zA2 hk (zA2 @decide_true @decide_false)) (bDv t.n) ?_; repeat' first | exact trivial | refine zJ ?_ ?_ | refine zH fun hc=>?_)
   all_goals try simp only [H1,H2,qT,qS,bHn] at *
   all_goals refine aF ?_ rfl
   all_goals rw [bHe hk]
   all_goals clear ht
   all_goals first
     | (simp_all only [eY,nF,decide_true,decide_false,dD,cT,Bool.true_and,Bool.false_and,Bool.and_false,Bool.and_true,dE,cG,not_true_eq_false,not_false_eq_true]; done)
     | (simp_all [eY,nF] <;> (intros; omega))
theorem aZx (t:LTerm) (ht:OkT t) (hk:t.kind=3): CT 201 [elT t] (.b (nodeB t)):=by
 refine cY (rx:=true) (th:=fun i=>if i=19 then some ⟨some 1,[],false,false,false,[],[]⟩ else none) mixed Tryz.func201 g0 ?_
 · simp -implicitDefEqProofs (disch:=omega) only [Tryz.f201,go_sem,List.replicate,simprocAttr]
   (refine zy1 (zA2 hk (zA2 @decide_true @decide_false)) (bQf t.text ht.text) ?_; repeat' first | exact trivial | refine zJ ?_ ?_ | refine zH fun hc=>?_)
   all_goals try simp only [H1,H2,qT,qS,bHn] at *
   all_goals refine aF ?_ rfl
   all_goals rw [bHd hk]
   all_goals clear ht
   all_goals first
     | (simp_all only [eY,nF,decide_true,decide_false,dD,cT,Bool.true_and,Bool.false_and,Bool.and_false,Bool.and_true,dE,cG,not_true_eq_false,not_false_eq_true]; done)
     | (simp_all [eY,nF] <;> (intros; omega))
theorem aZw (t:LTerm) (ht:OkT t) (hk:t.kind=4): CT 201 [elT t] (.b (nodeB t)):=by
 refine cY (rx:=true) (th:=fun i=>if i=19 then some ⟨some 1,[],false,false,false,[],[]⟩ else none) mixed Tryz.func201 g0 ?_
 · simp -implicitDefEqProofs (disch:=omega) only [Tryz.f201,go_sem,List.replicate,simprocAttr]
   (refine zy1 (zA2 hk (zA2 @decide_true @decide_false)) (bPx t.text ht.text) ?_; repeat' first | exact trivial | refine zJ ?_ ?_ | refine zH fun hc=>?_)
   all_goals try simp only [H1,H2,qT,qS,bHn] at *
   all_goals refine aF ?_ rfl
   all_goals rw [bHc hk]
   all_goals clear ht
   all_goals first
     | (simp_all only [eY,nF,decide_true,decide_false,dD,cT,Bool.true_and,Bool.false_and,Bool.and_false,Bool.and_true,dE,cG,not_true_eq_false,not_false_eq_true]; done)
     | (simp_all [eY,nF] <;> (intros; omega))
theorem aZv (t:LTerm) (ht:OkT t) (hk:t.kind=5): CT 201 [elT t] (.b (nodeB t)):=by
 refine cY (rx:=true) (th:=fun i=>if i=19 then some ⟨some 1,[],false,false,false,[],[]⟩ else none) mixed Tryz.func201 g0 ?_
 · simp -implicitDefEqProofs (disch:=omega) only [Tryz.f201,go_sem,List.replicate,simprocAttr]
   (refine zy1 (zA2 hk (zA2 @decide_true @decide_false)) (bDt t.text ht.text) ?_; repeat' first | exact trivial | refine zJ ?_ ?_ | refine zH fun hc=>?_)
   all_goals try simp only [H1,H2,qT,qS,bHn] at *
   all_goals refine aF ?_ rfl
   all_goals rw [bHb hk]
   all_goals clear ht
   all_goals first
     | (simp_all only [eY,nF,decide_true,decide_false,dD,cT,Bool.true_and,Bool.false_and,Bool.and_false,Bool.and_true,dE,cG,not_true_eq_false,not_false_eq_true]; done)
     | (simp_all [eY,nF] <;> (intros; omega))
theorem aZu (t:LTerm) (ht:OkT t) (hk:t.kind=7): CT 201 [elT t] (.b (nodeB t)):=by
 refine cY (rx:=true) (th:=fun i=>if i=19 then some ⟨some 1,[],false,false,false,[],[]⟩ else none) mixed Tryz.func201 g0 ?_
 · simp -implicitDefEqProofs (disch:=omega) only [Tryz.f201,go_sem,List.replicate,simprocAttr]
   (refine zy1 (zA2 hk (zA2 @decide_true @decide_false)) (bDs t sA ht (by decide)) ?_; repeat' first | exact trivial | refine zJ ?_ ?_ | refine zH fun hc=>?_)
   all_goals try simp only [H1,H2,qT,qS,bHn] at *
   all_goals refine aF ?_ rfl
   all_goals rw [bHa hk]
   all_goals clear ht
   all_goals first
     | (simp_all only [eY,nF,decide_true,decide_false,dD,cT,Bool.true_and,Bool.false_and,Bool.and_false,Bool.and_true,dE,cG,not_true_eq_false,not_false_eq_true]; done)
     | (simp_all [eY,nF] <;> (intros; omega))
theorem aZt (t:LTerm) (ht:OkT t) (hk:t.kind=8): CT 201 [elT t] (.b (nodeB t)):=by
 refine cY (rx:=true) (th:=fun i=>if i=19 then some ⟨some 1,[],false,false,false,[],[]⟩ else none) mixed Tryz.func201 g0 ?_
 · simp -implicitDefEqProofs (disch:=omega) only [Tryz.f201,go_sem,List.replicate,simprocAttr]
   (refine zy1 (zA2 hk (zA2 @decide_true @decide_false)) (bDs t E4 ht (by decide)) ?_; repeat' first | exact trivial | refine zJ ?_ ?_ | refine zH fun hc=>?_)
   all_goals try simp only [H1,H2,qT,qS,bHn] at *
   all_goals refine aF ?_ rfl
   all_goals rw [bGz hk]
   all_goals clear ht
   all_goals first
     | (simp_all only [eY,nF,decide_true,decide_false,dD,cT,Bool.true_and,Bool.false_and,Bool.and_false,Bool.and_true,dE,cG,not_true_eq_false,not_false_eq_true]; done)
     | (simp_all [eY,nF] <;> (intros; omega))
theorem bAa (t:LTerm) (h1:¬ t.kind=1) (h2:¬ t.kind=2) (h3:¬ t.kind=3) (h4:¬ t.kind=4) (h5:¬ t.kind=5) (h6:¬ t.kind=6) (h7:¬ t.kind=7) (h8:¬ t.kind=8): CT 201 [elT t] (.b (nodeB t)):=by
 refine cY (rx:=true) (th:=fun i=>if i=19 then some ⟨some 1,[],false,false,false,[],[]⟩ else none) mixed Tryz.func201 g0 ?_
 · simp -implicitDefEqProofs (disch:=omega) only [Tryz.f201,go_sem,List.replicate,simprocAttr]
   have hn:nodeB t=false:=by simp only [nodeB,h1,h2,h3,h4,h5,h6,h7,h8,if_false]
   (refine zx0 (zA2 h1 (zA2 h2 (zA2 h3 (zA2 h4 (zA2 h5 (zA2 h6 (zA2 h7 (zA2 h8 (zA2 @decide_true @decide_false))))))))) ?_; repeat' first | exact trivial | refine zJ ?_ ?_ | refine zH fun hc=>?_)
   all_goals exact aF (by rw [hn]) rfl
theorem bQc (t:LTerm) (ht:OkT t):CT 201 [elT t] (.b (nodeB t)):=by
 by_cases h1:t.kind=1
 · exact aZz t ht h1
 by_cases h2:t.kind=2
 · exact aZy t ht h2
 by_cases h3:t.kind=3
 · exact aZx t ht h3
 by_cases h4:t.kind=4
 · exact aZw t ht h4
 by_cases h5:t.kind=5
 · exact aZv t ht h5
 by_cases h6:t.kind=6
 · exact aSw t ht h6
 by_cases h7:t.kind=7
 · exact aZu t ht h7
 by_cases h8:t.kind=8
 · exact aZt t ht h8
 exact bAa t h1 h2 h3 h4 h5 h6 h7 h8
end Go.Proofs.YtifefbhllfdmlaaGreatDoor
namespace Go.Vo
section
variable (p:LTerm→Bool)
mutual
def lZ:LTerm→Int→Int→Int × Bool
 | .mk k n t s ks rs,d,m=>
   if (decide (d≤60) && decide (m+1≤2000) && p (.mk k n t s ks rs))=true then
     (if (lookL ks (d+1) (m+1)).2=true then ((lookL ks (d+1) (m+1)).1+rs.length,decide (rs.length=0) || (decide (d < 60) && decide ((lookL ks (d+1) (m+1)).1+rs.length≤2000))) else ((lookL ks (d+1) (m+1)).1,false))
   else (m+1,false)
def lookL:List LTerm→Int→Int→Int × Bool
 | [],d,m=>(m,true)
 | k::l,d,m=>if (lZ k d m).2=true then lookL l d (lZ k d m).1 else ((lZ k d m).1,false)
end
mutual
def gK:LTerm→Int→Int→Bool × Int
 | .mk k n t s ks rs,d,left=>
   if (decide (left - (1+rs.length) < 0) || decide (d < 1) || (decide (0 < rs.length) && decide (d < 2)) || !p (.mk k n t s ks rs))=true then (false,left - (1+rs.length)) else formedL ks (d - 1) (left - (1+rs.length))
def formedL:List LTerm→Int→Int→Bool × Int
 | [],d,left=>(true,left)
 | k::l,d,left=>if (gK k d left).1=true then formedL l d (gK k d left).2 else (false,(gK k d left).2)
end
mutual
def wfT:LTerm→Bool
 | .mk k n t s ks rs=>p (.mk k n t s ks rs) && wfL ks
def wfL:List LTerm→Bool
 | []=>true
 | k::l=>wfT k && wfL l
end
end
mutual
def nodesT:LTerm→Nat
 | .mk k n t s ks rs=>1+rs.length+nodesL ks
def nodesL:List LTerm→Nat
 | []=>0
 | k::l=>nodesT k+nodesL l
end
mutual
def highT:LTerm→Nat
 | .mk k n t s ks rs=>1+max rs.length (highL ks)
def highL:List LTerm→Nat
 | []=>0
 | k::l=>max (highT k) (highL l)
end
section
variable {p:LTerm→Bool}
mutual
theorem xO (hp:∀ t,p t=true→t.rest.length≤1):∀ (t:LTerm) (d m:Int),((lZ p t d m).2=true↔wfT p t=true∧d+highT t≤61∧m+nodesT t≤2000)∧((lZ p t d m).2=true→(lZ p t d m).1=m+nodesT t)
 | .mk k n t s ks rs,d,m=>by
   rw [lZ,wfT,highT,nodesT]
   split
   · rename_i hc
     simp only [aA,decide_eq_true_eq] at hc
     obtain ⟨⟨h1,h2⟩,h3⟩:=hc
     have hr:=hp _ h3
     simp only [LTerm.rest] at hr
     obtain ⟨i1,i2⟩:=lookL_spec hp ks (d+1) (m+1) (by omega) (by omega)
     rw [h3,Bool.true_and]
     split
     · rename_i hl
       have e:=i2 hl
       obtain ⟨w,w2,w3⟩:=i1.1 hl
       simp only [bJ,aA,decide_eq_true_eq,w,true_and,e]
       exact ⟨by omega,fun _=>by omega⟩
     · rename_i hl
       refine ⟨⟨(fun h=>by cases h),fun ⟨a,b,c⟩=>?_⟩,fun h=>by cases h⟩
       exact absurd (i1.2 ⟨a,by omega,by omega⟩) hl
   · rename_i hc
     refine ⟨⟨(fun h=>by cases h),fun ⟨a,b,c⟩=>?_⟩,fun h=>by cases h⟩
     exfalso
     refine hc ?_
     simp only [aA,decide_eq_true_eq] at a ⊢
     exact ⟨⟨by omega,by omega⟩,a.1⟩
theorem lookL_spec (hp:∀ t,p t=true→t.rest.length≤1):∀ (l:List LTerm) (d m:Int),d≤61→m≤2000→((lookL p l d m).2=true↔wfL p l=true∧d+highL l≤61∧m+nodesL l≤2000)∧((lookL p l d m).2=true→(lookL p l d m).1=m+nodesL l)
 | [],d,m,hd,hm=>by
   rw [lookL,wfL,highL,nodesL]
   exact ⟨⟨fun _=>⟨rfl,by omega,by omega⟩,fun _=>rfl⟩,fun _=>by omega⟩
 | k :: l,d,m,hd,hm=>by
   obtain ⟨i1,i2⟩:=xO hp k d m
   rw [lookL,wfL,highL,nodesL]
   split
   · rename_i hk
     have e:=i2 hk
     obtain ⟨w,w2,w3⟩:=i1.1 hk
     obtain ⟨j1,j2⟩:=lookL_spec hp l d (lZ p k d m).1 hd (by omega)
     rw [w,Bool.true_and,j1]
     exact ⟨⟨fun ⟨a,b,c⟩=>⟨a,by omega,by omega⟩,fun ⟨a,b,c⟩=>⟨a,by omega,by omega⟩⟩,fun h=>by have:=j2 (j1.2 h); omega⟩
   · rename_i hk
     refine ⟨⟨(fun h=>by cases h),fun ⟨a,b,c⟩=>?_⟩,fun h=>by cases h⟩
     rw [aA] at a
     exact absurd (i1.2 ⟨a.1,by omega,by omega⟩) hk
end
mutual
theorem sG (hp:∀ t,p t=true→t.rest.length≤1):∀ (t:LTerm) (d m:Int),((gK p t d m).1=true↔wfT p t=true∧(highT t:Int)≤d∧(nodesT t:Int)≤m)∧((gK p t d m).1=true→(gK p t d m).2=m - nodesT t)
 | .mk k n t s ks rs,d,m=>by
   rw [gK,wfT,highT,nodesT]
   split
   · rename_i hc
     refine ⟨⟨(fun h=>by cases h),fun ⟨h1,h2,h3⟩=>?_⟩,fun h=>by cases h⟩
     exfalso
     simp only [aA,bJ,decide_eq_true_eq,bV] at h1 hc
     rcases hc with ((hc | hc) | ⟨hc,hc'⟩) | hc
     · omega
     · omega
     · omega
     · rw [h1.1] at hc; cases hc
   · rename_i hc
     simp only [bJ,aA,decide_eq_true_eq,bV,not_or,not_and,Bool.not_eq_false] at hc
     obtain ⟨⟨⟨h1,h2⟩,h4⟩,h3⟩:=hc
     have hr:=hp _ h3
     simp only [LTerm.rest] at hr
     obtain ⟨i1,i2⟩:=formedL_spec hp ks (d - 1) (m - (1+rs.length)) (by omega) (by omega)
     rw [h3,Bool.true_and,i1]
     exact ⟨⟨fun ⟨a,b,c⟩=>⟨a,by omega,by omega⟩,fun ⟨a,b,c⟩=>⟨a,by omega,by omega⟩⟩,fun h=>by have:=i2 (i1.2 h); omega⟩
theorem formedL_spec (hp:∀ t,p t=true→t.rest.length≤1):∀ (l:List LTerm) (d m:Int),0≤d→0≤m→((formedL p l d m).1=true↔wfL p l=true∧(highL l:Int)≤d∧(nodesL l:Int)≤m)∧((formedL p l d m).1=true→(formedL p l d m).2=m - nodesL l)
 | [],d,m,hd,hm=>by
   rw [formedL,wfL,highL,nodesL]
   exact ⟨⟨fun _=>⟨rfl,by omega,by omega⟩,fun _=>rfl⟩,fun _=>by omega⟩
 | k :: l,d,m,hd,hm=>by
   obtain ⟨i1,i2⟩:=sG hp k d m
   rw [formedL,wfL,highL,nodesL]
   split
   · rename_i hk
     have e:=i2 hk
     obtain ⟨w,w2,w3⟩:=i1.1 hk
     obtain ⟨j1,j2⟩:=formedL_spec hp l d (gK p k d m).2 hd (by omega)
     rw [w,Bool.true_and,j1]
     exact ⟨⟨fun ⟨a,b,c⟩=>⟨a,by omega,by omega⟩,fun ⟨a,b,c⟩=>⟨a,by omega,by omega⟩⟩,fun h=>by have:=j2 (j1.2 h); omega⟩
   · rename_i hk
     refine ⟨⟨(fun h=>by cases h),fun ⟨a,b,c⟩=>?_⟩,fun h=>by cases h⟩
     rw [aA] at a
     exact absurd (i1.2 ⟨a.1,by omega,by omega⟩) hk
end
def fO (p:LTerm→Bool) (t:LTerm):Bool:=wfT p t && decide (highT t≤60) && decide (nodesT t≤2000)
theorem aLr (hp:∀ t,p t=true→t.rest.length≤1) (t:LTerm):(lZ p t 1 0).2=fO p t:=by
 rw [cI,(xO hp t 1 0).1,fO]
 simp only [aA,decide_eq_true_eq]
 exact ⟨fun ⟨a,b,c⟩=>⟨⟨a,by omega⟩,by omega⟩,fun ⟨⟨a,b⟩,c⟩=>⟨a,by omega,by omega⟩⟩
theorem aBo (hp:∀ t,p t=true→t.rest.length≤1) (t:LTerm):(gK p t 60 2000).1=fO p t:=by
 rw [cI,(sG hp t 60 2000).1,fO]
 simp only [aA,decide_eq_true_eq]
 exact ⟨fun ⟨a,b,c⟩=>⟨⟨a,by omega⟩,by omega⟩,fun ⟨⟨a,b⟩,c⟩=>⟨a,by omega,by omega⟩⟩
end
end Go.Vo
namespace Go.Proofs.YtifefbhllfdmlaaGreatDoor
open Go Go.Vo
open Nat (reduceAdd reduceSub reduceMul reduceLeDiff reduceLT reduceEqDiff)
open Int (reduceNeg)

theorem aHs (p:LTerm→Bool) (t:LTerm) (d m:Int):lZ p t d m=if (decide (d≤60) && decide (m+1≤2000) && p t)=true then (if (lookL p t.kids (d+1) (m+1)).2=true then ((lookL p t.kids (d+1) (m+1)).1+t.rest.length,decide (t.rest.length=0) || (decide (d < 60) && decide ((lookL p t.kids (d+1) (m+1)).1+t.rest.length≤2000))) else ((lookL p t.kids (d+1) (m+1)).1,false)) else (m+1,false):=by
 cases t; rw [lZ]; rfl
theorem aXw {p:LTerm→Bool} {l:List LTerm} {k:Nat} {d m:Int} (h:k < l.length):lookL p (l.drop k) d m=if (lZ p (l.getD k default) d m).2=true then lookL p (l.drop (k+1)) d (lZ p (l.getD k default) d m).1 else ((lZ p (l.getD k default) d m).1,false):=by
 rw [bH h,lookL]; simp [List.getD,h]
theorem aXv {p:LTerm→Bool} {t:LTerm} {d m:Int} (hp:∀ t,p t=true→t.rest.length≤1) (hm:0≤m) (h:(lZ p t d m).2=true):0≤(lZ p t d m).1∧(lZ p t d m).1≤2000:=by
 have s:=xO hp t d m
 rw [s.2 h]
 have:=s.1.1 h
 omega
theorem aEo {p:LTerm→Bool} {t:LTerm} {d m:Int} (h:(decide (d≤60) && decide (m+1≤2000) && p t)=false):lZ p t d m=(m+1,false):=by
 rw [aHs,if_neg (by rw [h]; simp)]
abbrev bBs (t:LTerm) (d m:Int):AV→List AObj→Prop:=fun r h'=>r=.tup []∧∃ g,h'=.box false [.i .i64 (lZ nodeB t d m).1,.b (lZ nodeB t d m).2]::g
theorem vV {t:LTerm} {d m a:Int} {b:Bool} {h g:List AObj} (e:lZ nodeB t d m=(a,b)) (hh:h=.box false [.i .i64 a,.b b]::g):bBs t d m (.tup []) h:=⟨rfl,g,by rw [e]; exact hh⟩
def C6 (d m:Int) (j:Nat):Bool:=decide (j=0) || (decide (d < 60) && decide (m+j≤2000))
@[simp] theorem bTb {d m:Int}:C6 d m 0=true:=by simp [C6]
theorem uA {d m:Int} {j:Nat}:C6 d m (j+1)=(C6 d m j && decide (d < 60) && decide (m+j+1≤2000)):=by
 rw [cI]
 simp only [C6,bJ,aA,decide_eq_true_eq]
 omega
theorem bUj (t:LTerm) (d m:Int) (ht:OkT t) (hm0:0≤m) (hm:m≤2000) (hd0:0≤d) (hd:d≤100) (ih:∀ k ∈ t.kids,∀ (d m:Int),0≤m→m≤2000→0≤d→d≤100→ACalls Tryz.prog G0 156 [.ptr 0 0,elT k,.i .i64 d] [.box false [.i .i64 m,.b true]] (bBs k d m)): ACalls Tryz.prog G0 156 [.ptr 0 0,elT t,.i .i64 d] [.box false [.i .i64 m,.b true]] (bBs t d m):=by
 refine dF (rx:=false) (th:=fun _=>none) mixed Tryz.func156 ?_
 · simp -implicitDefEqProofs (disch:=omega) only [Tryz.f156,go_sem,List.replicate,simprocAttr]
   have hk1:=ht.kids
   have hr1:=ht.rest
   have c:=bQc t ht
   cases hnb:nodeB t with
   | false=>
     rw [hnb] at c
     (refine zt1 c ?_; repeat' first | exact trivial | refine zJ ?_ ?_ | refine zH fun hc=>?_)
     all_goals exact vV (aEo (by simp only [hnb,Bool.and_false])) rfl
   | true=>
   rw [hnb] at c
   (refine zt1 c ?_; repeat' first | exact trivial | refine zJ ?_ ?_ | refine zH fun hc=>?_)
   rotate_left
   · exact vV (aEo (by simp only [*,decide_true,decide_false,Bool.false_and,Bool.and_false,Bool.true_and])) rfl
   · exact vV (aEo (by simp only [*,decide_true,decide_false,Bool.false_and,Bool.and_false,Bool.true_and])) rfl
   have hif:lZ nodeB t d m=_:=aHs nodeB t d m
   rw [if_pos (by simp only [*,decide_true,dY])] at hif
   refine eE (fun (s:Nat × Int)=>[.k,.k,.k,.k,.k,.k,.k,.j,.k,.k,.k,.k,.k,.k,.k,.k,.k,.k,.k,.k,.k,.k,.k,.k,.k,.k,.k,.k,.k,.k,.k,.k,.k,.k,.k,.k,.k,.k,.k,.k,.k,.k,.k,.k,.k,.v (.i .i64 (s.1:Nat)),.j,.j,.j,.j,.j,.j,.j,.j,.j,.j,.j,.j,.j,.j,.k,.k,.k,.k,.k,.k,.k,.k,.k,.k,.k,.k,.k,.k,.k,.k,.k,.k,.k,.k,.k,.k,.k,.k,.k,.k,.k,.k,.k,.k,.k]) (fun s=>[.box false [.i .i64 s.2,.b true],.box false [.i .i64 (t).kind,.i .i64 (t).n,.s (t).text,.s (t).sort,.sl ((t).kids.flatMap aC) (t).kids.length,.sl ((t).rest.flatMap aC) (t).rest.length]]) (fun s=>s.1≤t.kids.length∧lookL nodeB t.kids (d+1) (m+1)=lookL nodeB (t.kids.drop s.1) (d+1) s.2∧0≤s.2∧s.2≤2000) (fun s=>t.kids.length - s.1) ((0,m+1)) _ ⟨aG _,rfl,by dsimp only; omega,by dsimp only; omega⟩ rfl (by simp [eN]) ?_
   rintro ⟨k,m2⟩ g j ⟨hk,hL,hm20,hm2⟩
   dsimp only at hk hL hm20 hm2
   refine zg ?_
   (refine zs0 ?_; repeat' first | exact trivial | refine zJ ?_ ?_ | refine zH fun hc=>?_)
   · have hlt:k < t.kids.length:=by omega
     rw [aXw hlt] at hL
     refine aTr 0 g0 (ih _ (aU (d:=default) hlt) (d+1) m2 hm20 hm2 (by omega) (by omega)) rfl rfl rfl rfl ?_ ?_
     · simp only [renL,ren,elT,bC,avt,renL_pers _ _ iH,aFa]
     · intro g2
       refine zg ?_
       (refine zs0 ?_; repeat' first | exact trivial | refine zJ ?_ ?_ | refine zH fun hc=>?_)
       · rw [if_neg (by rw [show (lZ nodeB (t.kids.getD k default) (d+1) m2).2=false from hc]; simp)] at hL
         rw [hL,if_neg (by simp)] at hif
         rw [show (lZ nodeB (t.kids.getD k default) (d+1) m2).2=false from hc]
         exact vV hif rfl
       · have e:(lZ nodeB (t.kids.getD k default) (d+1) m2).2=true:=hc
         rw [if_pos e] at hL
         have hle:=aXv pE hm20 e
         rw [e]
         exact ⟨(k+1,(lZ nodeB (t.kids.getD k default) (d+1) m2).1),_,⟨by dsimp only; omega,hL,hle.1,hle.2⟩,by dsimp only; omega,rfl,by simp⟩
   · rw [aY (by omega),lookL] at hL
     rw [hL,if_pos rfl] at hif
     refine bP (fun (i:Nat)=>[.k,.k,.k,.k,.k,.k,.k,.k,.k,.k,.k,.k,.k,.k,.k,.k,.k,.k,.k,.k,.k,.k,.k,.k,.k,.k,.k,.k,.k,.k,.k,.k,.k,.k,.k,.k,.k,.k,.k,.k,.k,.k,.k,.k,.k,.k,.k,.k,.k,.k,.k,.k,.k,.k,.k,.k,.k,.k,.k,.k,.k,.k,.k,.v (.i .i64 (i:Nat)),.j,.j,.j,.j,.j,.j,.j,.j,.j,.j,.j,.j,.j,.j,.j,.j,.j,.j,.j,.j,.j,.j,.j,.j,.j,.j,.j]) (fun i=>.box false [.i .i64 (m2+(i:Nat)),.b (C6 d m2 i)]::.box false [.i .i64 (t).kind,.i .i64 (t).n,.s (t).text,.s (t).sort,.sl ((t).kids.flatMap aC) (t).kids.length,.sl ((t).rest.flatMap aC) (t).rest.length]::g) (fun i=>i≤t.rest.length) (fun i=>t.rest.length - i) (0) (aG _) (by simp [avs,avb,avi,avo,bK]) (by simp [eN]) ?_
     rintro i j hi
     refine zg ?_
     (refine zs0 ?_; repeat' first | exact trivial | refine zJ ?_ ?_ | refine zH fun hc=>?_)
     · exact ⟨i+1,by omega,by omega,by rw [uA,show C6 d m2 i=true by assumption,Int.natCast_succ,← Int.add_assoc]; simp only [Bool.true_and,zt hc],by simp⟩
     · exact ⟨i+1,by omega,by omega,by rw [uA,Int.natCast_succ,← Int.add_assoc]; simp only [zf hc,Bool.and_false,Bool.false_and],by simp⟩
     · exact ⟨i+1,by omega,by omega,by rw [uA,hc,Int.natCast_succ,← Int.add_assoc]; simp only [Bool.false_and],by simp⟩
     · have e:i=t.rest.length:=by omega
       exact vV hif (by rw [e]; rfl)
theorem look:∀ (t:LTerm),OkT t→∀ (d m:Int),0≤m→m≤2000→0≤d→d≤100→ACalls Tryz.prog G0 156 [.ptr 0 0,elT t,.i .i64 d] [.box false [.i .i64 m,.b true]] (bBs t d m):=
 dO fun t hk _ ht d m h1 h2 h3 h4=>bUj t d m ht h1 h2 h3 h4 (fun k hmem d m a b c e=>hk k hmem (ht.kid k hmem) d m a b c e)
theorem aTb (t:LTerm) (ht:OkT t): CT 99 [elT t] (.b (fO nodeB t)):=by
 refine aL mixed Tryz.func99 g0 ?_
 · skip
   (refine zs0 ?_; repeat' first | exact trivial | refine zJ ?_ ?_ | refine zH fun hc=>?_)
   refine aTr 1 g0 (look t ht 1 0 (by decide) (by decide) (by decide) (by decide)) rfl rfl rfl rfl ?_ ?_
   · simp only [renL,ren,elT,bC,avt,renL_pers _ _ iH,aFa]
   · intro g2
     refine zg ?_
     (refine zs0 ?_; repeat' first | exact trivial | refine zJ ?_ ?_ | refine zH fun hc=>?_)
     exact aF (by rw [aLr pE]) rfl

theorem aLz (p:LTerm→Bool) (t:LTerm) (d m:Int):gK p t d m=if (decide (m - (1+t.rest.length) < 0) || decide (d < 1) || (decide (0 < t.rest.length) && decide (d < 2)) || !p t)=true then (false,m - (1+t.rest.length)) else formedL p t.kids (d - 1) (m - (1+t.rest.length)):=by
 cases t; rw [gK]; rfl
theorem aMa {p:LTerm→Bool} {l:List LTerm} {k:Nat} {d m:Int} (h:k < l.length):formedL p (l.drop k) d m=if (gK p (l.getD k default) d m).1=true then formedL p (l.drop (k+1)) d (gK p (l.getD k default) d m).2 else (false,(gK p (l.getD k default) d m).2):=by
 rw [bH h,formedL]; simp [List.getD,h]
theorem aLy {p:LTerm→Bool} {t:LTerm} {d m:Int} (hp:∀ t,p t=true→t.rest.length≤1) (hm:m≤2000) (h:(gK p t d m).1=true):0≤(gK p t d m).2∧(gK p t d m).2≤2000:=by
 have s:=sG hp t d m
 rw [s.2 h]
 have:=s.1.1 h
 omega
abbrev W0 (t:LTerm) (d m:Int):AV→List AObj→Prop:=fun r h'=>r=.b (gK nodeB t d m).1∧∃ g,h'=.box false [.i .i64 (gK nodeB t d m).2]::g
theorem pJ {t:LTerm} {d m a:Int} {b:Bool} {h g:List AObj} (e:gK nodeB t d m=(b,a)) (hh:h=.box false [.i .i64 a]::g):W0 t d m (.b b) h:=⟨by rw [e],g,by rw [e]; exact hh⟩
theorem bIc (t:LTerm) (d m:Int) (ht:OkT t) (hm0:0≤m) (hm:m≤2000) (hd0:0≤d) (hd:d≤100) (ih:∀ k ∈ t.kids,∀ (d m:Int),0≤m→m≤2000→0≤d→d≤100→ACalls Tryz.prog G0 213 [elT k,.i .i64 d,.ptr 0 0] [.box false [.i .i64 m]] (W0 k d m)): ACalls Tryz.prog G0 213 [elT t,.i .i64 d,.ptr 0 0] [.box false [.i .i64 m]] (W0 t d m):=by
 refine dF (rx:=false) (th:=fun _=>none) mixed Tryz.func213 ?_
 · simp -implicitDefEqProofs (disch:=omega) only [Tryz.f213,go_sem,List.replicate,simprocAttr]
   have hk1:=ht.kids
   have hr1:=ht.rest
   have c:=bPy t ht
   have e:=aLz nodeB t d m
   rw [show decide (0 < t.rest.length)=decide (0 < (t.rest.length:Int)) by simp] at e
   have w1:IntKind.i64.wrap (1+(t.rest.length:Int))=1+t.rest.length:=wrap64 (by omega) (by omega)
   have w2:IntKind.i64.wrap (m - (1+(t.rest.length:Int)))=m - (1+t.rest.length):=wrap64 (by omega) (by omega)
   cases hnb:nodeB t with
   | false=>
     rw [hnb] at c
     rw [hnb,Bool.not_false,dE,if_pos rfl] at e
     (refine zy1 (zA2 w1 w2) c ?_; repeat' first | exact trivial | refine zJ ?_ ?_ | refine zH fun hc=>?_)
     all_goals first
       | exact pJ e rfl
       | (exfalso; simp only [w1,w2] at *; omega)
   | true=>
   rw [hnb] at c
   rw [hnb,Bool.not_true,cG] at e
   (refine zy1 (zA2 w1 w2) c ?_; repeat' first | exact trivial | refine zJ ?_ ?_ | refine zH fun hc=>?_)
   all_goals try (exfalso; simp only [w1,w2] at *; omega)
   all_goals try exact pJ (e.trans (if_pos (by simp only [*,decide_true,decide_false,dD,dE,cT,Bool.true_and,Bool.false_and]))) rfl
   all_goals try exact pJ (e.trans (if_pos (by simp [*]))) rfl
   all_goals
     rw [if_neg (by simp only [*,decide_true,decide_false,dD,dE,cG,cT,Bool.true_and,Bool.false_and,aM,not_false_eq_true]; try omega)] at e
     refine eE (fun (s:Nat × Int)=>[.k,.k,.k,.k,.k,.k,.j,.k,.j,.k,.k,.k,.k,.k,.k,.k,.k,.k,.k,.k,.k,.k,.k,.k,.k,.k,.k,.k,.k,.k,.k,.k,.k,.k,.k,.k,.k,.k,.k,.k,.k,.k,.k,.k,.v (.i .i64 (s.1:Nat)),.j,.j,.j,.j,.j,.j,.j,.j,.j,.j]) (fun s=>[.box false [.i .i64 s.2],.box false [.i .i64 (t).kind,.i .i64 (t).n,.s (t).text,.s (t).sort,.sl ((t).kids.flatMap aC) (t).kids.length,.sl ((t).rest.flatMap aC) (t).rest.length]]) (fun s=>s.1≤t.kids.length∧formedL nodeB t.kids (d - 1) (m - (1+t.rest.length))=formedL nodeB (t.kids.drop s.1) (d - 1) s.2∧0≤s.2∧s.2≤2000) (fun s=>t.kids.length - s.1) ((0,m - (1+t.rest.length))) _ ⟨aG _,rfl,by dsimp only; omega,by dsimp only; omega⟩ rfl (by simp [eN]) ?_
     rintro ⟨k,m2⟩ g j ⟨hk,hL,hm20,hm2⟩
     dsimp only at hk hL hm20 hm2
     refine zg ?_
     (refine zs0 ?_; repeat' first | exact trivial | refine zJ ?_ ?_ | refine zH fun hc=>?_)
     · have hlt:k < t.kids.length:=by omega
       rw [aMa hlt] at hL
       refine aTr 0 g0 (ih _ (aU (d:=default) hlt) (d - 1) m2 hm20 hm2 (by omega) (by omega)) rfl rfl rfl rfl ?_ ?_
       · simp only [renL,ren,elT,bC,avt,renL_pers _ _ iH,aFa]
       · intro g2
         refine zg ?_
         (refine zs0 ?_; repeat' first | exact trivial | refine zJ ?_ ?_ | refine zH fun hc=>?_)
         · rw [if_neg (by rw [show (gK nodeB (t.kids.getD k default) (d - 1) m2).1=false by assumption]; simp)] at hL
           exact pJ (e.trans hL) rfl
         · rw [if_pos (show (gK nodeB (t.kids.getD k default) (d - 1) m2).1=true by assumption)] at hL
           have hle:=aLy pE hm2 (show (gK nodeB (t.kids.getD k default) (d - 1) m2).1=true by assumption)
           exact ⟨(k+1,(gK nodeB (t.kids.getD k default) (d - 1) m2).2),_,⟨by dsimp only; omega,hL,hle.1,hle.2⟩,by dsimp only; omega,rfl,by simp⟩
     · rw [aY (by omega),formedL] at hL
       exact pJ (e.trans hL) rfl
theorem bNc:∀ (t:LTerm),OkT t→∀ (d m:Int),0≤m→m≤2000→0≤d→d≤100→ACalls Tryz.prog G0 213 [elT t,.i .i64 d,.ptr 0 0] [.box false [.i .i64 m]] (W0 t d m):=
 dO fun t hk _ ht d m h1 h2 h3 h4=>bIc t d m ht h1 h2 h3 h4 (fun k hmem d m a b c e=>hk k hmem (ht.kid k hmem) d m a b c e)
theorem aIy (t:LTerm) (ht:OkT t): CT 171 [elT t] (.b (fO nodeB t)):=by
 refine aL mixed Tryz.func171 g0 ?_
 · skip
   (refine zs0 ?_; repeat' first | exact trivial | refine zJ ?_ ?_ | refine zH fun hc=>?_)
   refine aTr 1 g0 (bNc t ht 60 2000 (by decide) (by decide) (by decide) (by decide)) rfl rfl rfl rfl ?_ ?_
   · simp only [renL,ren,elT,bC,avt,renL_pers _ _ iH,aFa]
   · intro g2
     refine zg ?_
     (refine zs0 ?_; repeat' first | exact trivial | refine zJ ?_ ?_ | refine zH fun hc=>?_)
     exact aF (by rw [aBo pE]) rfl

def L0 (n:Nat) (f:Nat→Bool):Bool:=(List.range n).all f
theorem kU {n:Nat} {f:Nat→Bool} (h:∀ j,j < n→f j=true):L0 n f=true:=by
 simp only [L0,aN,iQ]; exact h
theorem gY {n:Nat} {f:Nat→Bool} (j:Nat) (hj:j < n) (h:f j=false):L0 n f=false:=by
 rw [gE]; intro e; simp only [L0,aN,iQ] at e; rw [e j hj] at h; cases h
theorem lV {n:Nat} {f:Nat→Bool}:L0 n f=true↔∀ j,j < n→f j=true:=by
 simp only [L0,aN,iQ]
theorem mU {l:List LTerm} {f:LTerm→Bool} (h:∀ j,j < l.length→f (l.getD j default)=true):l.all f=true:=by
 rw [aN]; intro x hx; obtain ⟨j,hj,rfl⟩:=bU.1 hx; have:=h j hj; simpa [List.getD,hj] using this
theorem wY {l:List LTerm} {f:LTerm→Bool} (j:Nat) (hj:j < l.length) (h:f (l.getD j default)=false):l.all f=false:=by
 rw [gE]; intro e; rw [aN.1 e _ (aU hj)] at h; cases h
def D9 (s:bZ) (t:LTerm):Bool:=match J9 s t.text with
 | none=>false
 | some o=>decide (o.args.length=t.kids.length) && L0 t.kids.length (fun i=>rE s (kZ s (t.kids.getD i default)) (o.args.getD i []))
def N3 (s:bZ) (t:LTerm):Bool:=match J9 s t.text with
 | none=>false
 | some o=>decide (o.args.length=t.kids.length) && L0 t.kids.length (fun i=>(ofR s (t.kids.getD i default)).2 && qZ s (ofR s (t.kids.getD i default)).1 (o.args.getD i []))
def xP (f:LTerm→LTerm→Int) (t:LTerm) (i:Nat):Bool:=zG (t.kids.getD (2 * i) default) && (decide (i=0) || decide (f (t.kids.getD (2 * i - 2) default) (t.kids.getD (2 * i) default) < 0))
def rB (f:LTerm→LTerm→Int) (t:LTerm):Bool:=L0 ((t.kids.length+1) / 2) (xP f t)
section
variable {f:LTerm→LTerm→Int} {t:LTerm} {i:Nat}
theorem aBe (h:zG (t.kids.getD (2 * i) default)=false):xP f t i=false:=by rw [xP,h,Bool.false_and]
theorem aHx (h:0 < ((2 * i:Nat):Int)) (h2:0≤f (t.kids.getD (2 * i - 2) default) (t.kids.getD (2 * i) default)):xP f t i=false:=by
 rw [xP,zf (by omega:¬ i=0),zf (by omega:¬ f (t.kids.getD (2 * i - 2) default) (t.kids.getD (2 * i) default) < 0),cT,Bool.and_false]
theorem aBd (h:zG (t.kids.getD (2 * i) default)=true) (h2:¬ 0≤f (t.kids.getD (2 * i - 2) default) (t.kids.getD (2 * i) default)):xP f t i=true:=by
 rw [xP,h,zt (by omega:f (t.kids.getD (2 * i - 2) default) (t.kids.getD (2 * i) default) < 0),dE]; rfl
theorem aQy (h:zG (t.kids.getD (2 * i) default)=true) (h2:¬ 0 < ((2 * i:Nat):Int)):xP f t i=true:=by
 rw [xP,h,zt (by omega:i=0)]; rfl
end
mutual
def kL (s:bZ):LTerm→Bool
 | .mk k n x so ks rs => !decide (k=6) && decide (rs=[]) && plainPL s ks && (if k=5 then D9 s (.mk k n x so ks rs) else if k=8 then rB J4 (.mk k n x so ks rs) else true)
def plainPL (s:bZ):List LTerm→Bool
 | []=>true
 | k::l=>kL s k && plainPL s l
end
mutual
def oZ (s:bZ):LTerm→Bool
 | .mk k n x so ks rs=>plainRL s ks && (if k=6 then false else if k=5 then N3 s (.mk k n x so ks rs) else if k=8 then rB J8 (.mk k n x so ks rs) else true) && decide (rs=[])
def plainRL (s:bZ):List LTerm→Bool
 | []=>true
 | k::l=>oZ s k && plainRL s l
end
theorem N2 {s:bZ}:∀ l,plainPL s l=l.all (kL s)
 | []=>rfl
 | k::l=>by rw [plainPL,N2 l]; rfl
theorem N1 {s:bZ}:∀ l,plainRL s l=l.all (oZ s)
 | []=>rfl
 | k::l=>by rw [plainRL,N1 l]; rfl
theorem vJ (s:bZ) (t:LTerm):kL s t=(!decide (t.kind=6) && decide (t.rest=[]) && t.kids.all (kL s) && (if t.kind=5 then D9 s t else if t.kind=8 then rB J4 t else true)):=by
 cases t; rw [kL,N2]; rfl
theorem aAj (s:bZ) (t:LTerm):oZ s t=(t.kids.all (oZ s) && (if t.kind=6 then false else if t.kind=5 then N3 s t else if t.kind=8 then rB J8 t else true) && decide (t.rest=[])):=by
 cases t; rw [oZ,N1]; rfl
theorem bAf (s:bZ) (t:LTerm) (hs:Small s) (ht:OkT t) (ih:∀ k ∈ t.kids,CT 100 [cX s,elT k] (.b (kL s k))): CT 100 [cX s,elT t] (.b (kL s t)):=by
 refine aL mixed Tryz.func100 g0 ?_
 · skip
   have e:=vJ s t
   have hk1:=ht.kids
   by_cases h6:t.kind=6
   · rw [zt h6,Bool.not_true,Bool.false_and,Bool.false_and,Bool.false_and] at e
     (refine zs0 ?_; repeat' first | exact trivial | refine zJ ?_ ?_ | refine zH fun hc=>?_)
     all_goals first
       | exact aF (by rw [e]) rfl
       | (exfalso; omega)
   by_cases hr:¬ t.rest=[]
   · rw [zf hr,Bool.and_false,Bool.false_and,Bool.false_and] at e
     have hr2:¬ t.rest.length=0:=fun h=>hr (List.length_eq_zero_iff.1 h)
     (refine zs0 ?_; repeat' first | exact trivial | refine zJ ?_ ?_ | refine zH fun hc=>?_)
     all_goals first
       | exact aF (by rw [e]) rfl
       | (exfalso; omega)
   have hr:t.rest=[]:=Classical.not_not.1 hr
   have hr2:t.rest.length=0:=by rw [hr]; rfl
   rw [zf h6,zt hr,Bool.not_false,Bool.true_and,Bool.true_and] at e
   (refine zs0 ?_; repeat' first | exact trivial | refine zJ ?_ ?_ | refine zH fun hc=>?_)
   · exfalso; omega
   refine eE (fun (k:Nat)=>[.k,.k,.k,.k,.j,.k,.j,.k,.k,.k,.k,.k,.k,.k,.k,.k,.k,.k,.k,.k,.k,.k,.k,.k,.v (.i .i64 (k:Nat)),.j,.j,.j,.j,.j,.j,.j,.j,.k,.k,.k,.k,.k,.k,.k,.k,.k,.k,.k,.k,.k,.k,.k,.k,.k,.k,.k,.k,.k,.k,.k,.k,.k,.k,.k,.k,.k,.k,.k,.k,.k,.k,.k,.k,.k,.k,.k,.k,.k,.k,.k,.k,.k,.k,.k,.k,.k,.k,.k,.k,.k,.k,.k,.k,.k,.k,.k,.k,.k,.k,.k,.k,.k,.k,.k,.k,.k,.k,.k,.k,.k,.k,.k,.k,.k]) (fun k=>[.box false [.i .i64 (t).kind,.i .i64 (t).n,.s (t).text,.s (t).sort,.sl ((t).kids.flatMap aC) (t).kids.length,.sl ((t).rest.flatMap aC) (t).rest.length]]) (fun k=>k≤t.kids.length∧∀ j,j < k→kL s (t.kids.getD j default)=true) (fun k=>t.kids.length - k) (0) _ ⟨aG _,fun j h=>by omega⟩ rfl (by simp [eN]) ?_
   rintro k g j ⟨hk,ha⟩
   have o:k < t.kids.length→CT 100 [cX s,elT (t.kids.getD k default)] (.b (kL s (t.kids.getD k default))):=fun h=>ih _ (aU h)
   refine zg ?_
   (refine zt1 o ?_; repeat' first | exact trivial | refine zJ ?_ ?_ | refine zH fun hc=>?_)
   · exact aF (by rw [e,wY k (by omega) hc,Bool.false_and]) rfl
   · exact ⟨k+1,_,⟨by omega,bD ha hc⟩,by omega,rfl,by simp⟩
   · rw [mU (fun j hj=>ha j (by omega)),Bool.true_and,if_pos hc] at e
     have c1:=bNu s t.text
     cases h1:J9 s t.text with
     | none=>
       rw [h1] at c1
       simp only [D9,h1] at e
       (repeat' (first | refine gT ?_ ?_ | refine gF ?_ ?_ | refine gC ?_ ?_ | ((refine bF (c1) ?_ ?_; (focus (simp -implicitDefEqProofs (disch:=omega) only [rJ,cX,zdB,go_sem,simprocAttr]; done))); simp -implicitDefEqProofs (disch:=omega) only [rJ,cX,go_sem,simprocAttr]) | refine bB (by omega) ?_ | (intro hr; have hc:=hr; (try simp only [zdz] at hc); simp -implicitDefEqProofs (disch:=omega) only [hr,rJ,cX,go_sem,simprocAttr]; (try clear hr))))
       all_goals exact aF (by rw [e]) rfl
     | some q=>
       rw [h1] at c1
       simp only [D9,h1] at e
       (repeat' (first | refine gT ?_ ?_ | refine gF ?_ ?_ | refine gC ?_ ?_ | ((refine bF (c1) ?_ ?_; (focus (simp -implicitDefEqProofs (disch:=omega) only [rJ,cX,zdB,go_sem,simprocAttr]; done))); simp -implicitDefEqProofs (disch:=omega) only [rJ,cX,go_sem,simprocAttr]) | refine bB (by omega) ?_ | (intro hr; have hc:=hr; (try simp only [zdz] at hc); simp -implicitDefEqProofs (disch:=omega) only [hr,rJ,cX,go_sem,simprocAttr]; (try clear hr))))
       · have hn:¬ q.args.length=t.kids.length:=by omega
         rw [zf hn,Bool.false_and] at e
         exact aF (by rw [e]) rfl
       have hn:q.args.length=t.kids.length:=by omega
       rw [zt hn,Bool.true_and] at e
       refine eE (fun (k:Nat)=>[.k,.k,.k,.k,.j,.k,.k,.k,.k,.j,.j,.k,.k,.k,.k,.k,.k,.k,.k,.k,.k,.k,.k,.k,.k,.k,.k,.k,.k,.k,.k,.k,.k,.k,.k,.k,.k,.k,.k,.k,.k,.k,.k,.k,.k,.k,.k,.k,.k,.k,.k,.k,.k,.k,.k,.k,.k,.k,.v (.i .i64 (k:Nat)),.j,.j,.j,.j,.j,.j,.j,.j,.j,.j,.j,.j,.j,.j,.j,.j,.k,.k,.k,.k,.k,.k,.k,.k,.k,.k,.k,.k,.k,.k,.k,.k,.k,.k,.k,.k,.k,.k,.k,.k,.k,.k,.k,.k,.k,.k,.k,.k,.k,.k,.k]) (fun k=>(.box false [.i .i64 (t).kind,.i .i64 (t).n,.s (t).text,.s (t).sort,.sl ((t).kids.flatMap aC) (t).kids.length,.sl ((t).rest.flatMap aC) (t).rest.length]::(g++[.box false (bK q)]))) (fun k=>k≤t.kids.length∧∀ j,j < k→rE s (kZ s (t.kids.getD j default)) (q.args.getD j [])=true) (fun k=>t.kids.length - k) (0) [] ⟨aG _,fun j h=>by omega⟩ (by simp [avs,avb,avi,avo,bK,aO]) (by simp [eN]) ?_
       rintro kk g2 j2 ⟨hkk,ha2⟩
       refine zg ?_
       (refine zt2 (aTa s (t.kids.getD kk default)) (aZh s (kZ s (t.kids.getD kk default)) (q.args.getD kk []) hs) ?_; repeat' first | exact trivial | refine zJ ?_ ?_ | refine zH fun hc=>?_)
       · exact aF (by rw [e,gY kk (by omega) hc]) rfl
       · exact ⟨kk+1,_,⟨by omega,bD ha2 hc⟩,by omega,rfl,by simp⟩
       · exact aF (by rw [e,kU (fun j hj=>ha2 j (by omega))]) rfl
   · rw [mU (fun j hj=>ha j (by omega)),Bool.true_and,if_neg (by assumption),if_pos hc] at e
     refine bP (fun (i:Nat)=>[.k,.k,.k,.k,.j,.k,.k,.k,.k,.k,.k,.v (.i .i64 ((2 * i:Nat):Int)),.k,.k,.k,.k,.k,.k,.k,.k,.k,.k,.k,.k,.k,.k,.k,.k,.k,.k,.k,.k,.k,.k,.k,.k,.k,.k,.k,.k,.k,.k,.k,.k,.k,.k,.k,.k,.k,.k,.k,.k,.k,.k,.k,.k,.k,.k,.k,.k,.k,.k,.k,.k,.k,.k,.k,.k,.k,.k,.k,.k,.k,.k,.k,.k,.k,.j,.j,.j,.j,.j,.j,.j,.j,.j,.j,.j,.j,.j,.j,.j,.j,.j,.j,.j,.j,.j,.j,.j,.j,.j,.j,.j,.j,.j,.j,.j,.j,.j]) (fun i=>(.box false [.i .i64 (t).kind,.i .i64 (t).n,.s (t).text,.s (t).sort,.sl ((t).kids.flatMap aC) (t).kids.length,.sl ((t).rest.flatMap aC) (t).rest.length]::g)) (fun i=>2 * i≤t.kids.length+1∧∀ j,j < i→xP J4 t j=true) (fun i=>t.kids.length+1 - 2 * i) (0) ⟨aG _,fun j h=>by omega⟩ rfl (by simp [eN]) ?_
     rintro i j2 ⟨hi,ha2⟩
     have h0:(((2 * i:Nat):Int) - 2).toNat=2 * i - 2:=by omega
     have o1:2 * i < t.kids.length→OkT (t.kids.getD (2 * i) default):=fun h=>ht.kid _ (aU h)
     have o2:2 * i < t.kids.length→OkT (t.kids.getD (2 * i - 2) default):=fun h=>ht.kid _ (aU (by omega))
     refine zh h0 ?_
     (repeat' (first | refine gT ?_ ?_ | refine gF ?_ ?_ | refine gC ?_ ?_ | ((first | refine cF (aSz (t.kids.getD (2 * i) default)) ?_ | refine cF (bQg (t.kids.getD (2 * i - 2) default) (t.kids.getD (2 * i) default) (o2 (by omega)) (o1 (by omega))) ?_); simp -implicitDefEqProofs (disch:=omega) only [h0,go_sem,simprocAttr]) | refine bB (by omega) ?_ | (intro hr; have hc:=hr; (try simp only [zdz] at hc); simp -implicitDefEqProofs (disch:=omega) only [hr,h0,go_sem,simprocAttr]; (try clear hr))))
     · exact aF (by rw [e,rB,gY i (by omega) (aHx (by assumption) hc)]) rfl
     · exact ⟨i+1,⟨by omega,bD ha2 (aBd (by assumption) hc)⟩,by omega,by rw [show ((2 * (i+1):Nat):Int)=((2 * i:Nat):Int)+2 by omega]⟩
     · exact ⟨i+1,⟨by omega,bD ha2 (aQy (by assumption) hc)⟩,by omega,by rw [show ((2 * (i+1):Nat):Int)=((2 * i:Nat):Int)+2 by omega]⟩
     · exact aF (by rw [e,rB,gY i (by omega) (aBe hc)]) rfl
     · exact aF (by rw [e,rB,kU (fun j hj=>ha2 j (by omega))]) rfl
   · rw [mU (fun j hj=>ha j (by omega)),Bool.true_and,if_neg (by assumption),if_neg (by assumption)] at e
     exact aF (by rw [e]) rfl
   · exfalso; omega
theorem bQk (s:bZ) (hs:Small s):∀ (t:LTerm),OkT t→CT 100 [cX s,elT t] (.b (kL s t)):=
 dO fun t hk _ ht=>bAf s t hs ht (fun k hm=>hk k hm (ht.kid k hm))
theorem bAe (s:bZ) (t:LTerm) (hm:Small s) (hs:OkS s) (ht:OkT t) (ih:∀ k ∈ t.kids,CT 173 [.agg (aO s),elT k] (.b (oZ s k))): CT 173 [.agg (aO s),elT t] (.b (oZ s t)):=by
 refine aL mixed Tryz.func173 g0 ?_
 · skip
   have e:=aAj s t
   have er:decide ((t.rest.length:Int)=0)=decide (t.rest=[]):=by rw [cI]; simp
   have hk1:=ht.kids
   refine eE (fun (k:Nat)=>[.k,.k,.k,.k,.j,.k,.j,.k,.k,.k,.k,.k,.k,.k,.k,.k,.k,.v (.i .i64 (k:Nat)),.j,.j,.j,.j,.j,.j,.j,.j,.k,.k,.k,.k,.k,.k,.k,.k,.k,.k,.k,.k,.k,.k,.k,.k,.k,.k,.k,.k,.k,.k,.k,.k,.k,.k,.k,.k,.k,.k,.k,.k,.k,.k,.k,.k,.k,.k,.k,.k,.k,.k,.k,.k,.k,.k,.k,.k,.k,.k,.k,.k,.k,.k,.k,.k,.k,.k,.k,.k,.k,.k,.k,.k,.k,.k,.k,.k,.k,.k,.k,.k,.k,.k,.k,.k,.k,.k,.k,.k,.k,.k,.k,.k,.k,.k,.k,.k,.k,.k,.k,.k]) (fun k=>[.box false (aO s),.box false [.i .i64 (t).kind,.i .i64 (t).n,.s (t).text,.s (t).sort,.sl ((t).kids.flatMap aC) (t).kids.length,.sl ((t).rest.flatMap aC) (t).rest.length]]) (fun k=>k≤t.kids.length∧∀ j,j < k→oZ s (t.kids.getD j default)=true) (fun k=>t.kids.length - k) (0) _ ⟨aG _,fun j h=>by omega⟩ rfl (by simp [eN]) ?_
   rintro k g j ⟨hk,ha⟩
   have o:k < t.kids.length→CT 173 [.agg (aO s),elT (t.kids.getD k default)] (.b (oZ s (t.kids.getD k default))):=fun h=>ih _ (aU h)
   refine zg ?_
   (refine zt1 o ?_; repeat' first | exact trivial | refine zJ ?_ ?_ | refine zH fun hc=>?_)
   · exact aF (by rw [e,wY k (by omega) hc,Bool.false_and,Bool.false_and]) rfl
   · exact ⟨k+1,_,⟨by omega,bD ha hc⟩,by omega,rfl,by simp⟩
   · rw [if_pos hc,Bool.and_false,Bool.false_and] at e
     exact aF (by rw [e]) rfl
   · rw [mU (fun j hj=>ha j (by omega)),Bool.true_and,if_neg (by assumption),if_pos hc] at e
     have c1:Ctr _ _ _ _ (gV (J9 s t.text)):=aJe s.ops t.text hs.ops
     cases h1:J9 s t.text with
     | none=>
       rw [h1] at c1
       simp only [N3,h1] at e
       (repeat' (first | refine gT ?_ ?_ | refine gF ?_ ?_ | refine gC ?_ ?_ | ((refine bF (c1) ?_ ?_; (focus (simp -implicitDefEqProofs (disch:=omega) only [gV,zdB,go_sem,simprocAttr]; done))); simp -implicitDefEqProofs (disch:=omega) only [gV,go_sem,simprocAttr]) | refine bB (by omega) ?_ | (intro hr; have hc:=hr; (try simp only [zdz] at hc); simp -implicitDefEqProofs (disch:=omega) only [hr,gV,go_sem,simprocAttr]; (try clear hr))))
       all_goals exact aF (by rw [e]; rfl) rfl
     | some q=>
       rw [h1] at c1
       simp only [N3,h1] at e
       (repeat' (first | refine gT ?_ ?_ | refine gF ?_ ?_ | refine gC ?_ ?_ | ((refine bF (c1) ?_ ?_; (focus (simp -implicitDefEqProofs (disch:=omega) only [gV,zdB,go_sem,simprocAttr]; done))); simp -implicitDefEqProofs (disch:=omega) only [gV,go_sem,simprocAttr]) | refine bB (by omega) ?_ | (intro hr; have hc:=hr; (try simp only [zdz] at hc); simp -implicitDefEqProofs (disch:=omega) only [hr,gV,go_sem,simprocAttr]; (try clear hr))))
       · have hn:¬ q.args.length=t.kids.length:=by omega
         rw [zf hn,Bool.false_and,Bool.false_and] at e
         exact aF (by rw [e]) rfl
       have hn:q.args.length=t.kids.length:=by omega
       rw [zt hn,Bool.true_and] at e
       refine eE (fun (k:Nat)=>[.k,.k,.k,.k,.j,.k,.k,.k,.k,.j,.j,.j,.j,.k,.k,.k,.k,.k,.k,.k,.k,.k,.k,.k,.k,.k,.k,.k,.k,.k,.k,.k,.k,.k,.k,.k,.k,.k,.k,.k,.k,.k,.k,.k,.k,.k,.k,.k,.k,.k,.k,.k,.k,.k,.v (.i .i64 (k:Nat)),.j,.j,.j,.j,.j,.j,.j,.j,.j,.j,.j,.j,.j,.j,.j,.j,.j,.j,.j,.j,.j,.j,.j,.j,.k,.k,.k,.k,.k,.k,.k,.k,.k,.k,.k,.k,.k,.k,.k,.k,.k,.k,.k,.k,.k,.k,.k,.k,.k,.k,.k,.k,.k,.k,.k,.k,.k,.k,.k,.k,.k,.k,.k]) (fun k=>(.box false (aO s)::.box false [.i .i64 (t).kind,.i .i64 (t).n,.s (t).text,.s (t).sort,.sl ((t).kids.flatMap aC) (t).kids.length,.sl ((t).rest.flatMap aC) (t).rest.length]::(g++[.box false (bK q)]))) (fun k=>k≤t.kids.length∧∀ j,j < k→((ofR s (t.kids.getD j default)).2 && qZ s (ofR s (t.kids.getD j default)).1 (q.args.getD j []))=true) (fun k=>t.kids.length - k) (0) [] ⟨aG _,fun j h=>by omega⟩ (by simp [avs,avb,avi,avo,bK,aO]) (by simp [eN]) ?_
       rintro kk g2 j2 ⟨hkk,ha2⟩
       refine zg ?_
       (refine zt2 (aJb s (t.kids.getD kk default) hs) (aZg s (ofR s (t.kids.getD kk default)).1 (q.args.getD kk []) hm) ?_; repeat' first | exact trivial | refine zJ ?_ ?_ | refine zH fun hc=>?_)
       · exact aF (by rw [e,gY kk (by omega) (by rw [hc,Bool.and_false]),Bool.false_and]) rfl
       · exact ⟨kk+1,_,⟨by omega,bD ha2 (by rw [hc,Bool.and_true]; assumption)⟩,by omega,rfl,by simp⟩
       · exact aF (by rw [e,gY kk (by omega) (by rw [hc,Bool.false_and]),Bool.false_and]) rfl
       · exact aF (by rw [e,kU (fun j hj=>ha2 j (by omega)),er,Bool.true_and]) rfl
   · rw [mU (fun j hj=>ha j (by omega)),Bool.true_and,if_neg (by assumption),if_neg (by assumption),if_pos hc] at e
     refine bP (fun (i:Nat)=>[.k,.k,.k,.k,.j,.k,.k,.k,.k,.k,.k,.k,.k,.v (.i .i64 ((2 * i:Nat):Int)),.k,.k,.k,.k,.k,.k,.k,.k,.k,.k,.k,.k,.k,.k,.k,.k,.k,.k,.k,.k,.k,.k,.k,.k,.k,.k,.k,.k,.k,.k,.k,.k,.k,.k,.k,.k,.k,.k,.k,.k,.k,.k,.k,.k,.k,.k,.k,.k,.k,.k,.k,.k,.k,.k,.k,.k,.k,.k,.k,.k,.k,.k,.k,.k,.k,.k,.k,.j,.j,.j,.j,.j,.j,.j,.j,.j,.j,.j,.j,.j,.j,.j,.j,.j,.j,.j,.j,.j,.j,.j,.j,.j,.j,.j,.j,.j,.j,.j,.j,.j,.k,.k,.k,.k]) (fun i=>(.box false (aO s)::.box false [.i .i64 (t).kind,.i .i64 (t).n,.s (t).text,.s (t).sort,.sl ((t).kids.flatMap aC) (t).kids.length,.sl ((t).rest.flatMap aC) (t).rest.length]::g)) (fun i=>2 * i≤t.kids.length+1∧∀ j,j < i→xP J8 t j=true) (fun i=>t.kids.length+1 - 2 * i) (0) ⟨aG _,fun j h=>by omega⟩ rfl (by simp [eN]) ?_
     rintro i j2 ⟨hi,ha2⟩
     have h0:(((2 * i:Nat):Int) - 2).toNat=2 * i - 2:=by omega
     have o1:2 * i < t.kids.length→OkT (t.kids.getD (2 * i) default):=fun h=>ht.kid _ (aU h)
     have o2:2 * i < t.kids.length→OkT (t.kids.getD (2 * i - 2) default):=fun h=>ht.kid _ (aU (by omega))
     refine zh h0 ?_
     (repeat' (first | refine gT ?_ ?_ | refine gF ?_ ?_ | refine gC ?_ ?_ | ((first | refine cF (bEa (t.kids.getD (2 * i) default)) ?_ | refine cF (bQd (t.kids.getD (2 * i - 2) default) (t.kids.getD (2 * i) default) (o2 (by omega)) (o1 (by omega))) ?_); simp -implicitDefEqProofs (disch:=omega) only [h0,go_sem,simprocAttr]) | refine bB (by omega) ?_ | (intro hr; have hc:=hr; (try simp only [zdz] at hc); simp -implicitDefEqProofs (disch:=omega) only [hr,h0,go_sem,simprocAttr]; (try clear hr))))
     · exact aF (by rw [e,rB,gY i (by omega) (aHx (by assumption) hc),Bool.false_and]) rfl
     · exact ⟨i+1,⟨by omega,bD ha2 (aBd (by assumption) hc)⟩,by omega,by rw [show ((2 * (i+1):Nat):Int)=((2 * i:Nat):Int)+2 by omega]⟩
     · exact ⟨i+1,⟨by omega,bD ha2 (aQy (by assumption) hc)⟩,by omega,by rw [show ((2 * (i+1):Nat):Int)=((2 * i:Nat):Int)+2 by omega]⟩
     · exact aF (by rw [e,rB,gY i (by omega) (aBe hc),Bool.false_and]) rfl
     · exact aF (by rw [e,rB,kU (fun j hj=>ha2 j (by omega)),er,Bool.true_and]) rfl
   · rw [mU (fun j hj=>ha j (by omega)),Bool.true_and,if_neg (by assumption),if_neg (by assumption),if_neg (by assumption),Bool.true_and] at e
     exact aF (by rw [e,er]) rfl
theorem bQj (s:bZ) (hm:Small s) (hs:OkS s):∀ (t:LTerm),OkT t→CT 173 [.agg (aO s),elT t] (.b (oZ s t)):=
 dO fun t hk _ ht=>bAe s t hm hs ht (fun k hm=>hk k hm (ht.kid k hm))

theorem aTj {a b:Int}:qR a b=0↔a=b:=by
 rw [qR]; split
 · omega
 · split <;> omega
structure ZN (t:LTerm):Prop where
 a:t.kind=1∨t.kind=2→t.text=[]∧t.sort=[]∧t.kids=[]∧t.rest=[]
 b:t.kind=3∨t.kind=4→t.n=0∧t.sort=[]∧t.kids=[]∧t.rest=[]
 c:t.kind=5→t.n=0∧t.sort=[]∧t.rest=[]
 d:t.kind=6→t.n=0∧t.kids=[]∧t.rest=[]
 e:t.kind=7∨t.kind=8→t.n=0∧t.text=[]∧t.sort=[]
 f:1≤t.kind∧t.kind≤8
theorem pU {t:LTerm} {a b c d e:Bool} (h:eY t a b c d e=true):(a=false→t.n=0)∧(b=false→t.text=[])∧(c=false→t.sort=[])∧(d=false→t.kids=[])∧(e=false→t.rest=[]):=by
 simp only [eY,aA,bJ,decide_eq_true_eq] at h
 obtain ⟨⟨⟨⟨h1,h2⟩,h3⟩,h4⟩,h5⟩:=h
 exact ⟨fun h=>h1.resolve_left (by simp [h]),fun h=>h2.resolve_left (by simp [h]),fun h=>h3.resolve_left (by simp [h]),fun h=>h4.resolve_left (by simp [h]),fun h=>h5.resolve_left (by simp [h])⟩
theorem aQi {t:LTerm} (h:nodeB t=true):ZN t:=by
 have two:∀ {x y:Bool},(x && y)=true→x=true∧y=true:=by simp
 unfold nodeB at h
 split at h
 · have z:=pU (two h).2
   exact ⟨fun _=>⟨z.2.1 rfl,z.2.2.1 rfl,z.2.2.2.1 rfl,z.2.2.2.2 rfl⟩,fun _=>by omega,fun _=>by omega,fun _=>by omega,fun _=>by omega,by omega⟩
 split at h
 · have z:=pU (two h).2
   exact ⟨fun _=>⟨z.2.1 rfl,z.2.2.1 rfl,z.2.2.2.1 rfl,z.2.2.2.2 rfl⟩,fun _=>by omega,fun _=>by omega,fun _=>by omega,fun _=>by omega,by omega⟩
 split at h
 · have z:=pU (two h).2
   exact ⟨fun _=>by omega,fun _=>⟨z.1 rfl,z.2.2.1 rfl,z.2.2.2.1 rfl,z.2.2.2.2 rfl⟩,fun _=>by omega,fun _=>by omega,fun _=>by omega,by omega⟩
 split at h
 · have z:=pU (two h).2
   exact ⟨fun _=>by omega,fun _=>⟨z.1 rfl,z.2.2.1 rfl,z.2.2.2.1 rfl,z.2.2.2.2 rfl⟩,fun _=>by omega,fun _=>by omega,fun _=>by omega,by omega⟩
 split at h
 · have z:=pU (two h).2
   exact ⟨fun _=>by omega,fun _=>by omega,fun _=>⟨z.1 rfl,z.2.2.1 rfl,z.2.2.2.2 rfl⟩,fun _=>by omega,fun _=>by omega,by omega⟩
 split at h
 · have z:eY t false true true false false=true:=by
     split at h
     · exact (two h).2
     · exact (two h).2
   have z:=pU z
   exact ⟨fun _=>by omega,fun _=>by omega,fun _=>by omega,fun _=>⟨z.1 rfl,z.2.2.2.1 rfl,z.2.2.2.2 rfl⟩,fun _=>by omega,by omega⟩
 split at h
 · have z:=pU (two h).2
   exact ⟨fun _=>by omega,fun _=>by omega,fun _=>by omega,fun _=>by omega,fun _=>⟨z.1 rfl,z.2.1 rfl,z.2.2.1 rfl⟩,by omega⟩
 split at h
 · have z:=pU (two h).2
   exact ⟨fun _=>by omega,fun _=>by omega,fun _=>by omega,fun _=>by omega,fun _=>⟨z.1 rfl,z.2.1 rfl,z.2.2.1 rfl⟩,by omega⟩
 · cases h
theorem aOz {t:LTerm} {so:Str} (h:qE t so=true):∀ r ∈ t.rest,ZN r∧r.kids=[]∧r.rest=[]:=by
 intro r hr
 simp only [qE,bJ,aA,decide_eq_true_eq] at h
 rcases h with h | ⟨⟨⟨⟨h1,h2⟩,h3⟩,h4⟩,h5⟩
 · rw [List.length_eq_zero_iff] at h; rw [h] at hr; cases hr
 · obtain ⟨x,hx⟩:=aCv.1 h1
   rw [hx] at hr h2 h5
   simp only [aS] at hr
   subst hr
   simp only [gW] at h2 h5
   have z:=pU h5
   exact ⟨⟨fun _=>by omega,fun _=>by omega,fun _=>by omega,fun _=>⟨z.1 rfl,z.2.2.2.1 rfl,z.2.2.2.2 rfl⟩,fun _=>by omega,by omega⟩,z.2.2.2.1 rfl,z.2.2.2.2 rfl⟩
theorem E2 {t:LTerm} (h:nodeB t=true):∀ r ∈ t.rest,ZN r∧r.kids=[]∧r.rest=[]:=by
 have two:∀ {x y:Bool},(x && y)=true→x=true∧y=true:=by simp
 have z:=aQi h
 intro r hr
 have hne:t.rest ≠ []:=fun e=>by rw [e] at hr; cases hr
 have h7:t.kind=7∨t.kind=8:=by
   rcases z.f with ⟨f1,f2⟩
   by_cases h1:t.kind=1∨t.kind=2
   · exact absurd (z.a h1).2.2.2 hne
   by_cases h3:t.kind=3∨t.kind=4
   · exact absurd (z.b h3).2.2.2 hne
   by_cases h5:t.kind=5
   · exact absurd (z.c h5).2.2 hne
   by_cases h6:t.kind=6
   · exact absurd (z.d h6).2.2 hne
   omega
 unfold nodeB at h
 rw [if_neg (by omega),if_neg (by omega),if_neg (by omega),if_neg (by omega),if_neg (by omega),if_neg (by omega)] at h
 split at h
 · exact aOz (two h).1 r hr
 · split at h
   · exact aOz (two (two h).1).1 r hr
   · cases h
inductive ZT:LTerm→Prop
 | mk {t:LTerm}:ZN t→(∀ k ∈ t.kids,ZT k)→(∀ k ∈ t.rest,ZT k)→ZT t
theorem oR {p:LTerm→Bool} {t:LTerm}:wfT p t=true↔p t=true∧∀ k ∈ t.kids,wfT p k=true:=by
 have hl:∀ l:List LTerm,wfL p l=true↔∀ k ∈ l,wfT p k=true:=by
   intro l
   induction l with
   | nil=>simp [wfL]
   | cons a l ih=>simp [wfL,ih]
 cases t
 rw [wfT,aA,hl]; rfl
theorem bEv:∀ t:LTerm,wfT nodeB t=true→ZT t:=
 dO fun t hk _ h=>by
   rw [oR] at h
   refine .mk (aQi h.1) (fun k hm=>hk k hm (h.2 k hm)) (fun r hr=>?_)
   have z:=E2 h.1 r hr
   exact .mk z.1 (fun k hm=>by rw [z.2.1] at hm; cases hm) (fun k hm=>by rw [z.2.2] at hm; cases hm)
theorem wN (a:Int):qR a a=0:=U2 rfl
theorem wM (a:Str):rM a a=0:=aFh rfl
theorem vN:ordPL [] []=0:=by rw [ordPL]
theorem aDz:∀ (l m:List LTerm),(∀ a ∈ l,∀ b ∈ m,J8 a b=J4 a b)→ordRL l m=ordPL l m
 | [],[],_=>by rw [ordRL,ordPL]
 | [],_::_,_=>by rw [ordRL,ordPL]
 | _::_,[],_=>by rw [ordRL,ordPL]
 | a::l,b::m,h=>by
   rw [ordRL,ordPL,h a (by simp) b (by simp),aDz l m (fun x hx y hy=>h x (by simp [hx]) y (by simp [hy]))]
theorem bMd:∀ (a:LTerm),ZT a→∀ b,ZT b→J8 a b=J4 a b:=
 dO (Q := fun a=>ZT a→∀ b,ZT b→J8 a b=J4 a b) fun a hk hr ha b hb=>by
   obtain ⟨za,ka,ra⟩:=ha
   obtain ⟨zb,kb,rb⟩:=hb
   have e1:ordRL a.kids b.kids=ordPL a.kids b.kids:=aDz _ _ (fun x hx y hy=>hk x hx (ka x hx) y (kb y hy))
   have e2:ordRL a.rest b.rest=ordPL a.rest b.rest:=aDz _ _ (fun x hx y hy=>hr x hx (ra x hx) y (rb y hy))
   rw [aQa,aDy,e1,e2]
   by_cases h0:qR a.kind b.kind=0
   · rw [if_pos h0,if_pos h0]
     have h0:=aTj.1 h0
     by_cases h1:a.kind=1∨a.kind=2
     · obtain ⟨x1,x2,x3,x4⟩:=za.a h1
       obtain ⟨y1,y2,y3,y4⟩:=zb.a (by omega)
       rw [if_pos h1,x1,x2,x3,x4,y1,y2,y3,y4,wM,vN]
       simp only [if_true]
       split
       · assumption
       · rfl
     rw [if_neg h1]
     by_cases h3:a.kind=3∨a.kind=4
     · obtain ⟨x1,x2,x3,x4⟩:=za.b h3
       obtain ⟨y1,y2,y3,y4⟩:=zb.b (by omega)
       rw [if_pos h3,x1,x2,x3,x4,y1,y2,y3,y4,wM,wN,vN]
       simp only [if_true]
       split
       · assumption
       · rfl
     rw [if_neg h3]
     by_cases h6:a.kind=6
     · obtain ⟨x1,x3,x4⟩:=za.d h6
       obtain ⟨y1,y3,y4⟩:=zb.d (by omega)
       rw [if_pos h6,x1,x3,x4,y1,y3,y4,wN,vN]
       simp only [if_true]
       split
       · split
         · assumption
         · rfl
       · rfl
     rw [if_neg h6]
     by_cases h5:a.kind=5
     · obtain ⟨x1,x3,x4⟩:=za.c h5
       obtain ⟨y1,y3,y4⟩:=zb.c (by omega)
       rw [if_pos h5,x1,x3,x4,y1,y3,y4,wN,wM,vN]
       simp only [if_true]
       split
       · split
         · assumption
         · rfl
       · rfl
     rw [if_neg h5]
     have f:=za.f
     obtain ⟨x1,x3,x4⟩:=za.e (by omega)
     obtain ⟨y1,y3,y4⟩:=zb.e (by omega)
     rw [x1,x3,x4,y1,y3,y4,wN,wM]
     simp only [if_true]
   · rw [if_neg h0,if_neg h0]

def lH (s:bZ) (t:LTerm):Bool:=fO nodeB t && kL s t
theorem aTc (s:bZ) (t:LTerm) (hs:Small s) (ht:OkT t): CT 50 [cX s,elT t] (.b (lH s t)):=by
 refine aL mixed Tryz.func50 g0 ?_
 · skip
   (refine zt2 (aTb t ht) (bQk s hs t ht) ?_; repeat' first | exact trivial | refine zJ ?_ ?_ | refine zH fun hc=>?_)
   all_goals refine aF ?_ rfl
   all_goals simp only [lH, *,Bool.true_and,Bool.false_and]
theorem Y3 {s:bZ} (h:dM s=true):∀ o ∈ s.ops,aRd s o=true:=by
 simp only [dM,nA,nT,oS,aA,aN,decide_eq_true_eq] at h
 exact h.2.1.2
theorem aQe {s:bZ} {o:LOp} (h:aRd s o=true):existsA s o.sort=true:=by
 simp only [aRd,opHead,aA,fM] at h
 simp [existsA,keysOf,h.1.1.1.1.1.2]
theorem aHg {s:bZ} {x:Str} {o:LOp} (h:J9 s x=some o):o ∈ s.ops:=J1 h
theorem mR {s:bZ} {x:Str} (h:x ∈ gI):existsA s x=true:=by simp [existsA,keysOf,h]
theorem M5 {s:bZ} {t:LTerm} (hv:dM s=true) (hz:1≤t.kind∧t.kind≤8) (hp:kL s t=true):ofR s t=(kZ s t,true)∧existsA s (kZ s t)=true:=by
 rw [vJ] at hp
 simp only [aA,bV,decide_eq_false_iff_not] at hp
 obtain ⟨⟨⟨h6,_⟩,_⟩,ha⟩:=hp
 by_cases h5:t.kind=5
 · rw [if_pos h5,D9] at ha
   cases ho:J9 s t.text with
   | none=>rw [ho] at ha; cases ha
   | some o=>
     have e1:(called s t.text).1=o:=by rw [called,ho]
     have e2:(argsR2 s t.text).2=(o.sort,true):=by rw [argsR2,ho]
     simp only [kZ,ofR,h5,Int.reduceEq,if_true,if_false,e1,e2,true_and]
     exact aQe (Y3 hv o (aHg ho))
 · simp only [kZ,ofR]
   split
   · exact ⟨rfl,mR (by decide)⟩
   split
   · exact ⟨rfl,mR (by decide)⟩
   split
   · exact ⟨rfl,mR (by decide)⟩
   split
   · exact ⟨rfl,mR (by decide)⟩
   split
   · exact ⟨rfl,mR (by decide)⟩
   split
   · exact ⟨rfl,mR (by decide)⟩
   · omega
theorem all_congr {l:List LTerm} {f g:LTerm→Bool} (h:∀ x ∈ l,f x=g x):l.all f=l.all g:=by
 induction l with
 | nil=>rfl
 | cons a l ih=>rw [eC,eC,h a (by simp),ih (fun x hx=>h x (by simp [hx]))]
theorem xZ {n:Nat} {f g:Nat→Bool} (h:∀ j,j < n→f j=g j):L0 n f=L0 n g:=by
 rw [cI,lV,lV]
 exact ⟨fun a j hj=>h j hj ▸ a j hj,fun a j hj=>(h j hj).symm ▸ a j hj⟩
theorem aQx {t:LTerm} (h:∀ k ∈ t.kids,ZT k):rB J8 t=rB J4 t:=by
 refine xZ fun j hj=>?_
 have e:J8 (t.kids.getD (2 * j - 2) default) (t.kids.getD (2 * j) default)=J4 (t.kids.getD (2 * j - 2) default) (t.kids.getD (2 * j) default):=bMd _ (h _ (aU (by omega))) _ (h _ (aU (by omega)))
 rw [xP,xP,e]
theorem aWy {s:bZ} (hv:dM s=true):∀ t:LTerm,wfT nodeB t=true→oZ s t=kL s t:=
 dO (Q := fun t=>wfT nodeB t=true→oZ s t=kL s t) fun t hk _ hw=>by
   have hw':=oR.1 hw
   have z:=bEv t hw
   have e:t.kids.all (oZ s)=t.kids.all (kL s):=all_congr fun x hx=>hk x hx (hw'.2 x hx)
   rw [aAj,vJ,e]
   rcases eM (t.kids.all (kL s)) with ha | ha
   · rw [ha,Bool.true_and,Bool.and_true]
     by_cases h6:t.kind=6
     · rw [if_pos h6,zt h6]; rfl
     rw [if_neg h6,zf h6,Bool.not_false,Bool.true_and]
     by_cases h5:t.kind=5
     · rw [if_pos h5,if_pos h5]
       have e5:N3 s t=D9 s t:=by
         rw [N3,D9]
         cases ho:J9 s t.text with
         | none=>rfl
         | some o=>
           dsimp only
           congr 1
           refine xZ fun j hj=>?_
           have hm:t.kids.getD j default ∈ t.kids:=aU hj
           have zk:=bEv _ (hw'.2 _ hm)
           obtain ⟨q1,q2⟩:=M5 hv (by cases zk with | mk a _ _=>exact a.f) (aN.1 ha _ hm)
           rw [q1,Bool.true_and]
           exact zO q2
       rw [e5,Bool.and_comm]
     rw [if_neg h5,if_neg h5]
     by_cases h8:t.kind=8
     · rw [if_pos h8,if_pos h8,aQx (by cases z with | mk _ b _=>exact b),Bool.and_comm]
     · rw [if_neg h8,if_neg h8,Bool.and_comm]
   · rw [ha]; simp
theorem zN {t:LTerm} (h:fO nodeB t=true):wfT nodeB t=true:=by
 simp only [fO,aA] at h; exact h.1.1
theorem bQo (s:bZ) (t:LTerm) (hm:Small s) (hs:OkS s) (hv:dM s=true) (ht:OkT t): CT 108 [.agg (aO s),elT t] (.b (lH s t)):=by
 refine aL mixed Tryz.func108 g0 ?_
 · skip
   (refine zt2 (aIy t ht) (bQj s hm hs t ht) ?_; repeat' first | exact trivial | refine zJ ?_ ?_ | refine zH fun hc=>?_)
   all_goals refine aF ?_ rfl
   · rw [lH,hc,aWy hv t (zN hc),Bool.true_and]
   · rw [lH,hc,Bool.false_and]
theorem bQq (s:bZ) (t:LTerm) (hm:Small s) (hs:OkS s) (ht:OkT t): CT 54 [.agg (aO s),elT t] (.b (dM s && lH s t)):=by
 refine aL mixed Tryz.func54 g0 ?_
 · skip
   (repeat' (first | refine gT ?_ ?_ | refine gF ?_ ?_ | refine gC ?_ ?_ | ((first | refine cF (aTd s hm hs) ?_ | refine cF (bQo s t hm hs hc ht) ?_); simp -implicitDefEqProofs (disch:=omega) only [go_sem,simprocAttr]) | refine bB (by omega) ?_ | (intro hr; have hc:=hr; (try simp only [zdz] at hc); simp -implicitDefEqProofs (disch:=omega) only [hr,go_sem,simprocAttr]; (try clear hr))))
   all_goals exact aF rfl rfl

theorem bCh {H g:List AObj} {out:AV} {l:List LTerm} (h:dV 6 0 g out (l.flatMap aC) l.length) (hH:H=g):Rd6 H out l:=by
 subst hH
 rcases h with ⟨rfl,hn,h0⟩ | ⟨i,rfl,hi,hl⟩
 · exact .inl ⟨rfl,List.length_eq_zero_iff.1 (by omega)⟩
 · refine .inr (.inr ⟨i+0,0,_,_,_,rfl,(by simpa using hi),by omega,?_⟩)
   rw [cZ,aH (by omega)]
theorem bCz {H:List AObj} {v:AV} {l:List LTerm} (r:Rd6 H v l):Fin H v (.sl (l.flatMap aC) l.length):=by
 have e:=D2 r
 have e1:lD H v (.sl (l.flatMap aC) l.length):=e.1
 have e2:bW v (.sl (l.flatMap aC) l.length)=[]:=e.2
 exact .inr ⟨e1,by rw [e2]; exact cR,by rw [e2]; simp⟩
theorem aKp {l:List LTerm} {k:Nat} (h:k < l.length):(l.take (k+1)).flatMap aC=(l.take k).flatMap aC++aC (l.getD k default):=by
 rw [fY (d:=default) h,dP]; simp
theorem fU {α:Type} {l:List α}:(List.replicate 1 l).flatten=l:=by simp
theorem aIz (l:List LTerm) (hl:l.length≤1466015503701) (ih:∀ t ∈ l,CT 44 [elT t] (elT t)): CT 78 [avt l] (avt l):=by
 refine bQ mixed Tryz.func78 g0 ?_
 · simp -implicitDefEqProofs (disch:=omega) only [Tryz.f78,go_sem,List.replicate,↓reduceIte,reduceAdd,reduceSub,reduceMul,reduceLeDiff,reduceLT,reduceEqDiff,reduceNeg,Nat.reduceBEq,avt]
   refine bP (fun (s:Nat × AV × List AObj)=>[.k,.k,.k,.v (s.2.1),.k,.j,.k,.k,.v (.i .i64 (s.1:Nat)),.j,.j,.j,.j,.j,.j,.j,.j,.j,.k]) (fun s=>s.2.2) (fun s=>s.1≤l.length∧dV 6 0 s.2.2 s.2.1 ((l.take s.1).flatMap aC) s.1) (fun s=>l.length - s.1) ((0,.e0,[])) ⟨aG _,jC⟩ rfl (by simp [eN]) ?_
   rintro ⟨k,out,g⟩ j ⟨hk,ho⟩
   dsimp only at hk ho
   have o:k < l.length→CT 44 [elT (l.getD k default)] (elT (l.getD k default)):=fun h=>ih _ (aU h)
   refine zg ?_
   (repeat' (first | refine gT ?_ ?_ | refine gF ?_ ?_ | refine gC ?_ ?_ | ((refine bF ((o (by omega))) ?_ ?_; (focus (simp -implicitDefEqProofs (disch:=omega) only [fU,zdB,go_sem,↓reduceIte,reduceAdd,reduceSub,reduceMul,reduceLeDiff,reduceLT,reduceEqDiff,reduceNeg,Nat.reduceBEq]; done))); simp -implicitDefEqProofs (disch:=omega) only [fU,go_sem,↓reduceIte,reduceAdd,reduceSub,reduceMul,reduceLeDiff,reduceLT,reduceEqDiff,reduceNeg,Nat.reduceBEq]) | refine bB (by omega) ?_ | (intro hr; have hc:=hr; (try simp only [zdz] at hc); simp -implicitDefEqProofs (disch:=omega) only [hr,fU,go_sem,↓reduceIte,reduceAdd,reduceSub,reduceMul,reduceLeDiff,reduceLT,reduceEqDiff,reduceNeg,Nat.reduceBEq]; (try clear hr))))
   · refine dU (pre:=[]) (g:=g++[.box false [.i .i64 (l.getD k default).kind,.i .i64 (l.getD k default).n,.s (l.getD k default).text,.s (l.getD k default).sort,.sl ((l.getD k default).kids.flatMap aC) (l.getD k default).kids.length,.sl ((l.getD k default).rest.flatMap aC) (l.getD k default).rest.length]]) (more:=[.arr false 6 ([.i .i64 (l.getD k default).kind,.i .i64 (l.getD k default).n,.s (l.getD k default).text,.s (l.getD k default).sort,.sl ((l.getD k default).kids.flatMap aC) (l.getD k default).kids.length,.sl ((l.getD k default).rest.flatMap aC) (l.getD k default).rest.length])]) (news:=[.i .i64 (l.getD k default).kind,.i .i64 (l.getD k default).n,.s (l.getD k default).text,.s (l.getD k default).sort,.sl ((l.getD k default).kids.flatMap aC) (l.getD k default).kids.length,.sl ((l.getD k default).rest.flatMap aC) (l.getD k default).rest.length]) (m:=1) ((ho).more _) rfl (by simp -implicitDefEqProofs (disch:=omega) only [go_sem,↓reduceIte,reduceAdd,reduceSub,reduceMul,reduceLeDiff,reduceLT,reduceEqDiff,reduceNeg,Nat.reduceBEq]) bYp bXf bXh bYu rfl (by decide) (by simp -implicitDefEqProofs (disch:=omega) only [go_sem,↓reduceIte,reduceAdd,reduceSub,reduceMul,reduceLeDiff,reduceLT,reduceEqDiff,reduceNeg,Nat.reduceBEq]) (by simp -implicitDefEqProofs (disch:=omega) only [go_sem,↓reduceIte,reduceAdd,reduceSub,reduceMul,reduceLeDiff,reduceLT,reduceEqDiff,reduceNeg,Nat.reduceBEq]) ⟨by omega,by omega⟩ ?_
     intro out' g' ho' _
     refine zg ?_
     refine ⟨(k+1,out',g'),⟨by dsimp only; omega,?_⟩,by dsimp only; omega,rfl,by simp⟩
     dsimp only
     rw [aKp (by omega),bC]
     exact ho'
   · have h1:k=l.length:=by omega
     subst h1
     rw [jK] at ho
     exact bCz (bCh ho rfl)
theorem bAg (t:LTerm) (ihk:CT 78 [avt t.kids] (avt t.kids)) (ihr:CT 78 [avt t.rest] (avt t.rest)): CT 44 [elT t] (elT t):=by
 refine aL mixed Tryz.func44 g0 ?_
 · skip
   (refine zt2 ihk ihr ?_; repeat' first | exact trivial | refine zJ ?_ ?_ | refine zH fun hc=>?_)
   all_goals exact aF rfl (by simp only [pers,persL,iH,dY])
theorem bDz:∀ (t:LTerm),OkT t→CT 44 [elT t] (elT t):=
 dO fun t hk hr ht=>bAg t (aIz t.kids ht.kids fun x hx=>hk x hx (ht.kid x hx)) (aIz t.rest ht.rest fun x hx=>hr x hx (ht.rst x hx))
end Go.Proofs.YtifefbhllfdmlaaGreatDoor
