/-
  How terms are measured: plain laws; no condition beyond those that each theorem names.
-/
import Derived.Test.YtifefbhllfdmlaaGreatDoorTeP102
import Derived.Test.YtifefbhllfdmlaaGreatDoorSoP103
import Derived.Test.YtifefbhllfdmlaaGreatDoorTeP101
import Derived.Test.YtifefbhllfdmlaaGreatDoorVoP105
set_option maxRecDepth 100000
set_option linter.unusedSimpArgs false
set_option linter.unusedVariables false
set_option maxHeartbeats 4000000
namespace Go.Proofs.YtifefbhllfdmlaaGreatDoor
open Go Go.Vo
open Nat (reduceAdd reduceSub reduceMul reduceLeDiff reduceLT reduceEqDiff)
open Int (reduceNeg)

def kJ:Str:=[73,110,116]
def kT:Str:=[66,111,111,108]
def wP:Str:=[84,101,120,116]
def idS:Str:=[73,100]
def aKi (s:Str):List Str:=if s=[97,100,100] then [kJ,kJ] else if s=[115,117,98] then [kJ,kJ] else if s=[109,117,108] then [kJ,kJ] else if s=[100,105,118] then [kJ,kJ] else if s=[109,111,100] then [kJ,kJ] else if s=[108,116] then [kJ,kJ] else if s=[108,101] then [kJ,kJ] else if s=[103,116] then [kJ,kJ] else if s=[103,101] then [kJ,kJ] else if s=[110,101,103] then [kJ] else if s=[116,101,120,116] then [kJ] else if s=[101,113] then [oW,oW] else if s=[110,101] then [oW,oW] else if s=[97,110,100] then [kT,kT] else if s=[111,114] then [kT,kT] else if s=[110,111,116] then [kT] else if s=[112,105,99,107] then [kT,oW,oW] else if s=[99,97,116] then [wP,wP] else if s=[108,101,110,103,116,104] then [nC] else if s=[106,111,105,110] then [nC,nC] else if s=[103,101,116] then [C2,oW] else if s=[104,97,115] then [C2,oW] else if s=[100,101,108] then [C2,oW] else if s=[112,117,116] then [C2,oW,oW] else if s=[107,101,121,115] then [C2] else if s=[115,105,122,101] then [C2] else if s=[105,115] then [oW,wP] else [oW]
def wT (s:Str):Str:=if s=[97,100,100] then kJ else if s=[115,117,98] then kJ else if s=[109,117,108] then kJ else if s=[100,105,118] then kJ else if s=[109,111,100] then kJ else if s=[110,101,103] then kJ else if s=[108,101,110,103,116,104] then kJ else if s=[115,105,122,101] then kJ else if s=[99,97,116] then wP else if s=[116,101,120,116] then wP else if s=[106,111,105,110] then nC else if s=[107,101,121,115] then nC else if s=[112,117,116] then C2 else if s=[100,101,108] then C2 else if s=[112,105,99,107] then oW else if s=[103,101,116] then oW else kT
def E5 (s:Str):List Str × Str:=if s=[97,100,100] then ([kJ,kJ],kJ) else if s=[115,117,98] then ([kJ,kJ],kJ) else if s=[109,117,108] then ([kJ,kJ],kJ) else if s=[100,105,118] then ([kJ,kJ],kJ) else if s=[109,111,100] then ([kJ,kJ],kJ) else if s=[110,101,103] then ([kJ],kJ) else if s=[108,116] then ([kJ,kJ],kT) else if s=[108,101] then ([kJ,kJ],kT) else if s=[103,116] then ([kJ,kJ],kT) else if s=[103,101] then ([kJ,kJ],kT) else if s=[101,113] then ([oW,oW],kT) else if s=[110,101] then ([oW,oW],kT) else if s=[97,110,100] then ([kT,kT],kT) else if s=[111,114] then ([kT,kT],kT) else if s=[110,111,116] then ([kT],kT) else if s=[112,105,99,107] then ([kT,oW,oW],oW) else if s=[99,97,116] then ([wP,wP],wP) else if s=[108,101,110,103,116,104] then ([nC],kJ) else if s=[116,101,120,116] then ([kJ],wP) else if s=[106,111,105,110] then ([nC,nC],nC) else if s=[103,101,116] then ([C2,oW],oW) else if s=[112,117,116] then ([C2,oW,oW],C2) else if s=[104,97,115] then ([C2,oW],kT) else if s=[100,101,108] then ([C2,oW],C2) else if s=[107,101,121,115] then ([C2],nC) else if s=[115,105,122,101] then ([C2],kJ) else if s=[105,115] then ([oW,wP],kT) else ([oW],kT)
def strs:List AV→List Str
 | .s x::l=>x::strs l
 | _=>[]
theorem U1 {H:List AObj} {i:Nat} {fz t:Bool} {l:List Str} (h1:H[i]? = some (.arr fz 1 (l.map .s))):avs l=gB dep H (.hs i 0 l.length t):=by
 simp only [gO,pers,wR,h1,aP,if_false,dM,Nat.mul_one,dW,bA,if_true,cS]
 rw [aJ (by simp)]
 simp only [iA,if_true,avs]
theorem aGe {H:List AObj} {i n:Nat} {cells:List AV} {fz t:Bool} {l:List Str} (h1:H[i]? = some (.arr fz 1 cells)) (hl:l=strs cells) (hc:(strs cells).map .s=cells) (hn:n=(strs cells).length):Fin H (.hs i 0 n t) (avs l):=by
 rw [← hl] at hc hn
 rw [← hc] at h1
 subst hn
 exact .inr ⟨U1 h1,by simp [bY,avs],by simp [bY,avs]⟩
theorem Z4 {H:List AObj} {i n:Nat} {cells:List AV} {fz t:Bool} {l:List Str} {r r':Str} (h1:H[i]? = some (.arr fz 1 cells)) (hl:(l,r')=(strs cells,r)) (hc:(strs cells).map .s=cells) (hn:n=(strs cells).length):Fin H (.tup [.hs i 0 n t,.s r]) (.tup [avs l,.s r']):=by
 injection hl with hl hr
 rw [← hl] at hc hn
 rw [← hc] at h1
 subst hn hr
 exact .inr ⟨⟨U1 h1,rfl,trivial⟩,by simp [bY,finIdsL,avs],by simp [bY,finIdsL,avs]⟩
theorem bMm (s:Str): CT 253 [.s s] (avs (aKi s)):=by
 refine aE mixed Tryz.func253 g0 ?_
 · skip
   (refine zs0 ?_; repeat' first | exact trivial | refine zJ ?_ ?_ | refine zH fun hc=>?_)
   all_goals first
     | (subst hc; exact aGe rfl (by decide +kernel) rfl rfl)
     | (simp only [aKi, *,if_false]; exact aGe rfl rfl rfl rfl)
theorem bMl (s:Str): CT 254 [.s s] (.s (wT s)):=by
 refine aE mixed Tryz.func254 g0 ?_
 · skip
   (refine zs0 ?_; repeat' first | exact trivial | refine zJ ?_ ?_ | refine zH fun hc=>?_)
   all_goals first
     | (subst hc; exact aG (congrArg AV.s (by decide +kernel)) rfl)
     | (simp only [wT, *,if_false]; exact aG rfl rfl)
theorem bMq (s:Str): CT 255 [.s s] (.tup [avs (E5 s).1,.s (E5 s).2]):=by
 refine aE mixed Tryz.func255 g0 ?_
 · skip
   (refine zs0 ?_; repeat' first | exact trivial | refine zJ ?_ ?_ | refine zH fun hc=>?_)
   all_goals first
     | (subst hc; exact Z4 rfl (by decide +kernel) rfl rfl)
     | (simp only [E5, *,if_false]; exact Z4 rfl rfl rfl rfl)
def sC (x:Str):Option LOp:=if iF.contains x then some ⟨x,aKi x,wT x,[],0,0,[]⟩ else none
theorem sQ {H:List AObj} {o o':LOp} {a b a' b':Bool} (h:(o',a',b')=(o,a,b)):Fin H (.tup [.agg [.s o.name,.sl (o.args.map .s) o.args.length,.s o.sort,.sl (o.pieces.flatMap aQ) o.pieces.length,.i .i64 o.prec,.i .i64 o.assoc,.sl (o.strict.map (.i .i64)) o.strict.length],.b a,.b b]) (.tup [.agg [.s o'.name,.sl (o'.args.map .s) o'.args.length,.s o'.sort,.sl (o'.pieces.flatMap aQ) o'.pieces.length,.i .i64 o'.prec,.i .i64 o'.assoc,.sl (o'.strict.map (.i .i64)) o'.strict.length],.b a',.b b']):=by
 injection h with h1 h2; injection h2 with h2 h3
 subst h1 h2 h3
 exact aG rfl (by simp only [pers,persL,iA,gV,iT,dY])
theorem aPr {H:List AObj} {x r:Str} {l:List Str}:Fin H (.tup [.agg [.s x,.sl (l.map .s) l.length,.s r,.e0,.i .i64 0,.i .i64 0,.e0],.b true]) (.tup [elO ⟨x,l,r,[],0,0,[]⟩,.b true]):=
 .inr ⟨⟨⟨rfl,by show _=gB dep H _; simp only [gO,pers,iA,if_true]; rfl,rfl,rfl,rfl,rfl,rfl,trivial⟩,rfl,trivial⟩,by simp [elO,aI,bY,finIdsL,avs,avb,avi],by simp [elO,aI,bY,finIdsL,avs,avb,avi]⟩
theorem bMr (x:Str): CT 226 [.s x] (rF (sC x)):=by
 refine aE mixed Tryz.func226 g0 ?_
 · skip
   (refine zt3 (bFs x) (bMm x) (bMl x) ?_; repeat' first | exact trivial | refine zJ ?_ ?_ | refine zH fun hc=>?_)
   · rw [sC,if_neg (by rw [hc]; simp)]
     exact Z2
   · rw [sC,if_pos hc]
     exact aPr
def called (s:cI) (x:Str):LOp × Bool × Bool:=match N2 s x with
 | some o=>(o,false,true)
 | none=>match C8 s x with
   | some o=>(o,true,true)
   | none=>match sC x with
     | some o=>(o,true,true)
     | none=>(default,true,false)
theorem aQm (s:cI) (x:Str): CT 185 [dD s,.s x] (.tup [elO (called s x).1,.b (called s x).2.1,.b (called s x).2.2]):=by
 refine aE mixed Tryz.func185 g0 ?_
 · skip
   have c1:=bKq s x
   have c2:=bSu s x
   have c3:=bMr x
   cases h1:N2 s x with
   | some o=>
     rw [h1] at c1
     (repeat' (first | refine gT ?_ ?_ | refine gF ?_ ?_ | refine gC ?_ ?_ | ((refine aY (c1) ?_ ?_; (focus (simp -implicitDefEqProofs (disch:=omega) only [rF,zdB,go_sem,simprocAttr]; done))); simp -implicitDefEqProofs (disch:=omega) only [rF,go_sem,simprocAttr]) | refine aK (by omega) ?_ | (intro hr; have hc:=hr; (try simp only [zdz] at hc); simp -implicitDefEqProofs (disch:=omega) only [hr,rF,go_sem,simprocAttr]; (try clear hr))))
     exact sQ (by simp only [called,h1])
   | none=>
   rw [h1] at c1
   cases h2:C8 s x with
   | some o=>
     rw [h2] at c2
     (repeat' (first | refine gT ?_ ?_ | refine gF ?_ ?_ | refine gC ?_ ?_ | ((first | (refine aY (c1) ?_ ?_; (focus (simp -implicitDefEqProofs (disch:=omega) only [rF,zdB,go_sem,simprocAttr]; done))) | (refine aY (c2) ?_ ?_; (focus (simp -implicitDefEqProofs (disch:=omega) only [rF,zdB,go_sem,simprocAttr]; done)))); simp -implicitDefEqProofs (disch:=omega) only [rF,go_sem,simprocAttr]) | refine aK (by omega) ?_ | (intro hr; have hc:=hr; (try simp only [zdz] at hc); simp -implicitDefEqProofs (disch:=omega) only [hr,rF,go_sem,simprocAttr]; (try clear hr))))
     exact sQ (by simp only [called,h1,h2])
   | none=>
   rw [h2] at c2
   cases h3:sC x with
   | some o=>
     rw [h3] at c3
     (repeat' (first | refine gT ?_ ?_ | refine gF ?_ ?_ | refine gC ?_ ?_ | ((first | (refine aY (c1) ?_ ?_; (focus (simp -implicitDefEqProofs (disch:=omega) only [rF,zdB,go_sem,simprocAttr]; done))) | (refine aY (c2) ?_ ?_; (focus (simp -implicitDefEqProofs (disch:=omega) only [rF,zdB,go_sem,simprocAttr]; done))) | (refine aY (c3) ?_ ?_; (focus (simp -implicitDefEqProofs (disch:=omega) only [rF,zdB,go_sem,simprocAttr]; done)))); simp -implicitDefEqProofs (disch:=omega) only [rF,go_sem,simprocAttr]) | refine aK (by omega) ?_ | (intro hr; have hc:=hr; (try simp only [zdz] at hc); simp -implicitDefEqProofs (disch:=omega) only [hr,rF,go_sem,simprocAttr]; (try clear hr))))
     exact sQ (by simp only [called,h1,h2,h3])
   | none=>
     rw [h3] at c3
     (repeat' (first | refine gT ?_ ?_ | refine gF ?_ ?_ | refine gC ?_ ?_ | ((first | (refine aY (c1) ?_ ?_; (focus (simp -implicitDefEqProofs (disch:=omega) only [rF,zdB,go_sem,simprocAttr]; done))) | (refine aY (c2) ?_ ?_; (focus (simp -implicitDefEqProofs (disch:=omega) only [rF,zdB,go_sem,simprocAttr]; done))) | (refine aY (c3) ?_ ?_; (focus (simp -implicitDefEqProofs (disch:=omega) only [rF,zdB,go_sem,simprocAttr]; done)))); simp -implicitDefEqProofs (disch:=omega) only [rF,go_sem,simprocAttr]) | refine aK (by omega) ?_ | (intro hr; have hc:=hr; (try simp only [zdz] at hc); simp -implicitDefEqProofs (disch:=omega) only [hr,rF,go_sem,simprocAttr]; (try clear hr))))
     exact sQ (by simp only [called,h1,h2,h3])
def iL (s:cI) (t:LTerm):Str:=if t.kind=1 then kJ else if t.kind=2 then kT else if t.kind=3 then wP else if t.kind=4 then idS else if t.kind=7 then nC else if t.kind=8 then C2 else if t.kind=5 then (called s t.text).1.sort else if existsA s t.sort then t.sort else []
theorem aQo (s:cI) (t:LTerm): CT 159 [dD s,elT t] (.s (iL s t)):=by
 refine aE mixed Tryz.func159 g0 ?_
 · skip
   (refine zt2 (aQm s t.text) (O8 s t.sort) ?_; repeat' first | exact trivial | refine zJ ?_ ?_ | refine zH fun hc=>?_)
   all_goals refine aG (congrArg AV.s ?_) rfl
   all_goals simp only [iL, *,if_true,if_false,aP,Int.reduceEq]
   all_goals rfl
def argsR2 (s:cI) (x:Str):List Str × Str × Bool:=match N2 s x with
 | some o=>(o.args,o.sort,true)
 | none=>match C8 s x with
   | some o=>(o.args,o.sort,true)
   | none=>if iF.contains x then ((E5 x).1,(E5 x).2,true) else ([],[],false)
theorem D1 {H:List AObj} {l l':List Str} {r r':Str} {b b':Bool} (h:(l',r',b')=(l,r,b)):Fin H (.tup [.sl (l.map .s) l.length,.s r,.b b]) (.tup [.sl (l'.map .s) l'.length,.s r',.b b']):=by
 injection h with h1 h2; injection h2 with h2 h3
 subst h1 h2 h3
 exact aG rfl (by simp only [pers,persL,iA,dY])
theorem aPt {H:List AObj} {l':List Str} {r r':Str} {b b':Bool} (h:(l',r',b')=([],r,b)):Fin H (.tup [.e0,.s r,.b b]) (.tup [.sl (l'.map .s) l'.length,.s r',.b b']):=by
 injection h with h1 h2; injection h2 with h2 h3
 subst h1 h2 h3
 exact .inr ⟨⟨rfl,rfl,rfl,trivial⟩,by simp [bY,finIdsL],by simp [bY,finIdsL]⟩
theorem bAp (s:cI) (x:Str) (hs:OkS s): CT 228 [.agg (bB s),.s x] (.tup [avs (argsR2 s x).1,.s (argsR2 s x).2.1,.b (argsR2 s x).2.2]):=by
 refine aE mixed Tryz.func228 g0 ?_
 · skip
   have c1:Ctr _ _ _ _ (gR (N2 s x)):=aGt s.ops x hs.ops
   have c2:Ctr _ _ _ _ (gR (C8 s x)):=aGt s.funs x hs.funs
   cases h1:N2 s x with
   | some o=>
     rw [h1] at c1
     (repeat' (first | refine gT ?_ ?_ | refine gF ?_ ?_ | refine gC ?_ ?_ | ((refine aY (c1) ?_ ?_; (focus (simp -implicitDefEqProofs (disch:=omega) only [gR,zdB,go_sem,simprocAttr]; done))); simp -implicitDefEqProofs (disch:=omega) only [gR,go_sem,simprocAttr]) | refine aK (by omega) ?_ | (intro hr; have hc:=hr; (try simp only [zdz] at hc); simp -implicitDefEqProofs (disch:=omega) only [hr,gR,go_sem,simprocAttr]; (try clear hr))))
     exact D1 (by simp only [argsR2,h1])
   | none=>
   rw [h1] at c1
   cases h2:C8 s x with
   | some o=>
     rw [h2] at c2
     (repeat' (first | refine gT ?_ ?_ | refine gF ?_ ?_ | refine gC ?_ ?_ | ((first | (refine aY (c1) ?_ ?_; (focus (simp -implicitDefEqProofs (disch:=omega) only [gR,zdB,go_sem,simprocAttr]; done))) | (refine aY (c2) ?_ ?_; (focus (simp -implicitDefEqProofs (disch:=omega) only [gR,zdB,go_sem,simprocAttr]; done)))); simp -implicitDefEqProofs (disch:=omega) only [gR,go_sem,simprocAttr]) | refine aK (by omega) ?_ | (intro hr; have hc:=hr; (try simp only [zdz] at hc); simp -implicitDefEqProofs (disch:=omega) only [hr,gR,go_sem,simprocAttr]; (try clear hr))))
     exact D1 (by simp only [argsR2,h1,h2])
   | none=>
     rw [h2] at c2
     (repeat' (first | refine gT ?_ ?_ | refine gF ?_ ?_ | refine gC ?_ ?_ | ((first | (refine aY (c1) ?_ ?_; (focus (simp -implicitDefEqProofs (disch:=omega) only [gR,zdB,go_sem,simprocAttr]; done))) | (refine aY (c2) ?_ ?_; (focus (simp -implicitDefEqProofs (disch:=omega) only [gR,zdB,go_sem,simprocAttr]; done))) | (refine aY (bFr x) ?_ ?_; (focus (simp -implicitDefEqProofs (disch:=omega) only [gR,zdB,go_sem,simprocAttr]; done))) | (refine aY (bMq x) ?_ ?_; (focus (simp -implicitDefEqProofs (disch:=omega) only [gR,zdB,go_sem,simprocAttr]; done)))); simp -implicitDefEqProofs (disch:=omega) only [gR,go_sem,simprocAttr]) | refine aK (by omega) ?_ | (intro hr; have hc:=hr; (try simp only [zdz] at hc); simp -implicitDefEqProofs (disch:=omega) only [hr,gR,go_sem,simprocAttr]; (try clear hr))))
     · exact aPt (by simp only [argsR2,h1,h2,hc,aP,if_false])
     · exact D1 (by simp only [argsR2,h1,h2,hc,if_true])
def ofR (s:cI) (t:LTerm):Str × Bool:=if t.kind=1 then (kJ,true) else if t.kind=2 then (kT,true) else if t.kind=3 then (wP,true) else if t.kind=4 then (idS,true) else if t.kind=7 then (nC,true) else if t.kind=8 then (C2,true) else if t.kind=6 then (t.sort,iN s t.sort) else ((argsR2 s t.text).2.1,(argsR2 s t.text).2.2)
theorem aGq (s:cI) (t:LTerm) (hs:OkS s): CT 215 [.agg (bB s),elT t] (.tup [.s (ofR s t).1,.b (ofR s t).2]):=by
 refine aE mixed Tryz.func215 g0 ?_
 · skip
   (refine zt4 (bAp s t.text hs) bFm (yK oT t.sort (by decide)) (yK s.sorts t.sort hs.sorts) ?_; repeat' first | exact trivial | refine zJ ?_ ?_ | refine zH fun hc=>?_)
   all_goals refine aG ?_ rfl
   all_goals simp only [ofR,iN, *,if_true,if_false,dF,cO,Int.reduceEq]
   all_goals rfl
theorem gM (b:Bool):b=true∨b=false:=by cases b <;> simp

theorem aGr (l m:List LTerm) (hl:l.length≤1466015503701) (hm:m.length≤1466015503701) (ih:∀ a ∈ l,∀ b ∈ m,CT 74 [elT a,elT b] (.b (decide (a=b)))): CT 33 [avt l,avt m] (.b (decide (l=m))):=by
 refine cQ mixed Tryz.func33 g0 ?_
 · simp -implicitDefEqProofs (disch:=omega) only [Tryz.f33,go_sem,List.replicate,simprocAttr,avt]
   (refine zs0 ?_; repeat' first | exact trivial | refine zJ ?_ ?_ | refine zH fun hc=>?_)
   · refine aG ?_ (by rfl)
     have:l ≠ m:=fun h=>by rw [h] at hc; exact hc rfl
     rw [zf this]
   refine bQ (fun (k:Nat)=>[.k,.k,.k,.k,.j,.j,.k,.k,.k,.k,.k,.k,.k,.v (.i .i64 k),.j,.j,.j,.j,.j,.j,.j,.j,.j,.j,.j,.j,.j]) (fun k=>[]) (fun k=>k≤l.length∧∀ j,j < k→l.getD j default=m.getD j default) (fun k=>l.length - k) (0) ⟨aF _,fun j h=>by omega⟩ rfl (by simp [fD]) ?_
   rintro k j ⟨hk,ha⟩
   have o:k < l.length→k < m.length→CT 74 [elT (l.getD k default),elT (m.getD k default)] (.b (decide (l.getD k default=m.getD k default))):=fun h h'=>ih _ (bE h) _ (bE h')
   refine zg ?_
   (refine zt1 o ?_; repeat' first | exact trivial | refine zJ ?_ ?_ | refine zH fun hc=>?_)
   · refine aG ?_ (by rfl)
     have:l ≠ m:=fun h=>by simp [h] at *
     rw [zf this]
   · exact ⟨k+1,⟨by omega,bK ha (by simpa using hc)⟩,by omega,by simp⟩
   · refine aG ?_ (by rfl)
     have:l=m:=aPx (d:=default) (by omega) (fun j hj=>ha j (by omega))
     rw [zt this]
theorem aGm (l m:List LTerm) (hl:l.length≤1466015503701) (hm:m.length≤1466015503701) (ih:∀ a ∈ l,∀ b ∈ m,CT 154 [elT a,elT b] (.b (decide (a=b)))): CT 200 [avt l,avt m,.fn 154 [] []] (.b (decide (l=m))):=by
 refine cQ mixed Tryz.func200 g0 ?_
 · simp -implicitDefEqProofs (disch:=omega) only [Tryz.f200,go_sem,List.replicate,simprocAttr,avt]
   (refine zs0 ?_; repeat' first | exact trivial | refine zJ ?_ ?_ | refine zH fun hc=>?_)
   · refine aG ?_ (by rfl)
     have:l ≠ m:=fun h=>by rw [h] at hc; exact hc rfl
     rw [zf this]
   refine fJ (fun (k:Nat)=>[.k,.k,.k,.k,.k,.k,.j,.j,.j,.j,.k,.k,.k,.k,.k,.k,.k,.v (.i .i64 k),.j,.j,.j,.j,.j,.j,.j,.j,.j,.j,.j,.j,.j,.j]) (fun k=>[]) (fun k=>k≤l.length∧∀ j,j < k→l.getD j default=m.getD j default) (fun k=>l.length - k) (0) _ ⟨aF _,fun j h=>by omega⟩ rfl (by simp [fD]) ?_
   rintro k g j ⟨hk,ha⟩
   have o:k < l.length→k < m.length→CT 154 [elT (l.getD k default),elT (m.getD k default)] (.b (decide (l.getD k default=m.getD k default))):=fun h h'=>ih _ (bE h) _ (bE h')
   refine zg ?_
   (refine zt1 o ?_; repeat' first | exact trivial | refine zJ ?_ ?_ | refine zH fun hc=>?_)
   · refine aG ?_ (by rfl)
     have:l ≠ m:=fun h=>by simp [h] at *
     rw [zf this]
   · exact ⟨k+1,_,⟨by omega,bK ha (by simpa using hc)⟩,by omega,rfl,by simp⟩
   · refine aG ?_ (by rfl)
     have:l=m:=aPx (d:=default) (by omega) (fun j hj=>ha j (by omega))
     rw [zt this]
def aTn (a b:LTerm):Bool:=decide (a.kind=b.kind) && decide (a.n=b.n) && decide (a.text=b.text) && decide (a.sort=b.sort) && decide (a.kids=b.kids) && decide (a.rest=b.rest)
theorem aEj (a b:LTerm):aTn a b=decide (a=b):=by
 rw [cT]; simp only [aTn,aC,decide_eq_true_eq,LTerm.ext_iff,and_assoc]
theorem aXk (a b:LTerm) (ha:OkT a) (hb:OkT b) (ihk:∀ x ∈ a.kids,∀ y ∈ b.kids,CT 74 [elT x,elT y] (.b (decide (x=y)))) (ihr:∀ x ∈ a.rest,∀ y ∈ b.rest,CT 74 [elT x,elT y] (.b (decide (x=y)))): CT 74 [elT a,elT b] (.b (decide (a=b))):=by
 refine aE mixed Tryz.func74 g0 ?_
 · skip
   have h1:=ha.kids
   have h2:=ha.rest
   have h3:=hb.kids
   have h4:=hb.rest
   rw [← aEj]
   (refine zt2 (aGr a.kids b.kids h1 h3 ihk) (aGr a.rest b.rest h2 h4 ihr) ?_; repeat' first | exact trivial | refine zJ ?_ ?_ | refine zH fun hc=>?_)
   all_goals refine aG ?_ rfl
   all_goals simp only [aTn, *,decide_true,decide_false,Bool.true_and,Bool.false_and,Bool.and_true,Bool.and_false]
theorem aGs (a:LTerm):∀ (b:LTerm),OkT a→OkT b→CT 74 [elT a,elT b] (.b (decide (a=b))):=
 dK (Q:=fun a=>∀ (b:LTerm),OkT a→OkT b→CT 74 [elT a,elT b] (.b (decide (a=b)))) (fun a hk hr b ha hb=>aXk a b ha hb (fun x hx y hy=>hk x hx y (ha.kid x hx) (hb.kid y hy)) (fun x hx y hy=>hr x hx y (ha.rst x hx) (hb.rst y hy))) a
theorem aXf (a b:LTerm) (ha:OkT a) (hb:OkT b) (ihk:∀ x ∈ a.kids,∀ y ∈ b.kids,CT 154 [elT x,elT y] (.b (decide (x=y)))) (ihr:∀ x ∈ a.rest,∀ y ∈ b.rest,CT 154 [elT x,elT y] (.b (decide (x=y)))): CT 154 [elT a,elT b] (.b (decide (a=b))):=by
 refine aE mixed Tryz.func154 g0 ?_
 · skip
   have h1:=ha.kids
   have h2:=ha.rest
   have h3:=hb.kids
   have h4:=hb.rest
   rw [← aEj]
   (refine zt2 (aGm a.kids b.kids h1 h3 ihk) (aGm a.rest b.rest h2 h4 ihr) ?_; repeat' first | exact trivial | refine zJ ?_ ?_ | refine zH fun hc=>?_)
   all_goals refine aG ?_ rfl
   all_goals simp only [aTn, *,decide_true,decide_false,Bool.true_and,Bool.false_and,Bool.and_true,Bool.and_false]
theorem bAo (a:LTerm):∀ (b:LTerm),OkT a→OkT b→CT 154 [elT a,elT b] (.b (decide (a=b))):=
 dK (Q:=fun a=>∀ (b:LTerm),OkT a→OkT b→CT 154 [elT a,elT b] (.b (decide (a=b)))) (fun a hk hr b ha hb=>aXf a b ha hb (fun x hx y hy=>hk x hx y (ha.kid x hx) (hb.kid y hy)) (fun x hx y hy=>hr x hx y (ha.rst x hx) (hb.rst y hy))) a

mutual
def G3:LTerm→LTerm→Int
 | .mk k n t s ks rs,.mk k' n' t' s' ks' rs'=>
   if qR k k'=0 then (if qR n n'=0 then (if rI t t'=0 then (if rI s s'=0 then (if ordPL ks ks'=0 then ordPL rs rs' else ordPL ks ks') else rI s s') else rI t t') else qR n n') else qR k k'
def ordPL:List LTerm→List LTerm→Int
 | [],[]=>0
 | [],_::_ => -1
 | _::_,[]=>1
 | a::l,b::m=>if G3 a b=0 then ordPL l m else G3 a b
end
mutual
def G6:LTerm→LTerm→Int
 | .mk k n t s ks rs,.mk k' n' t' s' ks' rs'=>
   if qR k k'=0 then (if k=1∨k=2 then qR n n' else if k=3∨k=4 then rI t t' else if k=6 then (if rI t t'=0 then rI s s' else rI t t') else if k=5 then (if rI t t'=0 then ordRL ks ks' else rI t t') else (if ordRL ks ks'=0 then ordRL rs rs' else ordRL ks ks')) else qR k k'
def ordRL:List LTerm→List LTerm→Int
 | [],[]=>0
 | [],_::_ => -1
 | _::_,[]=>1
 | a::l,b::m=>if G6 a b=0 then ordRL l m else G6 a b
end
theorem aBx (a b:LTerm):G3 a b=if qR a.kind b.kind=0 then (if qR a.n b.n=0 then (if rI a.text b.text=0 then (if rI a.sort b.sort=0 then (if ordPL a.kids b.kids=0 then ordPL a.rest b.rest else ordPL a.kids b.kids) else rI a.sort b.sort) else rI a.text b.text) else qR a.n b.n) else qR a.kind b.kind:=by
 cases a; cases b; rw [G3]; rfl
theorem aNm (a b:LTerm):G6 a b=if qR a.kind b.kind=0 then (if a.kind=1∨a.kind=2 then qR a.n b.n else if a.kind=3∨a.kind=4 then rI a.text b.text else if a.kind=6 then (if rI a.text b.text=0 then rI a.sort b.sort else rI a.text b.text) else if a.kind=5 then (if rI a.text b.text=0 then ordRL a.kids b.kids else rI a.text b.text) else (if ordRL a.kids b.kids=0 then ordRL a.rest b.rest else ordRL a.kids b.kids)) else qR a.kind b.kind:=by
 cases a; cases b; rw [G6]; rfl
theorem aDb {a b:Int} (h:a < b):qR a b = -1:=if_pos h
theorem aDc {a b:Int} (h:b < a):qR a b=1:=by rw [qR,if_neg (by omega),if_pos h]
theorem P2 {a b:Int} (h:a=b):qR a b=0:=by rw [qR,if_neg (by omega),if_neg (by omega)]
theorem aEw {l m:List LTerm} {k:Nat} (h:k < l.length) (h':k < m.length):ordPL (l.drop k) (m.drop k)=if G3 (l.getD k default) (m.getD k default)=0 then ordPL (l.drop (k+1)) (m.drop (k+1)) else G3 (l.getD k default) (m.getD k default):=by
 rw [bR h,bR h',ordPL]; simp [List.getD,h,h']
theorem B5 {l m:List LTerm} {k:Nat} (h:k=l.length∨k=m.length) (h1:k≤l.length) (h2:k≤m.length):ordPL (l.drop k) (m.drop k)=qR l.length m.length:=by
 by_cases h3:k < l.length
 · rw [bR h3,bJ (l:=m) (by omega),ordPL,aDc (by omega)]
 · by_cases h4:k < m.length
   · rw [bR h4,bJ (l:=l) (by omega),ordPL,aDb (by omega)]
   · rw [bJ (l:=l) (by omega),bJ (l:=m) (by omega),ordPL,P2 (by omega)]
theorem aEv {l m:List LTerm} {k:Nat} (h:k < l.length) (h':k < m.length):ordRL (l.drop k) (m.drop k)=if G6 (l.getD k default) (m.getD k default)=0 then ordRL (l.drop (k+1)) (m.drop (k+1)) else G6 (l.getD k default) (m.getD k default):=by
 rw [bR h,bR h',ordRL]; simp [List.getD,h,h']
theorem W4 {l m:List LTerm} {k:Nat} (h:k=l.length∨k=m.length) (h1:k≤l.length) (h2:k≤m.length):ordRL (l.drop k) (m.drop k)=qR l.length m.length:=by
 by_cases h3:k < l.length
 · rw [bR h3,bJ (l:=m) (by omega),ordRL,aDc (by omega)]
 · by_cases h4:k < m.length
   · rw [bR h4,bJ (l:=l) (by omega),ordRL,aDb (by omega)]
   · rw [bJ (l:=l) (by omega),bJ (l:=m) (by omega),ordRL,P2 (by omega)]
theorem aGn (l m:List LTerm) (hl:l.length≤1466015503701) (hm:m.length≤1466015503701) (ih:∀ a ∈ l,∀ b ∈ m,CT 160 [elT a,elT b] (.i .i64 (G3 a b))): CT 206 [avt l,avt m,.fn 160 [] []] (.i .i64 (ordPL l m)):=by
 refine cQ mixed Tryz.func206 g0 ?_
 · simp -implicitDefEqProofs (disch:=omega) only [Tryz.f206,go_sem,List.replicate,simprocAttr,avt]
   refine fJ (fun (k:Nat)=>[.k,.k,.k,.k,.k,.k,.j,.j,.j,.j,.j,.k,.k,.v (.i .i64 k),.j,.j,.j,.j,.j,.j,.j,.j,.j,.j,.j,.j,.j,.j,.j,.j,.j,.j,.j,.j,.k,.k,.k,.k,.k]) (fun k=>[]) (fun k=>k≤l.length∧k≤m.length∧ordPL l m=ordPL (l.drop k) (m.drop k)) (fun k=>l.length - k) (0) _ ⟨aF _,aF _,rfl⟩ rfl (by simp [fD]) ?_
   rintro k g j ⟨hk,hk2,he⟩
   have o:k < l.length→k < m.length→CT 160 [elT (l.getD k default),elT (m.getD k default)] (.i .i64 (G3 (l.getD k default) (m.getD k default))):=fun h h'=>ih _ (bE h) _ (bE h')
   refine zg ?_
   (refine zt1 o ?_; repeat' first | exact trivial | refine zJ ?_ ?_ | refine zH fun hc=>?_)
   · exact aG (congrArg _ (by rw [he,B5 (.inr (by omega)) hk hk2,aDc (by omega)])) rfl
   · exact aG (congrArg _ (by rw [he,aEw (by omega) (by omega),if_neg hc])) rfl
   · exact ⟨k+1,_,⟨by omega,by omega,by rw [he,aEw (by omega) (by omega),if_pos hc]⟩,by omega,rfl,by simp⟩
   · exact aG (congrArg _ (by rw [he,B5 (.inl (by omega)) hk hk2,aDb (by omega)])) rfl
   · exact aG (congrArg _ (by rw [he,B5 (.inl (by omega)) hk hk2,P2 (by omega)])) rfl
theorem aGl (l m:List LTerm) (hl:l.length≤1466015503701) (hm:m.length≤1466015503701) (ih:∀ a ∈ l,∀ b ∈ m,CT 217 [elT a,elT b] (.i .i64 (G6 a b))): CT 243 [avt l,avt m] (.i .i64 (ordRL l m)):=by
 refine cQ mixed Tryz.func243 g0 ?_
 · simp -implicitDefEqProofs (disch:=omega) only [Tryz.f243,go_sem,List.replicate,simprocAttr,avt]
   refine bQ (fun (k:Nat)=>[.k,.k,.k,.k,.j,.v (.i .i64 k),.j,.j,.j,.j,.j,.j,.j,.j,.j,.j,.j,.j,.j,.j,.j,.j,.j,.j,.j,.j,.j,.j,.j,.j,.j,.k,.k,.k,.k,.k]) (fun k=>[]) (fun k=>k≤l.length∧k≤m.length∧ordRL l m=ordRL (l.drop k) (m.drop k)) (fun k=>l.length - k) (0) ⟨aF _,aF _,rfl⟩ rfl (by simp [fD]) ?_
   rintro k j ⟨hk,hk2,he⟩
   have o:k < l.length→k < m.length→CT 217 [elT (l.getD k default),elT (m.getD k default)] (.i .i64 (G6 (l.getD k default) (m.getD k default))):=fun h h'=>ih _ (bE h) _ (bE h')
   refine zg ?_
   (refine zt2 o (aQk l.length m.length) ?_; repeat' first | exact trivial | refine zJ ?_ ?_ | refine zH fun hc=>?_)
   · exact aG (congrArg _ (by rw [he,aEv (by omega) (by omega),if_neg hc])) rfl
   · exact ⟨k+1,⟨by omega,by omega,by rw [he,aEv (by omega) (by omega),if_pos hc]⟩,by omega,by simp⟩
   · exact aG (congrArg _ (by rw [he,W4 (.inr (by omega)) hk hk2])) rfl
   · exact aG (congrArg _ (by rw [he,W4 (.inl (by omega)) hk hk2])) rfl
theorem aZe (a b:LTerm):(if orI [qR a.kind b.kind,qR a.n b.n,rI a.text b.text,rI a.sort b.sort]=0 then orI [ordPL a.kids b.kids,ordPL a.rest b.rest] else orI [qR a.kind b.kind,qR a.n b.n,rI a.text b.text,rI a.sort b.sort])=G3 a b:=by
 rw [aBx]
 by_cases h1:qR a.kind b.kind=0 <;> by_cases h2:qR a.n b.n=0 <;> by_cases h3:rI a.text b.text=0 <;> by_cases h4:rI a.sort b.sort=0 <;> by_cases h5:ordPL a.kids b.kids=0 <;> by_cases h6:ordPL a.rest b.rest=0 <;> simp only [orI,h1,h2,h3,h4,h5,h6,if_true,if_false]
theorem aXg (a b:LTerm) (ha:OkT a) (hb:OkT b) (ihk:∀ x ∈ a.kids,∀ y ∈ b.kids,CT 160 [elT x,elT y] (.i .i64 (G3 x y))) (ihr:∀ x ∈ a.rest,∀ y ∈ b.rest,CT 160 [elT x,elT y] (.i .i64 (G3 x y))): CT 160 [elT a,elT b] (.i .i64 (G3 a b)):=by
 refine aE mixed Tryz.func160 g0 ?_
 · skip
   have e:=aBx a b
   (repeat' (first | refine gT ?_ ?_ | refine gF ?_ ?_ | refine gC ?_ ?_ | ((first | refine cF (bMf a.kind b.kind) ?_ | refine cF (bMe a.n b.n) ?_ | (refine aY (bAm a.text b.text) ?_ ?_; (focus (simp -implicitDefEqProofs (disch:=omega) only [aZ,bO,aL,bG,Nat.reduceAdd,zdB,go_sem,simprocAttr]; done))) | (refine aY (bAm a.sort b.sort) ?_ ?_; (focus (simp -implicitDefEqProofs (disch:=omega) only [aZ,bO,aL,bG,Nat.reduceAdd,zdB,go_sem,simprocAttr]; done))) | (refine aY (bAn [qR a.kind b.kind,qR a.n b.n,rI a.text b.text,rI a.sort b.sort] (by simp)) ?_ ?_; (focus (simp -implicitDefEqProofs (disch:=omega) only [aZ,bO,aL,bG,Nat.reduceAdd,zdB,go_sem,simprocAttr]; done))) | (refine aY (aGn a.kids b.kids ha.kids hb.kids ihk) ?_ ?_; (focus (simp -implicitDefEqProofs (disch:=omega) only [aZ,bO,aL,bG,Nat.reduceAdd,zdB,go_sem,simprocAttr]; done))) | (refine aY (aGn a.rest b.rest ha.rest hb.rest ihr) ?_ ?_; (focus (simp -implicitDefEqProofs (disch:=omega) only [aZ,bO,aL,bG,Nat.reduceAdd,zdB,go_sem,simprocAttr]; done))) | (refine aY (bAn [ordPL a.kids b.kids,ordPL a.rest b.rest] (by simp)) ?_ ?_; (focus (simp -implicitDefEqProofs (disch:=omega) only [aZ,bO,aL,bG,Nat.reduceAdd,zdB,go_sem,simprocAttr]; done)))); simp -implicitDefEqProofs (disch:=omega) only [aZ,bO,aL,bG,Nat.reduceAdd,go_sem,simprocAttr]) | refine aK (by omega) ?_ | (intro hr; have hc:=hr; (try simp only [zdz] at hc); simp -implicitDefEqProofs (disch:=omega) only [hr,aZ,bO,aL,bG,Nat.reduceAdd,go_sem,simprocAttr]; (try clear hr))))
   all_goals refine aG (congrArg _ ?_) rfl
   · rw [← aZe a b,if_neg hc]
   · rw [← aZe a b,if_pos hc]
theorem aXe (a b:LTerm) (ha:OkT a) (hb:OkT b) (ihk:∀ x ∈ a.kids,∀ y ∈ b.kids,CT 217 [elT x,elT y] (.i .i64 (G6 x y))) (ihr:∀ x ∈ a.rest,∀ y ∈ b.rest,CT 217 [elT x,elT y] (.i .i64 (G6 x y))): CT 217 [elT a,elT b] (.i .i64 (G6 a b)):=by
 refine aE mixed Tryz.func217 g0 ?_
 · skip
   have e:=aNm a b
   (repeat' (first | refine gT ?_ ?_ | refine gF ?_ ?_ | refine gC ?_ ?_ | ((first | (refine aY (aQk a.kind b.kind) ?_ ?_; (focus (simp -implicitDefEqProofs (disch:=omega) only [zdB,go_sem,simprocAttr]; done))) | (refine aY (aQk a.n b.n) ?_ ?_; (focus (simp -implicitDefEqProofs (disch:=omega) only [zdB,go_sem,simprocAttr]; done))) | (refine aY (bAk a.text b.text) ?_ ?_; (focus (simp -implicitDefEqProofs (disch:=omega) only [zdB,go_sem,simprocAttr]; done))) | (refine aY (bAk a.sort b.sort) ?_ ?_; (focus (simp -implicitDefEqProofs (disch:=omega) only [zdB,go_sem,simprocAttr]; done))) | (refine aY (aGl a.kids b.kids ha.kids hb.kids ihk) ?_ ?_; (focus (simp -implicitDefEqProofs (disch:=omega) only [zdB,go_sem,simprocAttr]; done))) | (refine aY (aGl a.rest b.rest ha.rest hb.rest ihr) ?_ ?_; (focus (simp -implicitDefEqProofs (disch:=omega) only [zdB,go_sem,simprocAttr]; done)))); simp -implicitDefEqProofs (disch:=omega) only [go_sem,simprocAttr]) | refine aK (by omega) ?_ | (intro hr; have hc:=hr; (try simp only [zdz] at hc); simp -implicitDefEqProofs (disch:=omega) only [hr,go_sem,simprocAttr]; (try clear hr))))
   all_goals refine aG (congrArg _ ?_) rfl
   all_goals rw [e]
   all_goals (first | rw [if_pos (by assumption)] | rw [if_neg (by assumption)])
   all_goals simp only [*,if_true,if_false,Int.reduceEq,or_true,true_or,or_false,false_or,not_true_eq_false,not_false_eq_true]
theorem bMk (a b:LTerm) (ha:OkT a) (hb:OkT b):CT 160 [elT a,elT b] (.i .i64 (G3 a b)):=
 dK (Q:=fun a=>∀ (b:LTerm),OkT a→OkT b→CT 160 [elT a,elT b] (.i .i64 (G3 a b))) (fun a hk hr b ha hb=>aXg a b ha hb (fun x hx y hy=>hk x hx y (ha.kid x hx) (hb.kid y hy)) (fun x hx y hy=>hr x hx y (ha.rst x hx) (hb.rst y hy))) a b ha hb
theorem bMh (a b:LTerm) (ha:OkT a) (hb:OkT b):CT 217 [elT a,elT b] (.i .i64 (G6 a b)):=
 dK (Q:=fun a=>∀ (b:LTerm),OkT a→OkT b→CT 217 [elT a,elT b] (.i .i64 (G6 a b))) (fun a hk hr b ha hb=>aXe a b ha hb (fun x hx y hy=>hk x hx y (ha.kid x hx) (hb.kid y hy)) (fun x hx y hy=>hr x hx y (ha.rst x hx) (hb.rst y hy))) a b ha hb

theorem bDy:dP [95]=false:=by decide
theorem aUz:dP [36]=false:=by decide
theorem bDh {s:Str} (h:vB s=true):dP s=false:=by
 simp only [vB,bH,decide_eq_true_eq] at h
 rcases h with rfl | rfl <;> decide
theorem aUu (s:Str):dP s=true→¬ s=[95]∧¬ s=[36]:=by
 intro h
 constructor <;> (rintro rfl; revert h; decide)
theorem aQl (t:LTerm) (ht:OkT t) (h6:t.kind=6): CT 201 [elT t] (.b (cP t)):=by
 refine fK (rx:=true) (th:=fun i=>if i=19 then some ⟨some 1,[],false,false,false,[],[],0⟩ else none) mixed Tryz.func201 g0 ?_
 · simp -implicitDefEqProofs (disch:=omega) only [Tryz.f201,go_sem,List.replicate,simprocAttr]
   have no1:=aUu t.text
   (refine zy2 (zA2 h6 (zA2 @decide_true @decide_false)) (P0 t.text ht.text) (P0 t.sort ht.sort) ?_; repeat' first | exact trivial | refine zJ ?_ ?_ | refine zH fun hc=>?_)
   all_goals try simp only [E1,E2,qT,qS] at *
   all_goals refine aG ?_ rfl
   all_goals (simp_all [cP,vB,eY,bDy,aUz]; done)
theorem aIn {t:LTerm} {so:Str} (hs:dP so=true) (h1:t.rest.length=1) (h6:(t.rest.getD 0 default).kind=6):(cP (t.rest.getD 0 default) && dP (t.rest.getD 0 default).text && decide ((t.rest.getD 0 default).sort=so))=mV t so:=by
 have h0:t.rest.length ≠ 0:=by omega
 generalize hr:t.rest.getD 0 default=r at *
 have h3:mV t so=(dP r.text && decide (r.sort=so) && eY r false true true false false):=by
   simp only [mV,hr,h1,h6,decide_true,Nat.one_ne_zero,decide_false,cO,Bool.true_and]
 rw [h3]
 have h4:cP r=(if vB r.text=true then decide (r.sort=P9) && eY r false true true false false else dP r.text && dP r.sort && eY r false true true false false):=by
   simp only [cP,h6]; rfl
 rw [h4]
 cases ho:vB r.text with
 | true=>rw [bDh ho]; simp
 | false=>
   by_cases hq:r.sort=so
   · rw [hq,hs]; cases dP r.text <;> cases eY r false true true false false <;> simp
   · simp [hq]
theorem bAi (t:LTerm) (so:Str) (ht:OkT t) (hso:dP so=true): CT 236 [elT t,.s so] (.b (mV t so)):=by
 refine aE mixed Tryz.func236 g0 ?_
 · skip
   have h1:0 < t.rest.length→OkT (t.rest.getD 0 default):=fun h=>ht.rst _ (bE h)
   have hA:=fun a b=>aIn (t:=t) hso a b
   (repeat' (first | refine gT ?_ ?_ | refine gF ?_ ?_ | refine gC ?_ ?_ | ((first | (refine aY (aQl (t.rest.getD 0 default) (h1 (by omega)) (by assumption)) ?_ ?_; (focus (simp -implicitDefEqProofs (disch:=omega) only [zdB,go_sem,simprocAttr]; done))) | (refine aY (P0 (t.rest.getD 0 default).text (h1 (by omega)).text) ?_ ?_; (focus (simp -implicitDefEqProofs (disch:=omega) only [zdB,go_sem,simprocAttr]; done)))); simp -implicitDefEqProofs (disch:=omega) only [go_sem,simprocAttr]) | refine aK (by omega) ?_ | (intro hr; have hc:=hr; (try simp only [zdz] at hc); simp -implicitDefEqProofs (disch:=omega) only [hr,go_sem,simprocAttr]; (try clear hr))))
   all_goals try simp only [E1,E2] at *
   all_goals refine aG ?_ rfl
   all_goals first
     | (have e:=hA (by assumption) (by assumption); clear hA; rw [← e]; clear e; simp_all only [decide_true,decide_false,dF,cO,Bool.true_and,Bool.false_and,Bool.and_false,Bool.and_true]; done)
     | (clear hA; simp_all only [mV,decide_true,decide_false,dF,cO,Bool.true_and,Bool.false_and,Bool.and_false,Bool.and_true,Nat.one_ne_zero]; done)
theorem bDv {t:LTerm} (h:t.kind=1):cP t=(nE t.n && eY t true false false false false):=by simp only [cP,h]; rfl
theorem bDu {t:LTerm} (h:t.kind=2):cP t=((decide (t.n=0) || decide (t.n=1)) && eY t true false false false false):=by simp only [cP,h]; rfl
theorem bDt {t:LTerm} (h:t.kind=3):cP t=(xV t.text && eY t false true false false false):=by simp only [cP,h]; rfl
theorem bDs {t:LTerm} (h:t.kind=4):cP t=(aZs t.text && eY t false true false false false):=by simp only [cP,h]; rfl
theorem bDr {t:LTerm} (h:t.kind=5):cP t=(W6 t.text && decide (t.kids.length≤8) && eY t false true false true false):=by simp only [cP,h]; rfl
theorem bDq {t:LTerm} (h:t.kind=7):cP t=(mV t nC && eY t false false false true true):=by simp only [cP,h]; rfl
theorem bDp {t:LTerm} (h:t.kind=8):cP t=(mV t C2 && decide (t.kids.length % 2=0) && eY t false false false true true):=by simp only [cP,h]; rfl
theorem bEe {α:Type} {l:List α}:l.length=0↔l=[]:=List.length_eq_zero_iff
theorem aXc (t:LTerm) (ht:OkT t) (hk:t.kind=1): CT 201 [elT t] (.b (cP t)):=by
 refine fK (rx:=true) (th:=fun i=>if i=19 then some ⟨some 1,[],false,false,false,[],[],0⟩ else none) mixed Tryz.func201 g0 ?_
 · simp -implicitDefEqProofs (disch:=omega) only [Tryz.f201,go_sem,List.replicate,simprocAttr]
   (refine zy1 (zA2 hk (zA2 @decide_true @decide_false)) (bAl t.n) ?_; repeat' first | exact trivial | refine zJ ?_ ?_ | refine zH fun hc=>?_)
   all_goals try simp only [E1,E2,qT,qS,bEe] at *
   all_goals refine aG ?_ rfl
   all_goals rw [bDv hk]
   all_goals clear ht
   all_goals first
     | (simp_all only [eY,nE,decide_true,decide_false,dF,cO,Bool.true_and,Bool.false_and,Bool.and_false,Bool.and_true,dG,cN,not_true_eq_false,not_false_eq_true]; done)
     | (simp_all [eY,nE] <;> (intros; omega))
theorem aXb (t:LTerm) (ht:OkT t) (hk:t.kind=2): CT 201 [elT t] (.b (cP t)):=by
 refine fK (rx:=true) (th:=fun i=>if i=19 then some ⟨some 1,[],false,false,false,[],[],0⟩ else none) mixed Tryz.func201 g0 ?_
 · simp -implicitDefEqProofs (disch:=omega) only [Tryz.f201,go_sem,List.replicate,simprocAttr]
   (refine zy1 (zA2 hk (zA2 @decide_true @decide_false)) (bAl t.n) ?_; repeat' first | exact trivial | refine zJ ?_ ?_ | refine zH fun hc=>?_)
   all_goals try simp only [E1,E2,qT,qS,bEe] at *
   all_goals refine aG ?_ rfl
   all_goals rw [bDu hk]
   all_goals clear ht
   all_goals first
     | (simp_all only [eY,nE,decide_true,decide_false,dF,cO,Bool.true_and,Bool.false_and,Bool.and_false,Bool.and_true,dG,cN,not_true_eq_false,not_false_eq_true]; done)
     | (simp_all [eY,nE] <;> (intros; omega))
theorem aXa (t:LTerm) (ht:OkT t) (hk:t.kind=3): CT 201 [elT t] (.b (cP t)):=by
 refine fK (rx:=true) (th:=fun i=>if i=19 then some ⟨some 1,[],false,false,false,[],[],0⟩ else none) mixed Tryz.func201 g0 ?_
 · simp -implicitDefEqProofs (disch:=omega) only [Tryz.f201,go_sem,List.replicate,simprocAttr]
   (refine zy1 (zA2 hk (zA2 @decide_true @decide_false)) (bMj t.text ht.text) ?_; repeat' first | exact trivial | refine zJ ?_ ?_ | refine zH fun hc=>?_)
   all_goals try simp only [E1,E2,qT,qS,bEe] at *
   all_goals refine aG ?_ rfl
   all_goals rw [bDt hk]
   all_goals clear ht
   all_goals first
     | (simp_all only [eY,nE,decide_true,decide_false,dF,cO,Bool.true_and,Bool.false_and,Bool.and_false,Bool.and_true,dG,cN,not_true_eq_false,not_false_eq_true]; done)
     | (simp_all [eY,nE] <;> (intros; omega))
theorem aWz (t:LTerm) (ht:OkT t) (hk:t.kind=4): CT 201 [elT t] (.b (cP t)):=by
 refine fK (rx:=true) (th:=fun i=>if i=19 then some ⟨some 1,[],false,false,false,[],[],0⟩ else none) mixed Tryz.func201 g0 ?_
 · simp -implicitDefEqProofs (disch:=omega) only [Tryz.f201,go_sem,List.replicate,simprocAttr]
   (refine zy1 (zA2 hk (zA2 @decide_true @decide_false)) (bMb t.text ht.text) ?_; repeat' first | exact trivial | refine zJ ?_ ?_ | refine zH fun hc=>?_)
   all_goals try simp only [E1,E2,qT,qS,bEe] at *
   all_goals refine aG ?_ rfl
   all_goals rw [bDs hk]
   all_goals clear ht
   all_goals first
     | (simp_all only [eY,nE,decide_true,decide_false,dF,cO,Bool.true_and,Bool.false_and,Bool.and_false,Bool.and_true,dG,cN,not_true_eq_false,not_false_eq_true]; done)
     | (simp_all [eY,nE] <;> (intros; omega))
theorem aWy (t:LTerm) (ht:OkT t) (hk:t.kind=5): CT 201 [elT t] (.b (cP t)):=by
 refine fK (rx:=true) (th:=fun i=>if i=19 then some ⟨some 1,[],false,false,false,[],[],0⟩ else none) mixed Tryz.func201 g0 ?_
 · simp -implicitDefEqProofs (disch:=omega) only [Tryz.f201,go_sem,List.replicate,simprocAttr]
   (refine zy1 (zA2 hk (zA2 @decide_true @decide_false)) (bAj t.text ht.text) ?_; repeat' first | exact trivial | refine zJ ?_ ?_ | refine zH fun hc=>?_)
   all_goals try simp only [E1,E2,qT,qS,bEe] at *
   all_goals refine aG ?_ rfl
   all_goals rw [bDr hk]
   all_goals clear ht
   all_goals first
     | (simp_all only [eY,nE,decide_true,decide_false,dF,cO,Bool.true_and,Bool.false_and,Bool.and_false,Bool.and_true,dG,cN,not_true_eq_false,not_false_eq_true]; done)
     | (simp_all [eY,nE] <;> (intros; omega))
theorem aWx (t:LTerm) (ht:OkT t) (hk:t.kind=7): CT 201 [elT t] (.b (cP t)):=by
 refine fK (rx:=true) (th:=fun i=>if i=19 then some ⟨some 1,[],false,false,false,[],[],0⟩ else none) mixed Tryz.func201 g0 ?_
 · simp -implicitDefEqProofs (disch:=omega) only [Tryz.f201,go_sem,List.replicate,simprocAttr]
   (refine zy1 (zA2 hk (zA2 @decide_true @decide_false)) (bAi t nC ht (by decide)) ?_; repeat' first | exact trivial | refine zJ ?_ ?_ | refine zH fun hc=>?_)
   all_goals try simp only [E1,E2,qT,qS,bEe] at *
   all_goals refine aG ?_ rfl
   all_goals rw [bDq hk]
   all_goals clear ht
   all_goals first
     | (simp_all only [eY,nE,decide_true,decide_false,dF,cO,Bool.true_and,Bool.false_and,Bool.and_false,Bool.and_true,dG,cN,not_true_eq_false,not_false_eq_true]; done)
     | (simp_all [eY,nE] <;> (intros; omega))
theorem aWw (t:LTerm) (ht:OkT t) (hk:t.kind=8): CT 201 [elT t] (.b (cP t)):=by
 refine fK (rx:=true) (th:=fun i=>if i=19 then some ⟨some 1,[],false,false,false,[],[],0⟩ else none) mixed Tryz.func201 g0 ?_
 · simp -implicitDefEqProofs (disch:=omega) only [Tryz.f201,go_sem,List.replicate,simprocAttr]
   (refine zy1 (zA2 hk (zA2 @decide_true @decide_false)) (bAi t C2 ht (by decide)) ?_; repeat' first | exact trivial | refine zJ ?_ ?_ | refine zH fun hc=>?_)
   all_goals try simp only [E1,E2,qT,qS,bEe] at *
   all_goals refine aG ?_ rfl
   all_goals rw [bDp hk]
   all_goals clear ht
   all_goals first
     | (simp_all only [eY,nE,decide_true,decide_false,dF,cO,Bool.true_and,Bool.false_and,Bool.and_false,Bool.and_true,dG,cN,not_true_eq_false,not_false_eq_true]; done)
     | (simp_all [eY,nE] <;> (intros; omega))
theorem aXd (t:LTerm) (h1:¬ t.kind=1) (h2:¬ t.kind=2) (h3:¬ t.kind=3) (h4:¬ t.kind=4) (h5:¬ t.kind=5) (h6:¬ t.kind=6) (h7:¬ t.kind=7) (h8:¬ t.kind=8): CT 201 [elT t] (.b (cP t)):=by
 refine fK (rx:=true) (th:=fun i=>if i=19 then some ⟨some 1,[],false,false,false,[],[],0⟩ else none) mixed Tryz.func201 g0 ?_
 · simp -implicitDefEqProofs (disch:=omega) only [Tryz.f201,go_sem,List.replicate,simprocAttr]
   have hn:cP t=false:=by simp only [cP,h1,h2,h3,h4,h5,h6,h7,h8,if_false]
   (refine zx0 (zA2 h1 (zA2 h2 (zA2 h3 (zA2 h4 (zA2 h5 (zA2 h6 (zA2 h7 (zA2 h8 (zA2 @decide_true @decide_false))))))))) ?_; repeat' first | exact trivial | refine zJ ?_ ?_ | refine zH fun hc=>?_)
   all_goals exact aG (by rw [hn]) rfl
theorem bMg (t:LTerm) (ht:OkT t):CT 201 [elT t] (.b (cP t)):=by
 by_cases h1:t.kind=1
 · exact aXc t ht h1
 by_cases h2:t.kind=2
 · exact aXb t ht h2
 by_cases h3:t.kind=3
 · exact aXa t ht h3
 by_cases h4:t.kind=4
 · exact aWz t ht h4
 by_cases h5:t.kind=5
 · exact aWy t ht h5
 by_cases h6:t.kind=6
 · exact aQl t ht h6
 by_cases h7:t.kind=7
 · exact aWx t ht h7
 by_cases h8:t.kind=8
 · exact aWw t ht h8
 exact aXd t h1 h2 h3 h4 h5 h6 h7 h8
end Go.Proofs.YtifefbhllfdmlaaGreatDoor
namespace Go.Vo
section
variable (p:LTerm→Bool)
mutual
def lP:LTerm→Int→Int→Int × Bool
 | .mk k n t s ks rs,d,m=>
   if (decide (d≤60) && decide (m+1≤2000) && p (.mk k n t s ks rs))=true then
     (if (lookL ks (d+1) (m+1)).2=true then ((lookL ks (d+1) (m+1)).1+rs.length,decide (rs.length=0) || (decide (d < 60) && decide ((lookL ks (d+1) (m+1)).1+rs.length≤2000))) else ((lookL ks (d+1) (m+1)).1,false))
   else (m+1,false)
def lookL:List LTerm→Int→Int→Int × Bool
 | [],d,m=>(m,true)
 | k::l,d,m=>if (lP k d m).2=true then lookL l d (lP k d m).1 else ((lP k d m).1,false)
end
mutual
def gG:LTerm→Int→Int→Bool × Int
 | .mk k n t s ks rs,d,left=>
   if (decide (left - (1+rs.length) < 0) || decide (d < 1) || (decide (0 < rs.length) && decide (d < 2)) || !p (.mk k n t s ks rs))=true then (false,left - (1+rs.length)) else formedL ks (d - 1) (left - (1+rs.length))
def formedL:List LTerm→Int→Int→Bool × Int
 | [],d,left=>(true,left)
 | k::l,d,left=>if (gG k d left).1=true then formedL l d (gG k d left).2 else (false,(gG k d left).2)
end
mutual
def wfT:LTerm→Bool
 | .mk k n t s ks rs=>p (.mk k n t s ks rs) && wfL ks
def wfL:List LTerm→Bool
 | []=>true
 | k::l=>wfT k && wfL l
end
end
mutual
def nodesT:LTerm→Nat
 | .mk k n t s ks rs=>1+rs.length+nodesL ks
def nodesL:List LTerm→Nat
 | []=>0
 | k::l=>nodesT k+nodesL l
end
mutual
def highT:LTerm→Nat
 | .mk k n t s ks rs=>1+max rs.length (highL ks)
def highL:List LTerm→Nat
 | []=>0
 | k::l=>max (highT k) (highL l)
end
section
variable {p:LTerm→Bool}
mutual
theorem wX (hp:∀ t,p t=true→t.rest.length≤1):∀ (t:LTerm) (d m:Int),((lP p t d m).2=true↔wfT p t=true∧d+highT t≤61∧m+nodesT t≤2000)∧((lP p t d m).2=true→(lP p t d m).1=m+nodesT t)
 | .mk k n t s ks rs,d,m=>by
   rw [lP,wfT,highT,nodesT]
   split
   · rename_i hc
     simp only [aC,decide_eq_true_eq] at hc
     obtain ⟨⟨h1,h2⟩,h3⟩:=hc
     have hr:=hp _ h3
     simp only [LTerm.rest] at hr
     obtain ⟨i1,i2⟩:=lookL_spec hp ks (d+1) (m+1) (by omega) (by omega)
     rw [h3,Bool.true_and]
     split
     · rename_i hl
       have e:=i2 hl
       obtain ⟨w,w2,w3⟩:=i1.1 hl
       simp only [bH,aC,decide_eq_true_eq,w,true_and,e]
       exact ⟨by omega,fun _=>by omega⟩
     · rename_i hl
       refine ⟨⟨(fun h=>by cases h),fun ⟨a,b,c⟩=>?_⟩,fun h=>by cases h⟩
       exact absurd (i1.2 ⟨a,by omega,by omega⟩) hl
   · rename_i hc
     refine ⟨⟨(fun h=>by cases h),fun ⟨a,b,c⟩=>?_⟩,fun h=>by cases h⟩
     exfalso
     refine hc ?_
     simp only [aC,decide_eq_true_eq] at a ⊢
     exact ⟨⟨by omega,by omega⟩,a.1⟩
theorem lookL_spec (hp:∀ t,p t=true→t.rest.length≤1):∀ (l:List LTerm) (d m:Int),d≤61→m≤2000→((lookL p l d m).2=true↔wfL p l=true∧d+highL l≤61∧m+nodesL l≤2000)∧((lookL p l d m).2=true→(lookL p l d m).1=m+nodesL l)
 | [],d,m,hd,hm=>by
   rw [lookL,wfL,highL,nodesL]
   exact ⟨⟨fun _=>⟨rfl,by omega,by omega⟩,fun _=>rfl⟩,fun _=>by omega⟩
 | k :: l,d,m,hd,hm=>by
   obtain ⟨i1,i2⟩:=wX hp k d m
   rw [lookL,wfL,highL,nodesL]
   split
   · rename_i hk
     have e:=i2 hk
     obtain ⟨w,w2,w3⟩:=i1.1 hk
     obtain ⟨j1,j2⟩:=lookL_spec hp l d (lP p k d m).1 hd (by omega)
     rw [w,Bool.true_and,j1]
     exact ⟨⟨fun ⟨a,b,c⟩=>⟨a,by omega,by omega⟩,fun ⟨a,b,c⟩=>⟨a,by omega,by omega⟩⟩,fun h=>by have:=j2 (j1.2 h); omega⟩
   · rename_i hk
     refine ⟨⟨(fun h=>by cases h),fun ⟨a,b,c⟩=>?_⟩,fun h=>by cases h⟩
     rw [aC] at a
     exact absurd (i1.2 ⟨a.1,by omega,by omega⟩) hk
end
mutual
theorem rX (hp:∀ t,p t=true→t.rest.length≤1):∀ (t:LTerm) (d m:Int),((gG p t d m).1=true↔wfT p t=true∧(highT t:Int)≤d∧(nodesT t:Int)≤m)∧((gG p t d m).1=true→(gG p t d m).2=m - nodesT t)
 | .mk k n t s ks rs,d,m=>by
   rw [gG,wfT,highT,nodesT]
   split
   · rename_i hc
     refine ⟨⟨(fun h=>by cases h),fun ⟨h1,h2,h3⟩=>?_⟩,fun h=>by cases h⟩
     exfalso
     simp only [aC,bH,decide_eq_true_eq,cG] at h1 hc
     rcases hc with ((hc | hc) | ⟨hc,hc'⟩) | hc
     · omega
     · omega
     · omega
     · rw [h1.1] at hc; cases hc
   · rename_i hc
     simp only [bH,aC,decide_eq_true_eq,cG,not_or,not_and,Bool.not_eq_false] at hc
     obtain ⟨⟨⟨h1,h2⟩,h4⟩,h3⟩:=hc
     have hr:=hp _ h3
     simp only [LTerm.rest] at hr
     obtain ⟨i1,i2⟩:=formedL_spec hp ks (d - 1) (m - (1+rs.length)) (by omega) (by omega)
     rw [h3,Bool.true_and,i1]
     exact ⟨⟨fun ⟨a,b,c⟩=>⟨a,by omega,by omega⟩,fun ⟨a,b,c⟩=>⟨a,by omega,by omega⟩⟩,fun h=>by have:=i2 (i1.2 h); omega⟩
theorem formedL_spec (hp:∀ t,p t=true→t.rest.length≤1):∀ (l:List LTerm) (d m:Int),0≤d→0≤m→((formedL p l d m).1=true↔wfL p l=true∧(highL l:Int)≤d∧(nodesL l:Int)≤m)∧((formedL p l d m).1=true→(formedL p l d m).2=m - nodesL l)
 | [],d,m,hd,hm=>by
   rw [formedL,wfL,highL,nodesL]
   exact ⟨⟨fun _=>⟨rfl,by omega,by omega⟩,fun _=>rfl⟩,fun _=>by omega⟩
 | k :: l,d,m,hd,hm=>by
   obtain ⟨i1,i2⟩:=rX hp k d m
   rw [formedL,wfL,highL,nodesL]
   split
   · rename_i hk
     have e:=i2 hk
     obtain ⟨w,w2,w3⟩:=i1.1 hk
     obtain ⟨j1,j2⟩:=formedL_spec hp l d (gG p k d m).2 hd (by omega)
     rw [w,Bool.true_and,j1]
     exact ⟨⟨fun ⟨a,b,c⟩=>⟨a,by omega,by omega⟩,fun ⟨a,b,c⟩=>⟨a,by omega,by omega⟩⟩,fun h=>by have:=j2 (j1.2 h); omega⟩
   · rename_i hk
     refine ⟨⟨(fun h=>by cases h),fun ⟨a,b,c⟩=>?_⟩,fun h=>by cases h⟩
     rw [aC] at a
     exact absurd (i1.2 ⟨a.1,by omega,by omega⟩) hk
end
def gD (p:LTerm→Bool) (t:LTerm):Bool:=wfT p t && decide (highT t≤60) && decide (nodesT t≤2000)
theorem aJb (hp:∀ t,p t=true→t.rest.length≤1) (t:LTerm):(lP p t 1 0).2=gD p t:=by
 rw [cT,(wX hp t 1 0).1,gD]
 simp only [aC,decide_eq_true_eq]
 exact ⟨fun ⟨a,b,c⟩=>⟨⟨a,by omega⟩,by omega⟩,fun ⟨⟨a,b⟩,c⟩=>⟨a,by omega,by omega⟩⟩
theorem Y7 (hp:∀ t,p t=true→t.rest.length≤1) (t:LTerm):(gG p t 60 2000).1=gD p t:=by
 rw [cT,(rX hp t 60 2000).1,gD]
 simp only [aC,decide_eq_true_eq]
 exact ⟨fun ⟨a,b,c⟩=>⟨⟨a,by omega⟩,by omega⟩,fun ⟨⟨a,b⟩,c⟩=>⟨a,by omega,by omega⟩⟩
end
end Go.Vo
namespace Go.Proofs.YtifefbhllfdmlaaGreatDoor
open Go Go.Vo
open Nat (reduceAdd reduceSub reduceMul reduceLeDiff reduceLT reduceEqDiff)
open Int (reduceNeg)

theorem aFm (p:LTerm→Bool) (t:LTerm) (d m:Int):lP p t d m=if (decide (d≤60) && decide (m+1≤2000) && p t)=true then (if (lookL p t.kids (d+1) (m+1)).2=true then ((lookL p t.kids (d+1) (m+1)).1+t.rest.length,decide (t.rest.length=0) || (decide (d < 60) && decide ((lookL p t.kids (d+1) (m+1)).1+t.rest.length≤2000))) else ((lookL p t.kids (d+1) (m+1)).1,false)) else (m+1,false):=by
 cases t; rw [lP]; rfl
theorem aVh {p:LTerm→Bool} {l:List LTerm} {k:Nat} {d m:Int} (h:k < l.length):lookL p (l.drop k) d m=if (lP p (l.getD k default) d m).2=true then lookL p (l.drop (k+1)) d (lP p (l.getD k default) d m).1 else ((lP p (l.getD k default) d m).1,false):=by
 rw [bR h,lookL]; simp [List.getD,h]
theorem aVg {p:LTerm→Bool} {t:LTerm} {d m:Int} (hp:∀ t,p t=true→t.rest.length≤1) (hm:0≤m) (h:(lP p t d m).2=true):0≤(lP p t d m).1∧(lP p t d m).1≤2000:=by
 have s:=wX hp t d m
 rw [s.2 h]
 have:=s.1.1 h
 omega
theorem aCk {p:LTerm→Bool} {t:LTerm} {d m:Int} (h:(decide (d≤60) && decide (m+1≤2000) && p t)=false):lP p t d m=(m+1,false):=by
 rw [aFm,if_neg (by rw [h]; simp)]
abbrev aYp (t:LTerm) (d m:Int):AV→List AObj→Prop:=fun r h'=>r=.tup []∧∃ g,h'=.box false [.i .i64 (lP cP t d m).1,.b (lP cP t d m).2]::g
theorem vJ {t:LTerm} {d m a:Int} {b:Bool} {h g:List AObj} (e:lP cP t d m=(a,b)) (hh:h=.box false [.i .i64 a,.b b]::g):aYp t d m (.tup []) h:=⟨rfl,g,by rw [e]; exact hh⟩
def zZ (d m:Int) (j:Nat):Bool:=decide (j=0) || (decide (d < 60) && decide (m+j≤2000))
@[simp] theorem bPl {d m:Int}:zZ d m 0=true:=by simp [zZ]
theorem tN {d m:Int} {j:Nat}:zZ d m (j+1)=(zZ d m j && decide (d < 60) && decide (m+j+1≤2000)):=by
 rw [cT]
 simp only [zZ,bH,aC,decide_eq_true_eq]
 omega
theorem bQz (t:LTerm) (d m:Int) (ht:OkT t) (hm0:0≤m) (hm:m≤2000) (hd0:0≤d) (hd:d≤100) (ih:∀ k ∈ t.kids,∀ (d m:Int),0≤m→m≤2000→0≤d→d≤100→ACalls Tryz.prog G0 156 [.ptr 0 0,elT k,.i .i64 d] [.box false [.i .i64 m,.b true]] (aYp k d m)): ACalls Tryz.prog G0 156 [.ptr 0 0,elT t,.i .i64 d] [.box false [.i .i64 m,.b true]] (aYp t d m):=by
 refine cY (rx:=false) (th:=fun _=>none) mixed Tryz.func156 ?_
 · simp -implicitDefEqProofs (disch:=omega) only [Tryz.f156,go_sem,List.replicate,simprocAttr]
   have hk1:=ht.kids
   have hr1:=ht.rest
   have c:=bMg t ht
   cases hnb:cP t with
   | false=>
     rw [hnb] at c
     (refine zt1 c ?_; repeat' first | exact trivial | refine zJ ?_ ?_ | refine zH fun hc=>?_)
     all_goals exact vJ (aCk (by simp only [hnb,Bool.and_false])) rfl
   | true=>
   rw [hnb] at c
   (refine zt1 c ?_; repeat' first | exact trivial | refine zJ ?_ ?_ | refine zH fun hc=>?_)
   rotate_left
   · exact vJ (aCk (by simp only [*,decide_true,decide_false,Bool.false_and,Bool.and_false,Bool.true_and])) rfl
   · exact vJ (aCk (by simp only [*,decide_true,decide_false,Bool.false_and,Bool.and_false,Bool.true_and])) rfl
   have hif:lP cP t d m=_:=aFm cP t d m
   rw [if_pos (by simp only [*,decide_true,dY])] at hif
   refine fJ (fun (s:Nat × Int)=>[.k,.k,.k,.k,.k,.k,.k,.j,.k,.k,.k,.k,.k,.k,.k,.k,.k,.k,.k,.k,.k,.k,.k,.k,.k,.k,.k,.k,.k,.k,.k,.k,.k,.k,.k,.k,.k,.k,.k,.k,.k,.k,.k,.k,.k,.v (.i .i64 (s.1:Nat)),.j,.j,.j,.j,.j,.j,.j,.j,.j,.j,.j,.j,.j,.j,.k,.k,.k,.k,.k,.k,.k,.k,.k,.k,.k,.k,.k,.k,.k,.k,.k,.k,.k,.k,.k,.k,.k,.k,.k,.k,.k,.k,.k,.k,.k]) (fun s=>[.box false [.i .i64 s.2,.b true],.box false [.i .i64 (t).kind,.i .i64 (t).n,.s (t).text,.s (t).sort,.sl ((t).kids.flatMap aA) (t).kids.length,.sl ((t).rest.flatMap aA) (t).rest.length]]) (fun s=>s.1≤t.kids.length∧lookL cP t.kids (d+1) (m+1)=lookL cP (t.kids.drop s.1) (d+1) s.2∧0≤s.2∧s.2≤2000) (fun s=>t.kids.length - s.1) ((0,m+1)) _ ⟨aF _,rfl,by dsimp only; omega,by dsimp only; omega⟩ rfl (by simp [fD]) ?_
   rintro ⟨k,m2⟩ g j ⟨hk,hL,hm20,hm2⟩
   dsimp only at hk hL hm20 hm2
   refine zg ?_
   (refine zs0 ?_; repeat' first | exact trivial | refine zJ ?_ ?_ | refine zH fun hc=>?_)
   · have hlt:k < t.kids.length:=by omega
     rw [aVh hlt] at hL
     refine aXp 0 g0 (ih _ (bE (d:=default) hlt) (d+1) m2 hm20 hm2 (by omega) (by omega)) rfl rfl rfl rfl ?_ ?_
     · simp only [renL,ren,elT,aW,avt,renL_pers _ _ fE,nG]
     · intro g2
       refine zg ?_
       (refine zs0 ?_; repeat' first | exact trivial | refine zJ ?_ ?_ | refine zH fun hc=>?_)
       · rw [if_neg (by rw [show (lP cP (t.kids.getD k default) (d+1) m2).2=false from hc]; simp)] at hL
         rw [hL,if_neg (by simp)] at hif
         rw [show (lP cP (t.kids.getD k default) (d+1) m2).2=false from hc]
         exact vJ hif rfl
       · have e:(lP cP (t.kids.getD k default) (d+1) m2).2=true:=hc
         rw [if_pos e] at hL
         have hle:=aVg pJ hm20 e
         rw [e]
         exact ⟨(k+1,(lP cP (t.kids.getD k default) (d+1) m2).1),_,⟨by dsimp only; omega,hL,hle.1,hle.2⟩,by dsimp only; omega,rfl,by simp⟩
   · rw [bJ (by omega),lookL] at hL
     rw [hL,if_pos rfl] at hif
     refine bQ (fun (i:Nat)=>[.k,.k,.k,.k,.k,.k,.k,.k,.k,.k,.k,.k,.k,.k,.k,.k,.k,.k,.k,.k,.k,.k,.k,.k,.k,.k,.k,.k,.k,.k,.k,.k,.k,.k,.k,.k,.k,.k,.k,.k,.k,.k,.k,.k,.k,.k,.k,.k,.k,.k,.k,.k,.k,.k,.k,.k,.k,.k,.k,.k,.k,.k,.k,.v (.i .i64 (i:Nat)),.j,.j,.j,.j,.j,.j,.j,.j,.j,.j,.j,.j,.j,.j,.j,.j,.j,.j,.j,.j,.j,.j,.j,.j,.j,.j,.j]) (fun i=>.box false [.i .i64 (m2+(i:Nat)),.b (zZ d m2 i)]::.box false [.i .i64 (t).kind,.i .i64 (t).n,.s (t).text,.s (t).sort,.sl ((t).kids.flatMap aA) (t).kids.length,.sl ((t).rest.flatMap aA) (t).rest.length]::g) (fun i=>i≤t.rest.length) (fun i=>t.rest.length - i) (0) (aF _) (by simp [avs,avb,avi,avo,aI]) (by simp [fD]) ?_
     rintro i j hi
     refine zg ?_
     (refine zs0 ?_; repeat' first | exact trivial | refine zJ ?_ ?_ | refine zH fun hc=>?_)
     · exact ⟨i+1,by omega,by omega,by rw [tN,show zZ d m2 i=true by assumption,Int.natCast_succ,← Int.add_assoc]; simp only [Bool.true_and,zt hc],by simp⟩
     · exact ⟨i+1,by omega,by omega,by rw [tN,Int.natCast_succ,← Int.add_assoc]; simp only [zf hc,Bool.and_false,Bool.false_and],by simp⟩
     · exact ⟨i+1,by omega,by omega,by rw [tN,hc,Int.natCast_succ,← Int.add_assoc]; simp only [Bool.false_and],by simp⟩
     · have e:i=t.rest.length:=by omega
       exact vJ hif (by rw [e]; rfl)
theorem look:∀ (t:LTerm),OkT t→∀ (d m:Int),0≤m→m≤2000→0≤d→d≤100→ACalls Tryz.prog G0 156 [.ptr 0 0,elT t,.i .i64 d] [.box false [.i .i64 m,.b true]] (aYp t d m):=
 dK fun t hk _ ht d m h1 h2 h3 h4=>bQz t d m ht h1 h2 h3 h4 (fun k hmem d m a b c e=>hk k hmem (ht.kid k hmem) d m a b c e)
theorem aQp (t:LTerm) (ht:OkT t): CT 99 [elT t] (.b (gD cP t)):=by
 refine aE mixed Tryz.func99 g0 ?_
 · skip
   (refine zs0 ?_; repeat' first | exact trivial | refine zJ ?_ ?_ | refine zH fun hc=>?_)
   refine aXp 1 g0 (look t ht 1 0 (by decide) (by decide) (by decide) (by decide)) rfl rfl rfl rfl ?_ ?_
   · simp only [renL,ren,elT,aW,avt,renL_pers _ _ fE,nG]
   · intro g2
     refine zg ?_
     (refine zs0 ?_; repeat' first | exact trivial | refine zJ ?_ ?_ | refine zH fun hc=>?_)
     exact aG (by rw [aJb pJ]) rfl

theorem aJk (p:LTerm→Bool) (t:LTerm) (d m:Int):gG p t d m=if (decide (m - (1+t.rest.length) < 0) || decide (d < 1) || (decide (0 < t.rest.length) && decide (d < 2)) || !p t)=true then (false,m - (1+t.rest.length)) else formedL p t.kids (d - 1) (m - (1+t.rest.length)):=by
 cases t; rw [gG]; rfl
theorem aJl {p:LTerm→Bool} {l:List LTerm} {k:Nat} {d m:Int} (h:k < l.length):formedL p (l.drop k) d m=if (gG p (l.getD k default) d m).1=true then formedL p (l.drop (k+1)) d (gG p (l.getD k default) d m).2 else (false,(gG p (l.getD k default) d m).2):=by
 rw [bR h,formedL]; simp [List.getD,h]
theorem aJj {p:LTerm→Bool} {t:LTerm} {d m:Int} (hp:∀ t,p t=true→t.rest.length≤1) (hm:m≤2000) (h:(gG p t d m).1=true):0≤(gG p t d m).2∧(gG p t d m).2≤2000:=by
 have s:=rX hp t d m
 rw [s.2 h]
 have:=s.1.1 h
 omega
abbrev Q9 (t:LTerm) (d m:Int):AV→List AObj→Prop:=fun r h'=>r=.b (gG cP t d m).1∧∃ g,h'=.box false [.i .i64 (gG cP t d m).2]::g
theorem pP {t:LTerm} {d m a:Int} {b:Bool} {h g:List AObj} (e:gG cP t d m=(b,a)) (hh:h=.box false [.i .i64 a]::g):Q9 t d m (.b b) h:=⟨by rw [e],g,by rw [e]; exact hh⟩
theorem bEu (t:LTerm) (d m:Int) (ht:OkT t) (hm0:0≤m) (hm:m≤2000) (hd0:0≤d) (hd:d≤100) (ih:∀ k ∈ t.kids,∀ (d m:Int),0≤m→m≤2000→0≤d→d≤100→ACalls Tryz.prog G0 213 [elT k,.i .i64 d,.ptr 0 0] [.box false [.i .i64 m]] (Q9 k d m)): ACalls Tryz.prog G0 213 [elT t,.i .i64 d,.ptr 0 0] [.box false [.i .i64 m]] (Q9 t d m):=by
 refine cY (rx:=false) (th:=fun _=>none) mixed Tryz.func213 ?_
 · simp -implicitDefEqProofs (disch:=omega) only [Tryz.f213,go_sem,List.replicate,simprocAttr]
   have hk1:=ht.kids
   have hr1:=ht.rest
   have c:=bMc t ht
   have e:=aJk cP t d m
   rw [show decide (0 < t.rest.length)=decide (0 < (t.rest.length:Int)) by simp] at e
   have w1:IntKind.i64.wrap (1+(t.rest.length:Int))=1+t.rest.length:=wrap64 (by omega) (by omega)
   have w2:IntKind.i64.wrap (m - (1+(t.rest.length:Int)))=m - (1+t.rest.length):=wrap64 (by omega) (by omega)
   cases hnb:cP t with
   | false=>
     rw [hnb] at c
     rw [hnb,Bool.not_false,dG,if_pos rfl] at e
     (refine zy1 (zA2 w1 w2) c ?_; repeat' first | exact trivial | refine zJ ?_ ?_ | refine zH fun hc=>?_)
     all_goals first
       | exact pP e rfl
       | (exfalso; simp only [w1,w2] at *; omega)
   | true=>
   rw [hnb] at c
   rw [hnb,Bool.not_true,cN] at e
   (refine zy1 (zA2 w1 w2) c ?_; repeat' first | exact trivial | refine zJ ?_ ?_ | refine zH fun hc=>?_)
   all_goals try (exfalso; simp only [w1,w2] at *; omega)
   all_goals try exact pP (e.trans (if_pos (by simp only [*,decide_true,decide_false,dF,dG,cO,Bool.true_and,Bool.false_and]))) rfl
   all_goals try exact pP (e.trans (if_pos (by simp [*]))) rfl
   all_goals
     rw [if_neg (by simp only [*,decide_true,decide_false,dF,dG,cN,cO,Bool.true_and,Bool.false_and,aP,not_false_eq_true]; try omega)] at e
     refine fJ (fun (s:Nat × Int)=>[.k,.k,.k,.k,.k,.k,.j,.k,.j,.k,.k,.k,.k,.k,.k,.k,.k,.k,.k,.k,.k,.k,.k,.k,.k,.k,.k,.k,.k,.k,.k,.k,.k,.k,.k,.k,.k,.k,.k,.k,.k,.k,.k,.k,.v (.i .i64 (s.1:Nat)),.j,.j,.j,.j,.j,.j,.j,.j,.j,.j]) (fun s=>[.box false [.i .i64 s.2],.box false [.i .i64 (t).kind,.i .i64 (t).n,.s (t).text,.s (t).sort,.sl ((t).kids.flatMap aA) (t).kids.length,.sl ((t).rest.flatMap aA) (t).rest.length]]) (fun s=>s.1≤t.kids.length∧formedL cP t.kids (d - 1) (m - (1+t.rest.length))=formedL cP (t.kids.drop s.1) (d - 1) s.2∧0≤s.2∧s.2≤2000) (fun s=>t.kids.length - s.1) ((0,m - (1+t.rest.length))) _ ⟨aF _,rfl,by dsimp only; omega,by dsimp only; omega⟩ rfl (by simp [fD]) ?_
     rintro ⟨k,m2⟩ g j ⟨hk,hL,hm20,hm2⟩
     dsimp only at hk hL hm20 hm2
     refine zg ?_
     (refine zs0 ?_; repeat' first | exact trivial | refine zJ ?_ ?_ | refine zH fun hc=>?_)
     · have hlt:k < t.kids.length:=by omega
       rw [aJl hlt] at hL
       refine aXp 0 g0 (ih _ (bE (d:=default) hlt) (d - 1) m2 hm20 hm2 (by omega) (by omega)) rfl rfl rfl rfl ?_ ?_
       · simp only [renL,ren,elT,aW,avt,renL_pers _ _ fE,nG]
       · intro g2
         refine zg ?_
         (refine zs0 ?_; repeat' first | exact trivial | refine zJ ?_ ?_ | refine zH fun hc=>?_)
         · rw [if_neg (by rw [show (gG cP (t.kids.getD k default) (d - 1) m2).1=false by assumption]; simp)] at hL
           exact pP (e.trans hL) rfl
         · rw [if_pos (show (gG cP (t.kids.getD k default) (d - 1) m2).1=true by assumption)] at hL
           have hle:=aJj pJ hm2 (show (gG cP (t.kids.getD k default) (d - 1) m2).1=true by assumption)
           exact ⟨(k+1,(gG cP (t.kids.getD k default) (d - 1) m2).2),_,⟨by dsimp only; omega,hL,hle.1,hle.2⟩,by dsimp only; omega,rfl,by simp⟩
     · rw [bJ (by omega),formedL] at hL
       exact pP (e.trans hL) rfl
theorem bJw:∀ (t:LTerm),OkT t→∀ (d m:Int),0≤m→m≤2000→0≤d→d≤100→ACalls Tryz.prog G0 213 [elT t,.i .i64 d,.ptr 0 0] [.box false [.i .i64 m]] (Q9 t d m):=
 dK fun t hk _ ht d m h1 h2 h3 h4=>bEu t d m ht h1 h2 h3 h4 (fun k hmem d m a b c e=>hk k hmem (ht.kid k hmem) d m a b c e)
theorem bAq (t:LTerm) (ht:OkT t): CT 171 [elT t] (.b (gD cP t)):=by
 refine aE mixed Tryz.func171 g0 ?_
 · skip
   (refine zs0 ?_; repeat' first | exact trivial | refine zJ ?_ ?_ | refine zH fun hc=>?_)
   refine aXp 1 g0 (bJw t ht 60 2000 (by decide) (by decide) (by decide) (by decide)) rfl rfl rfl rfl ?_ ?_
   · simp only [renL,ren,elT,aW,avt,renL_pers _ _ fE,nG]
   · intro g2
     refine zg ?_
     (refine zs0 ?_; repeat' first | exact trivial | refine zJ ?_ ?_ | refine zH fun hc=>?_)
     exact aG (by rw [Y7 pJ]) rfl

def H4 (n:Nat) (f:Nat→Bool):Bool:=(List.range n).all f
theorem kL {n:Nat} {f:Nat→Bool} (h:∀ j,j < n→f j=true):H4 n f=true:=by
 simp only [H4,aR,iQ]; exact h
theorem gW {n:Nat} {f:Nat→Bool} (j:Nat) (hj:j < n) (h:f j=false):H4 n f=false:=by
 rw [dV]; intro e; simp only [H4,aR,iQ] at e; rw [e j hj] at h; cases h
theorem lK {n:Nat} {f:Nat→Bool}:H4 n f=true↔∀ j,j < n→f j=true:=by
 simp only [H4,aR,iQ]
theorem oJ {l:List LTerm} {f:LTerm→Bool} (h:∀ j,j < l.length→f (l.getD j default)=true):l.all f=true:=by
 rw [aR]; intro x hx; obtain ⟨j,hj,rfl⟩:=bV.1 hx; have:=h j hj; simpa [List.getD,hj] using this
theorem wG {l:List LTerm} {f:LTerm→Bool} (j:Nat) (hj:j < l.length) (h:f (l.getD j default)=false):l.all f=false:=by
 rw [dV]; intro e; rw [aR.1 e _ (bE hj)] at h; cases h
def B6 (s:cI) (t:LTerm):Bool:=match N2 s t.text with
 | none=>false
 | some o=>decide (o.args.length=t.kids.length) && H4 t.kids.length (fun i=>jE s (iL s (t.kids.getD i default)) (o.args.getD i []))
def J1 (s:cI) (t:LTerm):Bool:=match N2 s t.text with
 | none=>false
 | some o=>decide (o.args.length=t.kids.length) && H4 t.kids.length (fun i=>(ofR s (t.kids.getD i default)).2 && qZ s (ofR s (t.kids.getD i default)).1 (o.args.getD i []))
def wY (f:LTerm→LTerm→Int) (t:LTerm) (i:Nat):Bool:=yJ (t.kids.getD (2 * i) default) && (decide (i=0) || decide (f (t.kids.getD (2 * i - 2) default) (t.kids.getD (2 * i) default) < 0))
def rC (f:LTerm→LTerm→Int) (t:LTerm):Bool:=H4 ((t.kids.length+1) / 2) (wY f t)
section
variable {f:LTerm→LTerm→Int} {t:LTerm} {i:Nat}
theorem Y1 (h:yJ (t.kids.getD (2 * i) default)=false):wY f t i=false:=by rw [wY,h,Bool.false_and]
theorem aFr (h:0 < ((2 * i:Nat):Int)) (h2:0≤f (t.kids.getD (2 * i - 2) default) (t.kids.getD (2 * i) default)):wY f t i=false:=by
 rw [wY,zf (by omega:¬ i=0),zf (by omega:¬ f (t.kids.getD (2 * i - 2) default) (t.kids.getD (2 * i) default) < 0),cO,Bool.and_false]
theorem Y0 (h:yJ (t.kids.getD (2 * i) default)=true) (h2:¬ 0≤f (t.kids.getD (2 * i - 2) default) (t.kids.getD (2 * i) default)):wY f t i=true:=by
 rw [wY,h,zt (by omega:f (t.kids.getD (2 * i - 2) default) (t.kids.getD (2 * i) default) < 0),dG]; rfl
theorem aOv (h:yJ (t.kids.getD (2 * i) default)=true) (h2:¬ 0 < ((2 * i:Nat):Int)):wY f t i=true:=by
 rw [wY,h,zt (by omega:i=0)]; rfl
end
mutual
def mG (s:cI):LTerm→Bool
 | .mk k n x so ks rs => !decide (k=6) && decide (rs=[]) && plainPL s ks && (if k=5 then B6 s (.mk k n x so ks rs) else if k=8 then rC G3 (.mk k n x so ks rs) else true)
def plainPL (s:cI):List LTerm→Bool
 | []=>true
 | k::l=>mG s k && plainPL s l
end
mutual
def pF (s:cI):LTerm→Bool
 | .mk k n x so ks rs=>plainRL s ks && (if k=6 then false else if k=5 then J1 s (.mk k n x so ks rs) else if k=8 then rC G6 (.mk k n x so ks rs) else true) && decide (rs=[])
def plainRL (s:cI):List LTerm→Bool
 | []=>true
 | k::l=>pF s k && plainRL s l
end
theorem I9 {s:cI}:∀ l,plainPL s l=l.all (mG s)
 | []=>rfl
 | k::l=>by rw [plainPL,I9 l]; rfl
theorem I8 {s:cI}:∀ l,plainRL s l=l.all (pF s)
 | []=>rfl
 | k::l=>by rw [plainRL,I8 l]; rfl
theorem uW (s:cI) (t:LTerm):mG s t=(!decide (t.kind=6) && decide (t.rest=[]) && t.kids.all (mG s) && (if t.kind=5 then B6 s t else if t.kind=8 then rC G3 t else true)):=by
 cases t; rw [mG,I9]; rfl
theorem V7 (s:cI) (t:LTerm):pF s t=(t.kids.all (pF s) && (if t.kind=6 then false else if t.kind=5 then J1 s t else if t.kind=8 then rC G6 t else true) && decide (t.rest=[])):=by
 cases t; rw [pF,I8]; rfl
theorem aXi (s:cI) (t:LTerm) (hs:Small s) (ht:OkT t) (ih:∀ k ∈ t.kids,CT 100 [dD s,elT k] (.b (mG s k))): CT 100 [dD s,elT t] (.b (mG s t)):=by
 refine aE mixed Tryz.func100 g0 ?_
 · skip
   have e:=uW s t
   have hk1:=ht.kids
   by_cases h6:t.kind=6
   · rw [zt h6,Bool.not_true,Bool.false_and,Bool.false_and,Bool.false_and] at e
     (refine zs0 ?_; repeat' first | exact trivial | refine zJ ?_ ?_ | refine zH fun hc=>?_)
     all_goals first
       | exact aG (by rw [e]) rfl
       | (exfalso; omega)
   by_cases hr:¬ t.rest=[]
   · rw [zf hr,Bool.and_false,Bool.false_and,Bool.false_and] at e
     have hr2:¬ t.rest.length=0:=fun h=>hr (List.length_eq_zero_iff.1 h)
     (refine zs0 ?_; repeat' first | exact trivial | refine zJ ?_ ?_ | refine zH fun hc=>?_)
     all_goals first
       | exact aG (by rw [e]) rfl
       | (exfalso; omega)
   have hr:t.rest=[]:=Classical.not_not.1 hr
   have hr2:t.rest.length=0:=by rw [hr]; rfl
   rw [zf h6,zt hr,Bool.not_false,Bool.true_and,Bool.true_and] at e
   (refine zs0 ?_; repeat' first | exact trivial | refine zJ ?_ ?_ | refine zH fun hc=>?_)
   · exfalso; omega
   refine fJ (fun (k:Nat)=>[.k,.k,.k,.k,.j,.k,.j,.k,.k,.k,.k,.k,.k,.k,.k,.k,.k,.k,.k,.k,.k,.k,.k,.k,.v (.i .i64 (k:Nat)),.j,.j,.j,.j,.j,.j,.j,.j,.k,.k,.k,.k,.k,.k,.k,.k,.k,.k,.k,.k,.k,.k,.k,.k,.k,.k,.k,.k,.k,.k,.k,.k,.k,.k,.k,.k,.k,.k,.k,.k,.k,.k,.k,.k,.k,.k,.k,.k,.k,.k,.k,.k,.k,.k,.k,.k,.k,.k,.k,.k,.k,.k,.k,.k,.k,.k,.k,.k,.k,.k,.k,.k,.k,.k,.k,.k,.k,.k,.k,.k,.k,.k,.k,.k,.k]) (fun k=>[.box false [.i .i64 (t).kind,.i .i64 (t).n,.s (t).text,.s (t).sort,.sl ((t).kids.flatMap aA) (t).kids.length,.sl ((t).rest.flatMap aA) (t).rest.length]]) (fun k=>k≤t.kids.length∧∀ j,j < k→mG s (t.kids.getD j default)=true) (fun k=>t.kids.length - k) (0) _ ⟨aF _,fun j h=>by omega⟩ rfl (by simp [fD]) ?_
   rintro k g j ⟨hk,ha⟩
   have o:k < t.kids.length→CT 100 [dD s,elT (t.kids.getD k default)] (.b (mG s (t.kids.getD k default))):=fun h=>ih _ (bE h)
   refine zg ?_
   (refine zt1 o ?_; repeat' first | exact trivial | refine zJ ?_ ?_ | refine zH fun hc=>?_)
   · exact aG (by rw [e,wG k (by omega) hc,Bool.false_and]) rfl
   · exact ⟨k+1,_,⟨by omega,bK ha hc⟩,by omega,rfl,by simp⟩
   · rw [oJ (fun j hj=>ha j (by omega)),Bool.true_and,if_pos hc] at e
     have c1:=bKq s t.text
     cases h1:N2 s t.text with
     | none=>
       rw [h1] at c1
       simp only [B6,h1] at e
       (repeat' (first | refine gT ?_ ?_ | refine gF ?_ ?_ | refine gC ?_ ?_ | ((refine aY (c1) ?_ ?_; (focus (simp -implicitDefEqProofs (disch:=omega) only [rF,dD,zdB,go_sem,simprocAttr]; done))); simp -implicitDefEqProofs (disch:=omega) only [rF,dD,go_sem,simprocAttr]) | refine aK (by omega) ?_ | (intro hr; have hc:=hr; (try simp only [zdz] at hc); simp -implicitDefEqProofs (disch:=omega) only [hr,rF,dD,go_sem,simprocAttr]; (try clear hr))))
       all_goals exact aG (by rw [e]) rfl
     | some q=>
       rw [h1] at c1
       simp only [B6,h1] at e
       (repeat' (first | refine gT ?_ ?_ | refine gF ?_ ?_ | refine gC ?_ ?_ | ((refine aY (c1) ?_ ?_; (focus (simp -implicitDefEqProofs (disch:=omega) only [rF,dD,zdB,go_sem,simprocAttr]; done))); simp -implicitDefEqProofs (disch:=omega) only [rF,dD,go_sem,simprocAttr]) | refine aK (by omega) ?_ | (intro hr; have hc:=hr; (try simp only [zdz] at hc); simp -implicitDefEqProofs (disch:=omega) only [hr,rF,dD,go_sem,simprocAttr]; (try clear hr))))
       · have hn:¬ q.args.length=t.kids.length:=by omega
         rw [zf hn,Bool.false_and] at e
         exact aG (by rw [e]) rfl
       have hn:q.args.length=t.kids.length:=by omega
       rw [zt hn,Bool.true_and] at e
       refine fJ (fun (k:Nat)=>[.k,.k,.k,.k,.j,.k,.k,.k,.k,.j,.j,.k,.k,.k,.k,.k,.k,.k,.k,.k,.k,.k,.k,.k,.k,.k,.k,.k,.k,.k,.k,.k,.k,.k,.k,.k,.k,.k,.k,.k,.k,.k,.k,.k,.k,.k,.k,.k,.k,.k,.k,.k,.k,.k,.k,.k,.k,.k,.v (.i .i64 (k:Nat)),.j,.j,.j,.j,.j,.j,.j,.j,.j,.j,.j,.j,.j,.j,.j,.j,.k,.k,.k,.k,.k,.k,.k,.k,.k,.k,.k,.k,.k,.k,.k,.k,.k,.k,.k,.k,.k,.k,.k,.k,.k,.k,.k,.k,.k,.k,.k,.k,.k,.k,.k]) (fun k=>(.box false [.i .i64 (t).kind,.i .i64 (t).n,.s (t).text,.s (t).sort,.sl ((t).kids.flatMap aA) (t).kids.length,.sl ((t).rest.flatMap aA) (t).rest.length]::(g++[.box false (aI q)]))) (fun k=>k≤t.kids.length∧∀ j,j < k→jE s (iL s (t.kids.getD j default)) (q.args.getD j [])=true) (fun k=>t.kids.length - k) (0) [] ⟨aF _,fun j h=>by omega⟩ (by simp [avs,avb,avi,avo,aI,bB]) (by simp [fD]) ?_
       rintro kk g2 j2 ⟨hkk,ha2⟩
       refine zg ?_
       (refine zt2 (aQo s (t.kids.getD kk default)) (aWj s (iL s (t.kids.getD kk default)) (q.args.getD kk []) hs) ?_; repeat' first | exact trivial | refine zJ ?_ ?_ | refine zH fun hc=>?_)
       · exact aG (by rw [e,gW kk (by omega) hc]) rfl
       · exact ⟨kk+1,_,⟨by omega,bK ha2 hc⟩,by omega,rfl,by simp⟩
       · exact aG (by rw [e,kL (fun j hj=>ha2 j (by omega))]) rfl
   · rw [oJ (fun j hj=>ha j (by omega)),Bool.true_and,if_neg (by assumption),if_pos hc] at e
     refine bQ (fun (i:Nat)=>[.k,.k,.k,.k,.j,.k,.k,.k,.k,.k,.k,.v (.i .i64 ((2 * i:Nat):Int)),.k,.k,.k,.k,.k,.k,.k,.k,.k,.k,.k,.k,.k,.k,.k,.k,.k,.k,.k,.k,.k,.k,.k,.k,.k,.k,.k,.k,.k,.k,.k,.k,.k,.k,.k,.k,.k,.k,.k,.k,.k,.k,.k,.k,.k,.k,.k,.k,.k,.k,.k,.k,.k,.k,.k,.k,.k,.k,.k,.k,.k,.k,.k,.k,.k,.j,.j,.j,.j,.j,.j,.j,.j,.j,.j,.j,.j,.j,.j,.j,.j,.j,.j,.j,.j,.j,.j,.j,.j,.j,.j,.j,.j,.j,.j,.j,.j,.j]) (fun i=>(.box false [.i .i64 (t).kind,.i .i64 (t).n,.s (t).text,.s (t).sort,.sl ((t).kids.flatMap aA) (t).kids.length,.sl ((t).rest.flatMap aA) (t).rest.length]::g)) (fun i=>2 * i≤t.kids.length+1∧∀ j,j < i→wY G3 t j=true) (fun i=>t.kids.length+1 - 2 * i) (0) ⟨aF _,fun j h=>by omega⟩ rfl (by simp [fD]) ?_
     rintro i j2 ⟨hi,ha2⟩
     have h0:(((2 * i:Nat):Int) - 2).toNat=2 * i - 2:=by omega
     have o1:2 * i < t.kids.length→OkT (t.kids.getD (2 * i) default):=fun h=>ht.kid _ (bE h)
     have o2:2 * i < t.kids.length→OkT (t.kids.getD (2 * i - 2) default):=fun h=>ht.kid _ (bE (by omega))
     refine zh h0 ?_
     (repeat' (first | refine gT ?_ ?_ | refine gF ?_ ?_ | refine gC ?_ ?_ | ((first | refine cF (aQn (t.kids.getD (2 * i) default)) ?_ | refine cF (bMk (t.kids.getD (2 * i - 2) default) (t.kids.getD (2 * i) default) (o2 (by omega)) (o1 (by omega))) ?_); simp -implicitDefEqProofs (disch:=omega) only [h0,go_sem,simprocAttr]) | refine aK (by omega) ?_ | (intro hr; have hc:=hr; (try simp only [zdz] at hc); simp -implicitDefEqProofs (disch:=omega) only [hr,h0,go_sem,simprocAttr]; (try clear hr))))
     · exact aG (by rw [e,rC,gW i (by omega) (aFr (by assumption) hc)]) rfl
     · exact ⟨i+1,⟨by omega,bK ha2 (Y0 (by assumption) hc)⟩,by omega,by rw [show ((2 * (i+1):Nat):Int)=((2 * i:Nat):Int)+2 by omega]⟩
     · exact ⟨i+1,⟨by omega,bK ha2 (aOv (by assumption) hc)⟩,by omega,by rw [show ((2 * (i+1):Nat):Int)=((2 * i:Nat):Int)+2 by omega]⟩
     · exact aG (by rw [e,rC,gW i (by omega) (Y1 hc)]) rfl
     · exact aG (by rw [e,rC,kL (fun j hj=>ha2 j (by omega))]) rfl
   · rw [oJ (fun j hj=>ha j (by omega)),Bool.true_and,if_neg (by assumption),if_neg (by assumption)] at e
     exact aG (by rw [e]) rfl
   · exfalso; omega
theorem bMo (s:cI) (hs:Small s):∀ (t:LTerm),OkT t→CT 100 [dD s,elT t] (.b (mG s t)):=
 dK fun t hk _ ht=>aXi s t hs ht (fun k hm=>hk k hm (ht.kid k hm))
theorem aXh (s:cI) (t:LTerm) (hm:Small s) (hs:OkS s) (ht:OkT t) (ih:∀ k ∈ t.kids,CT 173 [.agg (bB s),elT k] (.b (pF s k))): CT 173 [.agg (bB s),elT t] (.b (pF s t)):=by
 refine aE mixed Tryz.func173 g0 ?_
 · skip
   have e:=V7 s t
   have er:decide ((t.rest.length:Int)=0)=decide (t.rest=[]):=by rw [cT]; simp
   have hk1:=ht.kids
   refine fJ (fun (k:Nat)=>[.k,.k,.k,.k,.j,.k,.j,.k,.k,.k,.k,.k,.k,.k,.k,.k,.k,.v (.i .i64 (k:Nat)),.j,.j,.j,.j,.j,.j,.j,.j,.k,.k,.k,.k,.k,.k,.k,.k,.k,.k,.k,.k,.k,.k,.k,.k,.k,.k,.k,.k,.k,.k,.k,.k,.k,.k,.k,.k,.k,.k,.k,.k,.k,.k,.k,.k,.k,.k,.k,.k,.k,.k,.k,.k,.k,.k,.k,.k,.k,.k,.k,.k,.k,.k,.k,.k,.k,.k,.k,.k,.k,.k,.k,.k,.k,.k,.k,.k,.k,.k,.k,.k,.k,.k,.k,.k,.k,.k,.k,.k,.k,.k,.k,.k,.k,.k,.k,.k,.k,.k,.k,.k]) (fun k=>[.box false (bB s),.box false [.i .i64 (t).kind,.i .i64 (t).n,.s (t).text,.s (t).sort,.sl ((t).kids.flatMap aA) (t).kids.length,.sl ((t).rest.flatMap aA) (t).rest.length]]) (fun k=>k≤t.kids.length∧∀ j,j < k→pF s (t.kids.getD j default)=true) (fun k=>t.kids.length - k) (0) _ ⟨aF _,fun j h=>by omega⟩ rfl (by simp [fD]) ?_
   rintro k g j ⟨hk,ha⟩
   have o:k < t.kids.length→CT 173 [.agg (bB s),elT (t.kids.getD k default)] (.b (pF s (t.kids.getD k default))):=fun h=>ih _ (bE h)
   refine zg ?_
   (refine zt1 o ?_; repeat' first | exact trivial | refine zJ ?_ ?_ | refine zH fun hc=>?_)
   · exact aG (by rw [e,wG k (by omega) hc,Bool.false_and,Bool.false_and]) rfl
   · exact ⟨k+1,_,⟨by omega,bK ha hc⟩,by omega,rfl,by simp⟩
   · rw [if_pos hc,Bool.and_false,Bool.false_and] at e
     exact aG (by rw [e]) rfl
   · rw [oJ (fun j hj=>ha j (by omega)),Bool.true_and,if_neg (by assumption),if_pos hc] at e
     have c1:Ctr _ _ _ _ (gR (N2 s t.text)):=aGt s.ops t.text hs.ops
     cases h1:N2 s t.text with
     | none=>
       rw [h1] at c1
       simp only [J1,h1] at e
       (repeat' (first | refine gT ?_ ?_ | refine gF ?_ ?_ | refine gC ?_ ?_ | ((refine aY (c1) ?_ ?_; (focus (simp -implicitDefEqProofs (disch:=omega) only [gR,zdB,go_sem,simprocAttr]; done))); simp -implicitDefEqProofs (disch:=omega) only [gR,go_sem,simprocAttr]) | refine aK (by omega) ?_ | (intro hr; have hc:=hr; (try simp only [zdz] at hc); simp -implicitDefEqProofs (disch:=omega) only [hr,gR,go_sem,simprocAttr]; (try clear hr))))
       all_goals exact aG (by rw [e]; rfl) rfl
     | some q=>
       rw [h1] at c1
       simp only [J1,h1] at e
       (repeat' (first | refine gT ?_ ?_ | refine gF ?_ ?_ | refine gC ?_ ?_ | ((refine aY (c1) ?_ ?_; (focus (simp -implicitDefEqProofs (disch:=omega) only [gR,zdB,go_sem,simprocAttr]; done))); simp -implicitDefEqProofs (disch:=omega) only [gR,go_sem,simprocAttr]) | refine aK (by omega) ?_ | (intro hr; have hc:=hr; (try simp only [zdz] at hc); simp -implicitDefEqProofs (disch:=omega) only [hr,gR,go_sem,simprocAttr]; (try clear hr))))
       · have hn:¬ q.args.length=t.kids.length:=by omega
         rw [zf hn,Bool.false_and,Bool.false_and] at e
         exact aG (by rw [e]) rfl
       have hn:q.args.length=t.kids.length:=by omega
       rw [zt hn,Bool.true_and] at e
       refine fJ (fun (k:Nat)=>[.k,.k,.k,.k,.j,.k,.k,.k,.k,.j,.j,.j,.j,.k,.k,.k,.k,.k,.k,.k,.k,.k,.k,.k,.k,.k,.k,.k,.k,.k,.k,.k,.k,.k,.k,.k,.k,.k,.k,.k,.k,.k,.k,.k,.k,.k,.k,.k,.k,.k,.k,.k,.k,.k,.v (.i .i64 (k:Nat)),.j,.j,.j,.j,.j,.j,.j,.j,.j,.j,.j,.j,.j,.j,.j,.j,.j,.j,.j,.j,.j,.j,.j,.j,.k,.k,.k,.k,.k,.k,.k,.k,.k,.k,.k,.k,.k,.k,.k,.k,.k,.k,.k,.k,.k,.k,.k,.k,.k,.k,.k,.k,.k,.k,.k,.k,.k,.k,.k,.k,.k,.k,.k]) (fun k=>(.box false (bB s)::.box false [.i .i64 (t).kind,.i .i64 (t).n,.s (t).text,.s (t).sort,.sl ((t).kids.flatMap aA) (t).kids.length,.sl ((t).rest.flatMap aA) (t).rest.length]::(g++[.box false (aI q)]))) (fun k=>k≤t.kids.length∧∀ j,j < k→((ofR s (t.kids.getD j default)).2 && qZ s (ofR s (t.kids.getD j default)).1 (q.args.getD j []))=true) (fun k=>t.kids.length - k) (0) [] ⟨aF _,fun j h=>by omega⟩ (by simp [avs,avb,avi,avo,aI,bB]) (by simp [fD]) ?_
       rintro kk g2 j2 ⟨hkk,ha2⟩
       refine zg ?_
       (refine zt2 (aGq s (t.kids.getD kk default) hs) (aWi s (ofR s (t.kids.getD kk default)).1 (q.args.getD kk []) hm) ?_; repeat' first | exact trivial | refine zJ ?_ ?_ | refine zH fun hc=>?_)
       · exact aG (by rw [e,gW kk (by omega) (by rw [hc,Bool.and_false]),Bool.false_and]) rfl
       · exact ⟨kk+1,_,⟨by omega,bK ha2 (by rw [hc,Bool.and_true]; assumption)⟩,by omega,rfl,by simp⟩
       · exact aG (by rw [e,gW kk (by omega) (by rw [hc,Bool.false_and]),Bool.false_and]) rfl
       · exact aG (by rw [e,kL (fun j hj=>ha2 j (by omega)),er,Bool.true_and]) rfl
   · rw [oJ (fun j hj=>ha j (by omega)),Bool.true_and,if_neg (by assumption),if_neg (by assumption),if_pos hc] at e
     refine bQ (fun (i:Nat)=>[.k,.k,.k,.k,.j,.k,.k,.k,.k,.k,.k,.k,.k,.v (.i .i64 ((2 * i:Nat):Int)),.k,.k,.k,.k,.k,.k,.k,.k,.k,.k,.k,.k,.k,.k,.k,.k,.k,.k,.k,.k,.k,.k,.k,.k,.k,.k,.k,.k,.k,.k,.k,.k,.k,.k,.k,.k,.k,.k,.k,.k,.k,.k,.k,.k,.k,.k,.k,.k,.k,.k,.k,.k,.k,.k,.k,.k,.k,.k,.k,.k,.k,.k,.k,.k,.k,.k,.k,.j,.j,.j,.j,.j,.j,.j,.j,.j,.j,.j,.j,.j,.j,.j,.j,.j,.j,.j,.j,.j,.j,.j,.j,.j,.j,.j,.j,.j,.j,.j,.j,.j,.k,.k,.k,.k]) (fun i=>(.box false (bB s)::.box false [.i .i64 (t).kind,.i .i64 (t).n,.s (t).text,.s (t).sort,.sl ((t).kids.flatMap aA) (t).kids.length,.sl ((t).rest.flatMap aA) (t).rest.length]::g)) (fun i=>2 * i≤t.kids.length+1∧∀ j,j < i→wY G6 t j=true) (fun i=>t.kids.length+1 - 2 * i) (0) ⟨aF _,fun j h=>by omega⟩ rfl (by simp [fD]) ?_
     rintro i j2 ⟨hi,ha2⟩
     have h0:(((2 * i:Nat):Int) - 2).toNat=2 * i - 2:=by omega
     have o1:2 * i < t.kids.length→OkT (t.kids.getD (2 * i) default):=fun h=>ht.kid _ (bE h)
     have o2:2 * i < t.kids.length→OkT (t.kids.getD (2 * i - 2) default):=fun h=>ht.kid _ (bE (by omega))
     refine zh h0 ?_
     (repeat' (first | refine gT ?_ ?_ | refine gF ?_ ?_ | refine gC ?_ ?_ | ((first | refine cF (bAr (t.kids.getD (2 * i) default)) ?_ | refine cF (bMh (t.kids.getD (2 * i - 2) default) (t.kids.getD (2 * i) default) (o2 (by omega)) (o1 (by omega))) ?_); simp -implicitDefEqProofs (disch:=omega) only [h0,go_sem,simprocAttr]) | refine aK (by omega) ?_ | (intro hr; have hc:=hr; (try simp only [zdz] at hc); simp -implicitDefEqProofs (disch:=omega) only [hr,h0,go_sem,simprocAttr]; (try clear hr))))
     · exact aG (by rw [e,rC,gW i (by omega) (aFr (by assumption) hc),Bool.false_and]) rfl
     · exact ⟨i+1,⟨by omega,bK ha2 (Y0 (by assumption) hc)⟩,by omega,by rw [show ((2 * (i+1):Nat):Int)=((2 * i:Nat):Int)+2 by omega]⟩
     · exact ⟨i+1,⟨by omega,bK ha2 (aOv (by assumption) hc)⟩,by omega,by rw [show ((2 * (i+1):Nat):Int)=((2 * i:Nat):Int)+2 by omega]⟩
     · exact aG (by rw [e,rC,gW i (by omega) (Y1 hc),Bool.false_and]) rfl
     · exact aG (by rw [e,rC,kL (fun j hj=>ha2 j (by omega)),er,Bool.true_and]) rfl
   · rw [oJ (fun j hj=>ha j (by omega)),Bool.true_and,if_neg (by assumption),if_neg (by assumption),if_neg (by assumption),Bool.true_and] at e
     exact aG (by rw [e,er]) rfl
theorem bMn (s:cI) (hm:Small s) (hs:OkS s):∀ (t:LTerm),OkT t→CT 173 [.agg (bB s),elT t] (.b (pF s t)):=
 dK fun t hk _ ht=>aXh s t hm hs ht (fun k hm=>hk k hm (ht.kid k hm))

theorem aQv {a b:Int}:qR a b=0↔a=b:=by
 rw [qR]; split
 · omega
 · split <;> omega
structure ZN (t:LTerm):Prop where
 a:t.kind=1∨t.kind=2→t.text=[]∧t.sort=[]∧t.kids=[]∧t.rest=[]
 b:t.kind=3∨t.kind=4→t.n=0∧t.sort=[]∧t.kids=[]∧t.rest=[]
 c:t.kind=5→t.n=0∧t.sort=[]∧t.rest=[]
 d:t.kind=6→t.n=0∧t.kids=[]∧t.rest=[]
 e:t.kind=7∨t.kind=8→t.n=0∧t.text=[]∧t.sort=[]
 f:1≤t.kind∧t.kind≤8
theorem pY {t:LTerm} {a b c d e:Bool} (h:eY t a b c d e=true):(a=false→t.n=0)∧(b=false→t.text=[])∧(c=false→t.sort=[])∧(d=false→t.kids=[])∧(e=false→t.rest=[]):=by
 simp only [eY,aC,bH,decide_eq_true_eq] at h
 obtain ⟨⟨⟨⟨h1,h2⟩,h3⟩,h4⟩,h5⟩:=h
 exact ⟨fun h=>h1.resolve_left (by simp [h]),fun h=>h2.resolve_left (by simp [h]),fun h=>h3.resolve_left (by simp [h]),fun h=>h4.resolve_left (by simp [h]),fun h=>h5.resolve_left (by simp [h])⟩
theorem aNy {t:LTerm} (h:cP t=true):ZN t:=by
 have two:∀ {x y:Bool},(x && y)=true→x=true∧y=true:=by simp
 unfold cP at h
 split at h
 · have z:=pY (two h).2
   exact ⟨fun _=>⟨z.2.1 rfl,z.2.2.1 rfl,z.2.2.2.1 rfl,z.2.2.2.2 rfl⟩,fun _=>by omega,fun _=>by omega,fun _=>by omega,fun _=>by omega,by omega⟩
 split at h
 · have z:=pY (two h).2
   exact ⟨fun _=>⟨z.2.1 rfl,z.2.2.1 rfl,z.2.2.2.1 rfl,z.2.2.2.2 rfl⟩,fun _=>by omega,fun _=>by omega,fun _=>by omega,fun _=>by omega,by omega⟩
 split at h
 · have z:=pY (two h).2
   exact ⟨fun _=>by omega,fun _=>⟨z.1 rfl,z.2.2.1 rfl,z.2.2.2.1 rfl,z.2.2.2.2 rfl⟩,fun _=>by omega,fun _=>by omega,fun _=>by omega,by omega⟩
 split at h
 · have z:=pY (two h).2
   exact ⟨fun _=>by omega,fun _=>⟨z.1 rfl,z.2.2.1 rfl,z.2.2.2.1 rfl,z.2.2.2.2 rfl⟩,fun _=>by omega,fun _=>by omega,fun _=>by omega,by omega⟩
 split at h
 · have z:=pY (two h).2
   exact ⟨fun _=>by omega,fun _=>by omega,fun _=>⟨z.1 rfl,z.2.2.1 rfl,z.2.2.2.2 rfl⟩,fun _=>by omega,fun _=>by omega,by omega⟩
 split at h
 · have z:eY t false true true false false=true:=by
     split at h
     · exact (two h).2
     · exact (two h).2
   have z:=pY z
   exact ⟨fun _=>by omega,fun _=>by omega,fun _=>by omega,fun _=>⟨z.1 rfl,z.2.2.2.1 rfl,z.2.2.2.2 rfl⟩,fun _=>by omega,by omega⟩
 split at h
 · have z:=pY (two h).2
   exact ⟨fun _=>by omega,fun _=>by omega,fun _=>by omega,fun _=>by omega,fun _=>⟨z.1 rfl,z.2.1 rfl,z.2.2.1 rfl⟩,by omega⟩
 split at h
 · have z:=pY (two h).2
   exact ⟨fun _=>by omega,fun _=>by omega,fun _=>by omega,fun _=>by omega,fun _=>⟨z.1 rfl,z.2.1 rfl,z.2.2.1 rfl⟩,by omega⟩
 · cases h
theorem aMl {t:LTerm} {so:Str} (h:mV t so=true):∀ r ∈ t.rest,ZN r∧r.kids=[]∧r.rest=[]:=by
 intro r hr
 simp only [mV,bH,aC,decide_eq_true_eq] at h
 rcases h with h | ⟨⟨⟨⟨h1,h2⟩,h3⟩,h4⟩,h5⟩
 · rw [List.length_eq_zero_iff] at h; rw [h] at hr; cases hr
 · obtain ⟨x,hx⟩:=rK.1 h1
   rw [hx] at hr h2 h5
   simp only [aU] at hr
   subst hr
   simp only [kO] at h2 h5
   have z:=pY h5
   exact ⟨⟨fun _=>by omega,fun _=>by omega,fun _=>by omega,fun _=>⟨z.1 rfl,z.2.2.2.1 rfl,z.2.2.2.2 rfl⟩,fun _=>by omega,by omega⟩,z.2.2.2.1 rfl,z.2.2.2.2 rfl⟩
theorem C0 {t:LTerm} (h:cP t=true):∀ r ∈ t.rest,ZN r∧r.kids=[]∧r.rest=[]:=by
 have two:∀ {x y:Bool},(x && y)=true→x=true∧y=true:=by simp
 have z:=aNy h
 intro r hr
 have hne:t.rest ≠ []:=fun e=>by rw [e] at hr; cases hr
 have h7:t.kind=7∨t.kind=8:=by
   rcases z.f with ⟨f1,f2⟩
   by_cases h1:t.kind=1∨t.kind=2
   · exact absurd (z.a h1).2.2.2 hne
   by_cases h3:t.kind=3∨t.kind=4
   · exact absurd (z.b h3).2.2.2 hne
   by_cases h5:t.kind=5
   · exact absurd (z.c h5).2.2 hne
   by_cases h6:t.kind=6
   · exact absurd (z.d h6).2.2 hne
   omega
 unfold cP at h
 rw [if_neg (by omega),if_neg (by omega),if_neg (by omega),if_neg (by omega),if_neg (by omega),if_neg (by omega)] at h
 split at h
 · exact aMl (two h).1 r hr
 · split at h
   · exact aMl (two (two h).1).1 r hr
   · cases h
inductive ZT:LTerm→Prop
 | mk {t:LTerm}:ZN t→(∀ k ∈ t.kids,ZT k)→(∀ k ∈ t.rest,ZT k)→ZT t
theorem mE {p:LTerm→Bool} {t:LTerm}:wfT p t=true↔p t=true∧∀ k ∈ t.kids,wfT p k=true:=by
 have hl:∀ l:List LTerm,wfL p l=true↔∀ k ∈ l,wfT p k=true:=by
   intro l
   induction l with
   | nil=>simp [wfL]
   | cons a l ih=>simp [wfL,ih]
 cases t
 rw [wfT,aC,hl]; rfl
theorem bBl:∀ t:LTerm,wfT cP t=true→ZT t:=
 dK fun t hk _ h=>by
   rw [mE] at h
   refine .mk (aNy h.1) (fun k hm=>hk k hm (h.2 k hm)) (fun r hr=>?_)
   have z:=C0 h.1 r hr
   exact .mk z.1 (fun k hm=>by rw [z.2.1] at hm; cases hm) (fun k hm=>by rw [z.2.2] at hm; cases hm)
theorem vY (a:Int):qR a a=0:=P2 rfl
theorem vX (a:Str):rI a a=0:=aDa rfl
theorem uZ:ordPL [] []=0:=by rw [ordPL]
theorem aBy:∀ (l m:List LTerm),(∀ a ∈ l,∀ b ∈ m,G6 a b=G3 a b)→ordRL l m=ordPL l m
 | [],[],_=>by rw [ordRL,ordPL]
 | [],_::_,_=>by rw [ordRL,ordPL]
 | _::_,[],_=>by rw [ordRL,ordPL]
 | a::l,b::m,h=>by
   rw [ordRL,ordPL,h a (by simp) b (by simp),aBy l m (fun x hx y hy=>h x (by simp [hx]) y (by simp [hy]))]
theorem bIy:∀ (a:LTerm),ZT a→∀ b,ZT b→G6 a b=G3 a b:=
 dK (Q := fun a=>ZT a→∀ b,ZT b→G6 a b=G3 a b) fun a hk hr ha b hb=>by
   obtain ⟨za,ka,ra⟩:=ha
   obtain ⟨zb,kb,rb⟩:=hb
   have e1:ordRL a.kids b.kids=ordPL a.kids b.kids:=aBy _ _ (fun x hx y hy=>hk x hx (ka x hx) y (kb y hy))
   have e2:ordRL a.rest b.rest=ordPL a.rest b.rest:=aBy _ _ (fun x hx y hy=>hr x hx (ra x hx) y (rb y hy))
   rw [aNm,aBx,e1,e2]
   by_cases h0:qR a.kind b.kind=0
   · rw [if_pos h0,if_pos h0]
     have h0:=aQv.1 h0
     by_cases h1:a.kind=1∨a.kind=2
     · obtain ⟨x1,x2,x3,x4⟩:=za.a h1
       obtain ⟨y1,y2,y3,y4⟩:=zb.a (by omega)
       rw [if_pos h1,x1,x2,x3,x4,y1,y2,y3,y4,vX,uZ]
       simp only [if_true]
       split
       · assumption
       · rfl
     rw [if_neg h1]
     by_cases h3:a.kind=3∨a.kind=4
     · obtain ⟨x1,x2,x3,x4⟩:=za.b h3
       obtain ⟨y1,y2,y3,y4⟩:=zb.b (by omega)
       rw [if_pos h3,x1,x2,x3,x4,y1,y2,y3,y4,vX,vY,uZ]
       simp only [if_true]
       split
       · assumption
       · rfl
     rw [if_neg h3]
     by_cases h6:a.kind=6
     · obtain ⟨x1,x3,x4⟩:=za.d h6
       obtain ⟨y1,y3,y4⟩:=zb.d (by omega)
       rw [if_pos h6,x1,x3,x4,y1,y3,y4,vY,uZ]
       simp only [if_true]
       split
       · split
         · assumption
         · rfl
       · rfl
     rw [if_neg h6]
     by_cases h5:a.kind=5
     · obtain ⟨x1,x3,x4⟩:=za.c h5
       obtain ⟨y1,y3,y4⟩:=zb.c (by omega)
       rw [if_pos h5,x1,x3,x4,y1,y3,y4,vY,vX,uZ]
       simp only [if_true]
       split
       · split
         · assumption
         · rfl
       · rfl
     rw [if_neg h5]
     have f:=za.f
     obtain ⟨x1,x3,x4⟩:=za.e (by omega)
     obtain ⟨y1,y3,y4⟩:=zb.e (by omega)
     rw [x1,x3,x4,y1,y3,y4,vY,vX]
     simp only [if_true]
   · rw [if_neg h0,if_neg h0]

def fY (s:cI) (t:LTerm):Bool:=gD cP t && mG s t
theorem aQq (s:cI) (t:LTerm) (hs:Small s) (ht:OkT t): CT 50 [dD s,elT t] (.b (fY s t)):=by
 refine aE mixed Tryz.func50 g0 ?_
 · skip
   (refine zt2 (aQp t ht) (bMo s hs t ht) ?_; repeat' first | exact trivial | refine zJ ?_ ?_ | refine zH fun hc=>?_)
   all_goals refine aG ?_ rfl
   all_goals simp only [fY, *,Bool.true_and,Bool.false_and]
theorem S7 {s:cI} (h:eN s=true):∀ o ∈ s.ops,aOx s o=true:=by
 simp only [eN,mU,nV,pA,aC,aR,decide_eq_true_eq] at h
 exact h.2.1.2
theorem aNq {s:cI} {o:LOp} (h:aOx s o=true):existsA s o.sort=true:=by
 simp only [aOx,opHead,aC,eM] at h
 simp [existsA,keysOf,h.1.1.1.1.1.2]
theorem aEz {s:cI} {x:Str} {o:LOp} (h:N2 s x=some o):o ∈ s.ops:=nT h
theorem jU {s:cI} {x:Str} (h:x ∈ gA):existsA s x=true:=by simp [existsA,keysOf,h]
theorem I4 {s:cI} {t:LTerm} (hv:eN s=true) (hz:1≤t.kind∧t.kind≤8) (hp:mG s t=true):ofR s t=(iL s t,true)∧existsA s (iL s t)=true:=by
 rw [uW] at hp
 simp only [aC,cG,decide_eq_false_iff_not] at hp
 obtain ⟨⟨⟨h6,_⟩,_⟩,ha⟩:=hp
 by_cases h5:t.kind=5
 · rw [if_pos h5,B6] at ha
   cases ho:N2 s t.text with
   | none=>rw [ho] at ha; cases ha
   | some o=>
     have e1:(called s t.text).1=o:=by rw [called,ho]
     have e2:(argsR2 s t.text).2=(o.sort,true):=by rw [argsR2,ho]
     simp only [iL,ofR,h5,Int.reduceEq,if_true,if_false,e1,e2,true_and]
     exact aNq (S7 hv o (aEz ho))
 · simp only [iL,ofR]
   split
   · exact ⟨rfl,jU (by decide)⟩
   split
   · exact ⟨rfl,jU (by decide)⟩
   split
   · exact ⟨rfl,jU (by decide)⟩
   split
   · exact ⟨rfl,jU (by decide)⟩
   split
   · exact ⟨rfl,jU (by decide)⟩
   split
   · exact ⟨rfl,jU (by decide)⟩
   · omega
theorem all_congr {l:List LTerm} {f g:LTerm→Bool} (h:∀ x ∈ l,f x=g x):l.all f=l.all g:=by
 induction l with
 | nil=>rfl
 | cons a l ih=>rw [dH,dH,h a (by simp),ih (fun x hx=>h x (by simp [hx]))]
theorem xG {n:Nat} {f g:Nat→Bool} (h:∀ j,j < n→f j=g j):H4 n f=H4 n g:=by
 rw [cT,lK,lK]
 exact ⟨fun a j hj=>h j hj ▸ a j hj,fun a j hj=>(h j hj).symm ▸ a j hj⟩
theorem aOu {t:LTerm} (h:∀ k ∈ t.kids,ZT k):rC G6 t=rC G3 t:=by
 refine xG fun j hj=>?_
 have e:G6 (t.kids.getD (2 * j - 2) default) (t.kids.getD (2 * j) default)=G3 (t.kids.getD (2 * j - 2) default) (t.kids.getD (2 * j) default):=bIy _ (h _ (bE (by omega))) _ (h _ (bE (by omega)))
 rw [wY,wY,e]
theorem aUf {s:cI} (hv:eN s=true):∀ t:LTerm,wfT cP t=true→pF s t=mG s t:=
 dK (Q := fun t=>wfT cP t=true→pF s t=mG s t) fun t hk _ hw=>by
   have hw':=mE.1 hw
   have z:=bBl t hw
   have e:t.kids.all (pF s)=t.kids.all (mG s):=all_congr fun x hx=>hk x hx (hw'.2 x hx)
   rw [V7,uW,e]
   rcases gM (t.kids.all (mG s)) with ha | ha
   · rw [ha,Bool.true_and,Bool.and_true]
     by_cases h6:t.kind=6
     · rw [if_pos h6,zt h6]; rfl
     rw [if_neg h6,zf h6,Bool.not_false,Bool.true_and]
     by_cases h5:t.kind=5
     · rw [if_pos h5,if_pos h5]
       have e5:J1 s t=B6 s t:=by
         rw [J1,B6]
         cases ho:N2 s t.text with
         | none=>rfl
         | some o=>
           dsimp only
           congr 1
           refine xG fun j hj=>?_
           have hm:t.kids.getD j default ∈ t.kids:=bE hj
           have zk:=bBl _ (hw'.2 _ hm)
           obtain ⟨q1,q2⟩:=I4 hv (by cases zk with | mk a _ _=>exact a.f) (aR.1 ha _ hm)
           rw [q1,Bool.true_and]
           exact yQ q2
       rw [e5,Bool.and_comm]
     rw [if_neg h5,if_neg h5]
     by_cases h8:t.kind=8
     · rw [if_pos h8,if_pos h8,aOu (by cases z with | mk _ b _=>exact b),Bool.and_comm]
     · rw [if_neg h8,if_neg h8,Bool.and_comm]
   · rw [ha]; simp
theorem pZ {t:LTerm} (h:gD cP t=true):wfT cP t=true:=by
 simp only [gD,aC] at h; exact h.1.1
theorem bMs (s:cI) (t:LTerm) (hm:Small s) (hs:OkS s) (hv:eN s=true) (ht:OkT t): CT 108 [.agg (bB s),elT t] (.b (fY s t)):=by
 refine aE mixed Tryz.func108 g0 ?_
 · skip
   (refine zt2 (bAq t ht) (bMn s hm hs t ht) ?_; repeat' first | exact trivial | refine zJ ?_ ?_ | refine zH fun hc=>?_)
   all_goals refine aG ?_ rfl
   · rw [fY,hc,aUf hv t (pZ hc),Bool.true_and]
   · rw [fY,hc,Bool.false_and]
theorem aIt {s:cI} {t:LTerm} (h:fY s t=true):1≤t.kind∧t.kind≤8:=by
 rw [fY,aC] at h
 have z:=bBl t (pZ h.1)
 cases z with | mk a _ _=>exact a.f

theorem aZd {H g:List AObj} {out:AV} {l:List LTerm} (h:eP 6 0 g out (l.flatMap aA) l.length) (hH:H=g):Rd6 H out l:=by
 subst hH
 rcases h with ⟨rfl,hn,h0⟩ | ⟨i,rfl,hi,hl⟩
 · exact .inl ⟨rfl,List.length_eq_zero_iff.1 (by omega)⟩
 · refine .inr (.inr ⟨i+0,0,_,_,_,rfl,(by simpa using hi),by omega,?_⟩)
   rw [cS,aJ (by omega)]
theorem aZv {H:List AObj} {v:AV} {l:List LTerm} (r:Rd6 H v l):Fin H v (.sl (l.flatMap aA) l.length):=by
 have e:=bCm r
 have e1:nR H v (.sl (l.flatMap aA) l.length):=e.1
 have e2:bY v (.sl (l.flatMap aA) l.length)=[]:=e.2
 exact .inr ⟨e1,by rw [e2]; exact eS,by rw [e2]; simp⟩
theorem aIb {l:List LTerm} {k:Nat} (h:k < l.length):(l.take (k+1)).flatMap aA=(l.take k).flatMap aA++aA (l.getD k default):=by
 rw [eH (d:=default) h,dN]; simp
theorem gE {α:Type} {l:List α}:(List.replicate 1 l).flatten=l:=by simp
theorem aGo (l:List LTerm) (hl:l.length≤1466015503701) (ih:∀ t ∈ l,CT 44 [elT t] (elT t)): CT 78 [avt l] (avt l):=by
 refine cQ mixed Tryz.func78 g0 ?_
 · simp -implicitDefEqProofs (disch:=omega) only [Tryz.f78,go_sem,List.replicate,↓reduceIte,reduceAdd,reduceSub,reduceMul,reduceLeDiff,reduceLT,reduceEqDiff,reduceNeg,Nat.reduceBEq,avt]
   refine bQ (fun (s:Nat × AV × List AObj)=>[.k,.k,.k,.v (s.2.1),.k,.j,.k,.k,.v (.i .i64 (s.1:Nat)),.j,.j,.j,.j,.j,.j,.j,.j,.j,.k]) (fun s=>s.2.2) (fun s=>s.1≤l.length∧eP 6 0 s.2.2 s.2.1 ((l.take s.1).flatMap aA) s.1) (fun s=>l.length - s.1) ((0,.e0,[])) ⟨aF _,eR⟩ rfl (by simp [fD]) ?_
   rintro ⟨k,out,g⟩ j ⟨hk,ho⟩
   dsimp only at hk ho
   have o:k < l.length→CT 44 [elT (l.getD k default)] (elT (l.getD k default)):=fun h=>ih _ (bE h)
   refine zg ?_
   (repeat' (first | refine gT ?_ ?_ | refine gF ?_ ?_ | refine gC ?_ ?_ | ((refine aY ((o (by omega))) ?_ ?_; (focus (simp -implicitDefEqProofs (disch:=omega) only [gE,zdB,go_sem,↓reduceIte,reduceAdd,reduceSub,reduceMul,reduceLeDiff,reduceLT,reduceEqDiff,reduceNeg,Nat.reduceBEq]; done))); simp -implicitDefEqProofs (disch:=omega) only [gE,go_sem,↓reduceIte,reduceAdd,reduceSub,reduceMul,reduceLeDiff,reduceLT,reduceEqDiff,reduceNeg,Nat.reduceBEq]) | refine aK (by omega) ?_ | (intro hr; have hc:=hr; (try simp only [zdz] at hc); simp -implicitDefEqProofs (disch:=omega) only [hr,gE,go_sem,↓reduceIte,reduceAdd,reduceSub,reduceMul,reduceLeDiff,reduceLT,reduceEqDiff,reduceNeg,Nat.reduceBEq]; (try clear hr))))
   · refine eD (pre:=[]) (g:=g++[.box false [.i .i64 (l.getD k default).kind,.i .i64 (l.getD k default).n,.s (l.getD k default).text,.s (l.getD k default).sort,.sl ((l.getD k default).kids.flatMap aA) (l.getD k default).kids.length,.sl ((l.getD k default).rest.flatMap aA) (l.getD k default).rest.length]]) (more:=[.arr false 6 ([.i .i64 (l.getD k default).kind,.i .i64 (l.getD k default).n,.s (l.getD k default).text,.s (l.getD k default).sort,.sl ((l.getD k default).kids.flatMap aA) (l.getD k default).kids.length,.sl ((l.getD k default).rest.flatMap aA) (l.getD k default).rest.length])]) (news:=[.i .i64 (l.getD k default).kind,.i .i64 (l.getD k default).n,.s (l.getD k default).text,.s (l.getD k default).sort,.sl ((l.getD k default).kids.flatMap aA) (l.getD k default).kids.length,.sl ((l.getD k default).rest.flatMap aA) (l.getD k default).rest.length]) (m:=1) ((ho).more _) rfl (by simp -implicitDefEqProofs (disch:=omega) only [go_sem,↓reduceIte,reduceAdd,reduceSub,reduceMul,reduceLeDiff,reduceLT,reduceEqDiff,reduceNeg,Nat.reduceBEq]) bVc bTw bTy bVg rfl (by decide) (by simp -implicitDefEqProofs (disch:=omega) only [go_sem,↓reduceIte,reduceAdd,reduceSub,reduceMul,reduceLeDiff,reduceLT,reduceEqDiff,reduceNeg,Nat.reduceBEq]) (by simp -implicitDefEqProofs (disch:=omega) only [go_sem,↓reduceIte,reduceAdd,reduceSub,reduceMul,reduceLeDiff,reduceLT,reduceEqDiff,reduceNeg,Nat.reduceBEq]) ⟨by omega,by omega⟩ ?_
     intro out' g' ho' _
     refine zg ?_
     refine ⟨(k+1,out',g'),⟨by dsimp only; omega,?_⟩,by dsimp only; omega,rfl,by simp⟩
     dsimp only
     rw [aIb (by omega),aW]
     exact ho'
   · have h1:k=l.length:=by omega
     subst h1
     rw [iJ] at ho
     exact aZv (aZd ho rfl)
theorem aXj (t:LTerm) (ihk:CT 78 [avt t.kids] (avt t.kids)) (ihr:CT 78 [avt t.rest] (avt t.rest)): CT 44 [elT t] (elT t):=by
 refine aE mixed Tryz.func44 g0 ?_
 · skip
   (refine zt2 ihk ihr ?_; repeat' first | exact trivial | refine zJ ?_ ?_ | refine zH fun hc=>?_)
   all_goals exact aG rfl (by simp only [pers,persL,fE,dY])
theorem bMt:∀ (t:LTerm),OkT t→CT 44 [elT t] (elT t):=
 dK fun t hk hr ht=>aXj t (aGo t.kids ht.kids fun x hx=>hk x hx (ht.kid x hx)) (aGo t.rest ht.rest fun x hx=>hr x hx (ht.rst x hx))
end Go.Proofs.YtifefbhllfdmlaaGreatDoor
