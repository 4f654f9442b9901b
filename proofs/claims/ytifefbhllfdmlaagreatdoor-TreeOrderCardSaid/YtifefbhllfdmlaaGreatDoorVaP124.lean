/-
  What functions of the chapter return, as plain functions of what they are given; no condition beyond those that each theorem names.
-/
import Derived.Test.YtifefbhllfdmlaaGreatDoorVaP123
import Derived.Test.YtifefbhllfdmlaaGreatDoorVoP127
import Derived.Test.YtifefbhllfdmlaaGreatDoorSoP122
set_option maxRecDepth 100000
set_option linter.unusedSimpArgs false
set_option linter.unusedVariables false
set_option maxHeartbeats 4000000
namespace Go.Proofs.YtifefbhllfdmlaaGreatDoor
open Go Go.Vo
open Nat (reduceAdd reduceSub reduceMul reduceLeDiff reduceLT reduceEqDiff)
open Int (reduceNeg)

def uX (n:Nat) (h h':List AObj):Prop:=∀ (i:Nat) (z:List AV),n≤i→h[i]? = some (.box false z)→h'[i]? = some (.box false z)
theorem uX.trans {n:Nat} {a b c:List AObj} (x:uX n a b) (y:uX n b c):uX n a c:=fun i z hi h=>y i z hi (x i z hi h)
theorem uX.app (n:Nat) (h m:List AObj):uX n h (h++m):=fun i z _ x=>by rw [aC (aK x)]; exact x
abbrev WalkC {α:Type} (n:Nat) (R:α→List AObj→Prop) (h:List AObj) (b:α):AV→List AObj→Prop:=fun r h'=>r=.tup []∧R b h'∧uX n h h'
structure bBw {α:Type} (F:FuncId) (capt:List AV) (n:Nat) (R:α→List AObj→Prop) (φ:LTerm × Int→α→α) (P:α→List (LTerm × Int)→Prop):Prop where
 app:∀ a h z,R a h→R a (h++z)
 len:∀ a h,R a h→n≤h.length
 ok:∀ a v l h,P a (v::l)→OkT v.1→R a h→(0≤v.2∧v.2≤1000∧v.1.kids.length+v.1.rest.length≤1000000)∧P (φ v a) l∧ACalls Tryz.prog G0 F (elT v.1::.i .i64 v.2::capt) h (WalkC n R h (φ v a))
theorem bBw.all {α:Type} {F:FuncId} {capt:List AV} {n:Nat} {R:α→List AObj→Prop} {φ:LTerm × Int→α→α} {P:α→List (LTerm × Int)→Prop} (V:bBw F capt n R φ P) (a0:α) (h0:List AObj) (hh:∀ a,∃ h,R a h) {m:List (LTerm × Int)}:∀ {l:List (LTerm × Int)} {a:α},P a (l++m)→(∀ v ∈ l,OkT v.1)→P (L9 φ a l) m
 | [],a,h,_=>h
 | v::l,a,h,ho=>by
   obtain ⟨h1,r1⟩:=hh a
   exact V.all a0 h0 hh (l:=l) (V.ok a v _ h1 h (ho v (by simp)) r1).2.1 (fun x hx=>ho x (by simp [hx]))
theorem bCr {α:Type} {F:FuncId} {capt:List AV} {n:Nat} {R:α→List AObj→Prop} {φ:LTerm × Int→α→α} {P:α→List (LTerm × Int)→Prop} (V:bBw F capt n R φ P) (hh:∀ a,∃ h,R a h) (t:LTerm) (d:Int) (a:α) (m:List (LTerm × Int)) (h:List AObj) (ht:OkT t) (hR:R a h) (hP:P a (vis t d++m)) (ih:∀ k ∈ t.kids++t.rest,∀ (d:Int) (a:α) (m:List (LTerm × Int)) (h:List AObj),R a h→P a (vis k d++m)→ACalls Tryz.prog G0 128 [elT k,.i .i64 d,.fn F [] capt] h (WalkC n R h (L9 φ a (vis k d)))): ACalls Tryz.prog G0 128 [elT t,.i .i64 d,.fn F [] capt] h (WalkC n R h (L9 φ a (vis t d))):=by
 refine hJ (rx:=false) (th:=fun _=>none) mixed Tryz.func128 ?_
 · simp -implicitDefEqProofs (disch:=omega) only [Tryz.f128,go_sem,List.replicate,simprocAttr]
   rw [C9,aU] at hP
   obtain ⟨⟨hd0,hd,hlen⟩,hP2,cv⟩:=V.ok a (t,d) _ (h++[.box false [.i .i64 (t).kind,.i .i64 (t).n,.s (t).text,.s (t).sort,.sl ((t).kids.flatMap aE) (t).kids.length,.sl ((t).rest.flatMap aE) (t).rest.length]]) hP ht (V.app _ _ _ hR)
   have hn:=V.len _ _ hR
   dsimp only at hd0 hd hlen hP2 cv
   have hr:L9 φ a (vis t d)=L9 φ (φ (t,d) a) (visL (t.kids++t.rest) (d+1)):=by rw [C9]; rfl
   rw [hr]
   have hoL:∀ x ∈ t.kids++t.rest,OkT x:=fun x hx=>by
     rcases bN.1 hx with hx | hx
     · exact ht.kid x hx
     · exact ht.rst x hx
   have c:CT 189 [.sl [avt t.kids,avt t.rest] 2] (avt (t.kids++t.rest)):=by
     have:=bGm [t.kids,t.rest] (by simp) (by simp [M0]; omega)
     simpa using this
   have hLl:(t.kids++t.rest).length≤1000000:=by rw [aG]; exact hlen
   simp only [elT,bT,avt] at cv
   generalize t.kids++t.rest=L at *
   generalize φ (t,d) a=a1 at *
   (refine zs0 ?_; repeat' first | exact trivial | refine zJ ?_ ?_ | refine zH fun hc=>?_)
   refine gB cv ?_
   rintro r h1 ⟨rfl,hR1,hs1⟩
   have hb:h1[h.length]? = some (.box false [.i .i64 (t).kind,.i .i64 (t).n,.s (t).text,.s (t).sort,.sl ((t).kids.flatMap aE) (t).kids.length,.sl ((t).rest.flatMap aE) (t).rest.length]):=hs1 _ _ hn (by simp)
   have hsg:uX n h h1:=(uX.app n h _).trans hs1
   refine zh hb ?_
   (refine zy1 hb c ?_; repeat' first | exact trivial | refine zJ ?_ ?_ | refine zH fun hc=>?_)
   have hite:∀ (c:Bool) (k:Nat) (x:List AV),∃ z,(if c=true then h1++[AObj.arr false k x] else h1++[AObj.arr true k x])=h1++[z]:=fun c k x=>by cases c <;> exact ⟨_,rfl⟩
   obtain ⟨z,hz⟩:=hite ((List.flatMap aE L).isEmpty && L.length == 0) 1 [.sl (t.kids.flatMap aE) t.kids.length,.sl (t.rest.flatMap aE) t.rest.length]
   rw [hz]
   refine dD (fun (s:Nat × α × List AObj)=>[.k,.k,.k,.k,.k,.k,.k,.j,.k,.k,.k,.k,.k,.k,.k,.k,.k,.k,.k,.v (.i .i64 (s.1:Nat)),.j,.j,.j,.j,.j,.j,.j,.j,.j]) (fun s=>s.2.2) (fun s=>s.1≤L.length∧P s.2.1 (visL (L.drop s.1) (d+1)++m)∧L9 φ a1 (visL L (d+1))=L9 φ s.2.1 (visL (L.drop s.1) (d+1))∧R s.2.1 s.2.2∧uX n h s.2.2) (fun s=>L.length - s.1) ((0,a1,h1++[z])) ⟨aT _,hP2,rfl,V.app _ _ _ hR1,hsg.trans (.app _ _ _)⟩ rfl (by simp [iL]) ?_
   rintro ⟨k,a2,h2⟩ j ⟨hk,hPk,he,hR2,hs2⟩
   dsimp only at hk hPk he hR2 hs2
   by_cases hlt:k < L.length
   · have hki:(k:Int) < ((L.length:Nat):Int):=by omega
     rw [aHo hlt,bW] at hPk
     rw [aHo hlt,W5] at he
     have hmm:=cC (d:=default) hlt
     have ci:=ih _ hmm (d+1) a2 _ (h2++[.box false [.i .i64 (L.getD k default).kind,.i .i64 (L.getD k default).n,.s (L.getD k default).text,.s (L.getD k default).sort,.sl ((L.getD k default).kids.flatMap aE) (L.getD k default).kids.length,.sl ((L.getD k default).rest.flatMap aE) (L.getD k default).rest.length]]) (V.app _ _ _ hR2) hPk
     simp only [elT,bT,avt] at ci
     refine zh (zt hki) ?_
     (refine zx0 (zt hki) ?_; repeat' first | exact trivial | refine zJ ?_ ?_ | refine zH fun hc=>?_)
     refine gB ci ?_
     rintro r h3 ⟨rfl,hR3,hs3⟩
     refine zg ?_
     refine ⟨(k+1,L9 φ a2 (vis (L.getD k default) (d+1)),h3),⟨by dsimp only; omega,?_,he,hR3,hs2.trans ((uX.app _ _ _).trans hs3)⟩,by dsimp only; omega,rfl,by simp⟩
     exact V.all a h hh hPk (bCu _ (hoL _ hmm) _)
   · have hki:¬ (k:Int) < ((L.length:Nat):Int):=by omega
     refine zh (zf hki) ?_
     (refine zx0 (zf hki) ?_; repeat' first | exact trivial | refine zJ ?_ ?_ | refine zH fun hc=>?_)
     rw [cK (by omega)] at he
     rw [he]
     exact ⟨rfl,hR2,hs2⟩
theorem aXd {α:Type} {F:FuncId} {capt:List AV} {n:Nat} {R:α→List AObj→Prop} {φ:LTerm × Int→α→α} {P:α→List (LTerm × Int)→Prop} (V:bBw F capt n R φ P) (hh:∀ a,∃ h,R a h):∀ (t:LTerm),OkT t→∀ (d:Int) (a:α) (m:List (LTerm × Int)) (h:List AObj),R a h→P a (vis t d++m)→ACalls Tryz.prog G0 128 [elT t,.i .i64 d,.fn F [] capt] h (WalkC n R h (L9 φ a (vis t d))):=
 fR fun t hk hr ht d a m h hR hP=>bCr V hh t d a m h ht hR hP fun k hm=>by
   rcases bN.1 hm with hm | hm
   · exact hk k hm (ht.kid k hm)
   · exact hr k hm (ht.rst k hm)

def bJi {α:Type} (_:α) (l:List (LTerm × Int)):Prop:=∀ v ∈ l,0≤v.2∧v.2≤1000∧v.1.kids.length+v.1.rest.length≤1000000
theorem aHp {α:Type} {a:α} {t:LTerm} (h:jQ nodeB t=true):bJi a (vis t 1++[]):=fun v hv=>(aHn h).2 v hv
theorem bKw (s:dF) (t:LTerm) (d:Int) (b:Bool) (x:AObj) (g:List AObj) (ht:OkT t): ACalls Tryz.prog G0 187 [elT t,.i .i64 d,.ptr 0 0,.ptr 2 0] (.box false [cU s]::x::.box false [.b b]::g) (fun r h'=>r=.tup []∧∃ z,h'=.box false [cU s]::x::.box false [.b (aSe s (t,d) b)]::(g++z)):=by
 refine hJ (rx:=false) (th:=fun _=>none) mixed Tryz.func187 ?_
 · simp -implicitDefEqProofs (disch:=omega) only [Tryz.f187,go_sem,List.replicate,simprocAttr]
   by_cases h5:t.kind=5
   · have e:aSe s (t,d) b=(b || (mX s t.text).2.1):=by simp [aSe,h5]
     rw [e]
     refine zh (zt h5) ?_
     (refine zy1 (zt h5) (aMo s t.text) ?_; repeat' first | exact trivial | refine zJ ?_ ?_ | refine zH fun hc=>?_)
     all_goals
       subst_vars
       exact ⟨_,rfl⟩
   · have e:aSe s (t,d) b=b:=by simp [aSe,h5]
     rw [e]
     refine zh (zf h5) ?_
     (refine zx0 (zf h5) ?_; repeat' first | exact trivial | refine zJ ?_ ?_ | refine zH fun hc=>?_)
     all_goals exact ⟨_,rfl⟩
theorem S0 {a b c c':AObj} {g z:List AObj}:uX 3 (a::b::c::g) (a::b::c'::(g++z)):=fun i y hi h=>by
 match i,hi with
 | i+3,_=>
   simp only [cA] at h ⊢
   rw [aC (aK h)]; exact h
def HfR (s:dF) (x:AObj) (b:Bool) (h:List AObj):Prop:=∃ g,h=.box false [cU s]::x::.box false [.b b]::g
theorem bJr (s:dF) (x:AObj):bBw 187 [.ptr 0 0,.ptr 2 0] 3 (HfR s x) (aSe s) bJi:=by
 refine ⟨?_,?_,?_⟩
 · rintro b h z ⟨g,rfl⟩; exact ⟨g++z,rfl⟩
 · rintro b h ⟨g,rfl⟩; simp
 · rintro b ⟨t,d⟩ l h hP ho ⟨g,rfl⟩
   refine ⟨hP _ (by simp),fun v hv=>hP v (by simp [hv]),?_⟩
   refine (bKw s t d b x g ho).mono ?_
   rintro r h' ⟨rfl,z,rfl⟩
   exact ⟨rfl,⟨g++z,rfl⟩,S0⟩
theorem bFk (s:dF) (t:LTerm) (ht:OkT t) (hv:jQ nodeB t=true): CT 126 [cU s,elT t] (.b (L9 (aSe s) false (vis t 1))):=by
 refine aQ mixed Tryz.func126 g0 ?_
 · skip
   have cw:=aXd (bJr s (.box false [.i .i64 (t).kind,.i .i64 (t).n,.s (t).text,.s (t).sort,.sl ((t).kids.flatMap aE) (t).kids.length,.sl ((t).rest.flatMap aE) (t).rest.length])) (fun a=>⟨_,[],rfl⟩) t ht 1 false [] _ ⟨[],rfl⟩ (aHp (a:=false) hv)
   simp only [elT,bT,avt] at cw
   (refine zs0 ?_; repeat' first | exact trivial | refine zJ ?_ ?_ | refine zH fun hc=>?_)
   refine gB cw ?_
   rintro r h' ⟨rfl,⟨g,rfl⟩,_⟩
   refine zg ?_
   exact aP rfl rfl
theorem T2 {l:List LTerm} {k:Nat}:mG l (k+1)=(mG l k && bCf (l.getD (2 * k) default)):=by
 unfold mG aUd
 rw [List.range_succ,jZ]; simp
theorem bQh (t:LTerm) (d:Int) (b:Bool) (x y:AObj) (g:List AObj) (ht:OkT t) (hl:t.kids.length≤1000000): ACalls Tryz.prog G0 129 [elT t,.i .i64 d,.ptr 2 0] (x::y::.box false [.b b]::g) (fun r h'=>r=.tup []∧∃ z,h'=x::y::.box false [.b (bDq (t,d) b)]::(g++z)):=by
 refine hJ (rx:=false) (th:=fun _=>none) mixed Tryz.func129 ?_
 · simp -implicitDefEqProofs (disch:=omega) only [Tryz.f129,go_sem,List.replicate,simprocAttr]
   obtain ⟨q,hq⟩:∃ q,(b && !(decide (t.kind=6) && decide (t.text=[36])))=q:=⟨_,rfl⟩
   have e:bDq (t,d) b=(q && (!decide (t.kind=8) || mG t.kids ((t.kids.length+1) / 2))):=by
     rw [bDq,bDz,← hq,A5]
   rw [e]
   by_cases h8:t.kind=8
   · have h6:¬ t.kind=6:=by omega
     have hb:b=q:=by rw [← hq]; simp [h6]
     subst hb
     rw [zt h8,bX,dM]
     cases b
     · refine zh (zA2 (zt h8) (zf h6)) ?_
       refine dD (fun (s:Nat × List AObj)=>[.k,.k,.k,.k,.k,.v (.i .i64 ((2 * s.1:Nat):Int)),.j,.k,.k,.k,.k,.k,.k,.k,.k,.k,.k,.k,.k,.k,.k,.k,.j,.j,.j,.j,.j,.j,.j,.j,.j,.j,.j,.j,.j,.j,.j,.j,.j,.j,.j,.j,.j,.j,.j,.j,.j,.j,.j]) (fun s=>(x::y::.box false [.b (false && mG t.kids s.1)]::(g++(.box false [.i .i64 (t).kind,.i .i64 (t).n,.s (t).text,.s (t).sort,.sl ((t).kids.flatMap aE) (t).kids.length,.sl ((t).rest.flatMap aE) (t).rest.length]::s.2)))) (fun s=>s.1≤(t.kids.length+1) / 2) (fun s=>(t.kids.length+1) / 2 - s.1) ((0,[])) (aT _) rfl (by simp [iL]) ?_
       rintro ⟨k,z⟩ j hk
       dsimp only at hk
       have q0:=T2 (l:=t.kids) (k:=k)
       obtain ⟨v,hv⟩:∃ v,(false && mG t.kids k)=v:=⟨_,rfl⟩
       by_cases hlt:2 * k < t.kids.length
       · have hki:(((2 * k:Nat):Int) < ((t.kids.length:Nat):Int)):=by omega
         have hkey:(false && mG t.kids (k+1))=(v && bCf (t.kids.getD (2 * k) default)):=by rw [q0,← A5,hv]
         have hnx:(((2 * k:Nat):Int)+2)=((2 * (k+1):Nat):Int):=by omega
         refine zh (zA2 (zt hki) hv) ?_
         (refine zy1 (zA2 (zt hki) (zA2 hv hnx)) (aMp (t.kids.getD (2 * k) default)) ?_; repeat' first | exact trivial | refine zJ ?_ ?_ | refine zH fun hc=>?_)
         all_goals
           refine ⟨(k+1,z++[.box false [.i .i64 (t.kids.getD (2 * k) default).kind,.i .i64 (t.kids.getD (2 * k) default).n,.s (t.kids.getD (2 * k) default).text,.s (t.kids.getD (2 * k) default).sort,.sl ((t.kids.getD (2 * k) default).kids.flatMap aE) (t.kids.getD (2 * k) default).kids.length,.sl ((t.kids.getD (2 * k) default).rest.flatMap aE) (t.kids.getD (2 * k) default).rest.length]]),by dsimp only; omega,by dsimp only; omega,?_,by simp⟩
           try dsimp only
           try simp_all [bCf]
       · have hki:¬ (((2 * k:Nat):Int) < ((t.kids.length:Nat):Int)):=by omega
         have hke:k=(t.kids.length+1) / 2:=by omega
         subst hke
         refine zh (zf hki) ?_
         (refine zx0 (zf hki) ?_; repeat' first | exact trivial | refine zJ ?_ ?_ | refine zH fun hc=>?_)
         all_goals exact ⟨_,rfl⟩
     · refine zh (zA2 (zt h8) (zf h6)) ?_
       refine dD (fun (s:Nat × List AObj)=>[.k,.k,.k,.k,.k,.v (.i .i64 ((2 * s.1:Nat):Int)),.j,.k,.k,.k,.k,.k,.k,.k,.k,.k,.k,.k,.k,.k,.k,.k,.j,.j,.j,.j,.j,.j,.j,.j,.j,.j,.j,.j,.j,.j,.j,.j,.j,.j,.j,.j,.j,.j,.j,.j,.j,.j,.j]) (fun s=>(x::y::.box false [.b (true && mG t.kids s.1)]::(g++(.box false [.i .i64 (t).kind,.i .i64 (t).n,.s (t).text,.s (t).sort,.sl ((t).kids.flatMap aE) (t).kids.length,.sl ((t).rest.flatMap aE) (t).rest.length]::s.2)))) (fun s=>s.1≤(t.kids.length+1) / 2) (fun s=>(t.kids.length+1) / 2 - s.1) ((0,[])) (aT _) rfl (by simp [iL]) ?_
       rintro ⟨k,z⟩ j hk
       dsimp only at hk
       have q0:=T2 (l:=t.kids) (k:=k)
       obtain ⟨v,hv⟩:∃ v,(true && mG t.kids k)=v:=⟨_,rfl⟩
       by_cases hlt:2 * k < t.kids.length
       · have hki:(((2 * k:Nat):Int) < ((t.kids.length:Nat):Int)):=by omega
         have hkey:(true && mG t.kids (k+1))=(v && bCf (t.kids.getD (2 * k) default)):=by rw [q0,← A5,hv]
         have hnx:(((2 * k:Nat):Int)+2)=((2 * (k+1):Nat):Int):=by omega
         refine zh (zA2 (zt hki) hv) ?_
         (refine zy1 (zA2 (zt hki) (zA2 hv hnx)) (aMp (t.kids.getD (2 * k) default)) ?_; repeat' first | exact trivial | refine zJ ?_ ?_ | refine zH fun hc=>?_)
         all_goals
           refine ⟨(k+1,z++[.box false [.i .i64 (t.kids.getD (2 * k) default).kind,.i .i64 (t.kids.getD (2 * k) default).n,.s (t.kids.getD (2 * k) default).text,.s (t.kids.getD (2 * k) default).sort,.sl ((t.kids.getD (2 * k) default).kids.flatMap aE) (t.kids.getD (2 * k) default).kids.length,.sl ((t.kids.getD (2 * k) default).rest.flatMap aE) (t.kids.getD (2 * k) default).rest.length]]),by dsimp only; omega,by dsimp only; omega,?_,by simp⟩
           try dsimp only
           try simp_all [bCf]
       · have hki:¬ (((2 * k:Nat):Int) < ((t.kids.length:Nat):Int)):=by omega
         have hke:k=(t.kids.length+1) / 2:=by omega
         subst hke
         refine zh (zf hki) ?_
         (refine zx0 (zf hki) ?_; repeat' first | exact trivial | refine zJ ?_ ?_ | refine zH fun hc=>?_)
         all_goals exact ⟨_,rfl⟩
   · rw [zf h8,bY,bR,bS]
     (refine zx0 (zf h8) ?_; repeat' first | exact trivial | refine zJ ?_ ?_ | refine zH fun hc=>?_)
     all_goals
       refine ⟨[.box false [.i .i64 (t).kind,.i .i64 (t).n,.s (t).text,.s (t).sort,.sl ((t).kids.flatMap aE) (t).kids.length,.sl ((t).rest.flatMap aE) (t).rest.length]],?_⟩
       rw [← hq]
       simp_all

theorem aGb {m:List (Str × Str)} {x:Str} (h:B9 m x=none):((m.map (·.1)).findIdx? fun y=>decide (x=y))=none:=by
 rw [eM]
 intro y hy
 obtain ⟨p,hp,rfl⟩:=kF.1 hy
 unfold B9 at h
 rw [Option.map_eq_none_iff,List.find?_eq_none] at h
 simpa using h p hp
theorem aGa {m:List (Str × Str)} {x y:Str} (h:B9 m x=some y):∃ j,((m.map (·.1)).findIdx? fun z=>decide (x=z))=some j∧((m.map (·.2)).map AV.s)[j]? = some (.s y):=by
 induction m with
 | nil=>simp [B9] at h
 | cons p m ih=>
   unfold B9 at h
   rw [List.find?_cons] at h
   by_cases hx:x=p.1
   · rw [zt hx] at h
     simp only [cG,aA] at h
     exact ⟨0,by simp [eS,hx],by simp [h]⟩
   · rw [zf hx] at h
     obtain ⟨j,h1,h2⟩:=ih h
     refine ⟨j+1,?_,by simpa using h2⟩
     rw [aO,eS,zf hx,h1]; rfl
abbrev aOt (m:List (Str × Str)):AObj:=.map false ((m.map (·.1)).map .s) ((m.map (·.2)).map .s)
theorem bPx (t:LTerm) (d:Int) (m:List (Str × Str)) (tw:Str) (g:List AObj) (ht:OkT t) (hl:m.length≤1000000): ACalls Tryz.prog G0 188 [elT t,.i .i64 d,.ptr 0 0,.ptr 1 0] (.box false [.mp 2]::.box false [.s tw]::.map false ((m.map (·.1)).map .s) ((m.map (·.2)).map .s)::g) (fun r h'=>r=.tup []∧∃ z,h'=.box false [.mp 2]::.box false [.s (aIm (t,d) (m,tw)).2]::aOt (aIm (t,d) (m,tw)).1::(g++z)):=by
 refine hJ (rx:=false) (th:=fun _=>none) mixed Tryz.func188 ?_
 · simp -implicitDefEqProofs (disch:=omega) only [Tryz.f188,go_sem,List.replicate,simprocAttr]
   by_cases h6:t.kind=6
   · by_cases h95:t.text=[95]
     · have e:aIm (t,d) (m,tw)=(m,tw):=by rw [aIm,if_neg (by simp [isV,h95])]
       rw [e]
       refine zh (zA2 (zt h6) (zt h95)) ?_
       (refine zx0 (zA2 (zt h6) (zt h95)) ?_; repeat' first | exact trivial | refine zJ ?_ ?_ | refine zH fun hc=>?_)
       all_goals exact ⟨_,rfl⟩
     · have hv:isV t=true:=by simp [isV,h6,h95]
       rw [aIm,if_pos hv,bJx]
       dsimp only [bDr]
       cases hf:B9 m t.text with
       | none=>
         have k1:=aGb hf
         refine zh (zA2 (zt h6) (zA2 (zf h95) (zA2 @kE.eq_1 (zA2 @R9 @k1)))) ?_
         (refine zx0 (zA2 (zt h6) (zA2 (zf h95) (zA2 @kE.eq_1 (zA2 @R9 @k1)))) ?_; repeat' first | exact trivial | refine zJ ?_ ?_ | refine zH fun hc=>?_)
         all_goals exact ⟨[.box false [.i .i64 (t).kind,.i .i64 (t).n,.s (t).text,.s (t).sort,.sl ((t).kids.flatMap aE) (t).kids.length,.sl ((t).rest.flatMap aE) (t).rest.length]],by simp [aOt]⟩
       | some old=>
         obtain ⟨j,k1,k2⟩:=aGa hf
         refine zh (zA2 (zt h6) (zA2 (zf h95) (zA2 @kE.eq_1 (zA2 @R9 (zA2 @k1 @k2))))) ?_
         (refine zx0 (zA2 (zt h6) (zA2 (zf h95) (zA2 @kE.eq_1 (zA2 @R9 (zA2 @k1 @k2))))) ?_; repeat' first | exact trivial | refine zJ ?_ ?_ | refine zH fun hc=>?_)
         all_goals simp only [ne_eq,bytesLess_eq,decide_eq_true_eq,decide_eq_false_iff_not] at *
         all_goals by_cases hq:(¬ old=t.sort∧(tw=[]∨t.text < tw))
         all_goals simp only [hq,and_self,true_and,not_false_eq_true,if_true,if_false]
         all_goals first | exact ⟨_,rfl⟩ | (exfalso; simp_all; done) | exact absurd hq (fun q=>q.2.elim (fun e=>absurd (bO.2 e) (by assumption)) (fun e=>absurd e (by assumption)))
   · have e:aIm (t,d) (m,tw)=(m,tw):=by rw [aIm,if_neg (by simp [isV,h6])]
     rw [e]
     refine zh (zf h6) ?_
     (refine zx0 (zf h6) ?_; repeat' first | exact trivial | refine zJ ?_ ?_ | refine zH fun hc=>?_)
     all_goals exact ⟨_,rfl⟩
def SrR (r:List (Str × Str) × Str) (h:List AObj):Prop:=∃ g,h=.box false [.mp 2]::.box false [.s r.2]::aOt r.1::g
def SrP (r:List (Str × Str) × Str) (l:List (LTerm × Int)):Prop:=r.1.length+l.length≤1000000∧bJi () l
theorem aPl {v:LTerm × Int} {r:List (Str × Str) × Str}:(aIm v r).1.length≤r.1.length+1:=by
 unfold aIm bJx
 split
 · split
   · split <;> simp
   · simp
 · omega
theorem aFw {a b b' c c':AObj} {g z:List AObj}:uX 3 (a::b::c::g) (a::b'::c'::(g++z)):=fun i y hi h=>by
 match i,hi with
 | i+3,_=>
   simp only [cA] at h ⊢
   rw [aC (aK h)]; exact h
theorem bJp:bBw 188 [.ptr 0 0,.ptr 1 0] 3 SrR aIm SrP:=by
 refine ⟨?_,?_,?_⟩
 · rintro b h z ⟨g,rfl⟩; exact ⟨g++z,rfl⟩
 · rintro b h ⟨g,rfl⟩; simp
 · rintro ⟨m,tw⟩ ⟨t,d⟩ l h hP ho ⟨g,rfl⟩
   have h1:=hP.1
   have h2:=aPl (v:=(t,d)) (r:=(m,tw))
   rw [aD] at h1
   dsimp only at h1 h2
   refine ⟨hP.2 _ (by simp),⟨by omega,fun v hv=>hP.2 v (by simp [hv])⟩,?_⟩
   refine (bPx t d m tw g ho (by omega)).mono ?_
   rintro r h' ⟨rfl,z,rfl⟩
   exact ⟨rfl,⟨g++z,rfl⟩,aFw⟩
def uF (t:LTerm):List (Str × Str) × Str:=L9 aIm ([],[]) (vis t 1)
def aRd (m:List (Str × Str)):AV:=.mapv ((m.map (·.1)).map .s) ((m.map (·.2)).map .s)
theorem aPn {H:List AObj} {id:Nat} {fz:Bool} {ks vs:List Str} (h:H[id]? = some (.map fz (ks.map .s) (vs.map .s))):fU dep H (.mp id)=.mapv (ks.map .s) (vs.map .s):=by
 simp only [fS,pers,aH,if_false,qX,h,kY,if_true]
theorem bAg {H:List AObj} {id:Nat} {fz:Bool} {m:List (Str × Str)} {x:Str} (h:H[id]? = some (.map fz ((m.map (·.1)).map .s) ((m.map (·.2)).map .s))):Fin H (.tup [.mp id,.s x]) (.tup [aRd m,.s x]):=by
 refine .inr ⟨⟨?_,rfl,trivial⟩,?_,?_⟩
 · show aRd m=fU dep H (.mp id)
   rw [aPn h]; rfl
 · show List.Nodup []; exact fL
 · intro i hi; exact absurd hi (by show ¬ i ∈ []; simp)
theorem bFj (t:LTerm) (ht:OkT t) (hv:jQ nodeB t=true): CT 127 [avt [t]] (.tup [aRd (uF t).1,.s (uF t).2]):=by
 refine eD (rx:=true) (th:=fun i=>if i=7 then some ⟨none,[0],false,true,false,[],[],0⟩ else none) mixed Tryz.func127 g0 ?_
 · simp -implicitDefEqProofs (disch:=omega) only [Tryz.f127,go_sem,List.replicate,simprocAttr,avt]
   have hP:=aHn hv
   have hP':SrP ([],[]) (vis t 1++[]):=⟨by have:=hP.1; simp at this ⊢; omega,fun v hv=>hP.2 v hv⟩
   refine dD (fun (s:Nat × (List (Str × Str) × Str) × List AObj)=>[.k,.k,.k,.k,.k,.j,.k,.k,.k,.v (.i .i64 (s.1:Nat)),.j,.j,.j,.j,.j,.j,.j,.k,.k]) (fun s=>(.box false [.mp 2]::.box false [.s s.2.1.2]::aOt s.2.1.1::s.2.2)) (fun s=>s.1≤1∧(s.1=0→s.2.1=([],[]))∧(s.1=1→s.2.1=uF t)) (fun s=>1 - s.1) ((0,([],[]),[])) ⟨aT _,fun _=>rfl,fun h=>(by cases h)⟩ rfl (by simp [iL]) ?_
   rintro ⟨k,r,g⟩ j ⟨hk,h0,h1⟩
   dsimp only at hk h0 h1
   have h01:((0:Int) < ((1:Nat):Int))=True:=eq_true (by decide)
   have h11:(((1:Nat):Int) < ((1:Nat):Int))=False:=eq_false (by decide)
   rcases (by omega:k=0∨k=1) with rfl | rfl
   · obtain rfl:=h0 rfl
     have cw:=aXd bJp (fun a=>⟨_,[],rfl⟩) t ht 1 ([],[]) [] (.box false [.mp 2]::.box false [.s []]::aOt []::(g++[.box false [.i .i64 (t).kind,.i .i64 (t).n,.s (t).text,.s (t).sort,.sl ((t).kids.flatMap aE) (t).kids.length,.sl ((t).rest.flatMap aE) (t).rest.length]])) ⟨_,rfl⟩ hP'
     simp only [elT,bT,avt,aOt,bE] at cw
     refine zh (zA2 @aOt.eq_1 (zA2 @dL.{0,0} (zA2 @jC.{0,0} (zA2 @List.append_nil.{0} (zA2 @bT (zA2 @avt.eq_1 (zA2 h01 (zA2 @decide_true @bE.{0,0})))))))) ?_
     (refine zx0 (zA2 @aOt.eq_1 (zA2 @dL.{0,0} (zA2 @jC.{0,0} (zA2 @List.append_nil.{0} (zA2 @bT (zA2 @avt.eq_1 (zA2 h01 (zA2 @decide_true @bE.{0,0})))))))) ?_; repeat' first | exact trivial | refine zJ ?_ ?_ | refine zH fun hc=>?_)
     refine gB cw ?_
     rintro r h' ⟨rfl,⟨g',rfl⟩,_⟩
     refine zg ?_
     exact ⟨(1,uF t,g'),⟨aX _,fun h=>(by cases h),fun _=>rfl⟩,by simp,rfl,by simp⟩
   · obtain rfl:=h1 rfl
     refine zh (zA2 @aOt.eq_1 (zA2 h11 @decide_false)) ?_
     (refine zx0 (zA2 @aOt.eq_1 (zA2 h11 @decide_false)) ?_; repeat' first | exact trivial | refine zJ ?_ ?_ | refine zH fun hc=>?_)
     exact bAg rfl
end Go.Proofs.YtifefbhllfdmlaaGreatDoor
