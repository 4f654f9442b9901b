/-
  What functions of the chapter return, as plain functions of what they are given; no condition beyond those that each theorem names.
-/
import Derived.Test.YtifefbhllfdmlaaGreatDoorVaP83
import Derived.Test.YtifefbhllfdmlaaGreatDoorVoP87
import Derived.Test.YtifefbhllfdmlaaGreatDoorSoP82
set_option maxRecDepth 100000
set_option linter.unusedSimpArgs false
set_option linter.unusedVariables false
set_option maxHeartbeats 4000000
namespace Go.Proofs.YtifefbhllfdmlaaGreatDoor
open Go Go.Vo
open Nat (reduceAdd reduceSub reduceMul reduceLeDiff reduceLT reduceEqDiff)
open Int (reduceNeg)

def lR (n:Nat) (h h':List AObj):Prop:=∀ (i:Nat) (z:List AV),n≤i→h[i]? = some (.box false z)→h'[i]? = some (.box false z)
theorem lR.refl (n:Nat) (h:List AObj):lR n h h:=fun _ _ _ x=>x
theorem lR.trans {n:Nat} {a b c:List AObj} (x:lR n a b) (y:lR n b c):lR n a c:=fun i z hi h=>y i z hi (x i z hi h)
theorem lR.app (n:Nat) (h m:List AObj):lR n h (h++m):=fun i z _ x=>by rw [aD (aQ x)]; exact x
abbrev WalkC {α:Type} (n:Nat) (R:α→List AObj→Prop) (h:List AObj) (b:α):AV→List AObj→Prop:=fun r h'=>r=.tup []∧R b h'∧lR n h h'
structure bKf {α:Type} (F:FuncId) (capt:List AV) (n:Nat) (R:α→List AObj→Prop) (φ:LTerm × Int→α→α) (P:α→List (LTerm × Int)→Prop):Prop where
 app:∀ a h z,R a h→R a (h++z)
 len:∀ a h,R a h→n≤h.length
 ok:∀ a v l h,P a (v::l)→OkT v.1→R a h→(0≤v.2∧v.2≤1000∧v.1.kids.length+v.1.rest.length≤1000000)∧P (φ v a) l∧ACalls Tryz.prog G0 F (elT v.1::.i .i64 v.2::capt) h (WalkC n R h (φ v a))
theorem bKf.all {α:Type} {F:FuncId} {capt:List AV} {n:Nat} {R:α→List AObj→Prop} {φ:LTerm × Int→α→α} {P:α→List (LTerm × Int)→Prop} (V:bKf F capt n R φ P) (a0:α) (h0:List AObj) (hh:∀ a,∃ h,R a h) {m:List (LTerm × Int)}:∀ {l:List (LTerm × Int)} {a:α},P a (l++m)→(∀ v ∈ l,OkT v.1)→P (yG φ a l) m
 | [],a,h,_=>h
 | v::l,a,h,ho=>by
   obtain ⟨h1,r1⟩:=hh a
   exact V.all a0 h0 hh (l:=l) (V.ok a v _ h1 h (ho v (by simp)) r1).2.1 (fun x hx=>ho x (by simp [hx]))
theorem bLb {α:Type} {F:FuncId} {capt:List AV} {n:Nat} {R:α→List AObj→Prop} {φ:LTerm × Int→α→α} {P:α→List (LTerm × Int)→Prop} (V:bKf F capt n R φ P) (hh:∀ a,∃ h,R a h) (t:LTerm) (d:Int) (a:α) (m:List (LTerm × Int)) (h:List AObj) (ht:OkT t) (hR:R a h) (hP:P a (vis t d++m)) (ih:∀ k ∈ t.kids++t.rest,∀ (d:Int) (a:α) (m:List (LTerm × Int)) (h:List AObj),R a h→P a (vis k d++m)→ACalls Tryz.prog G0 128 [elT k,.i .i64 d,.fn F [] capt] h (WalkC n R h (yG φ a (vis k d)))): ACalls Tryz.prog G0 128 [elT t,.i .i64 d,.fn F [] capt] h (WalkC n R h (yG φ a (vis t d))):=by
 refine dF (rx:=false) (th:=fun _=>none) mixed Tryz.func128 ?_
 · simp -implicitDefEqProofs (disch:=omega) only [Tryz.f128,go_sem,List.replicate,simprocAttr]
   rw [mZ,bR] at hP
   obtain ⟨⟨hd0,hd,hlen⟩,hP2,cv⟩:=V.ok a (t,d) _ (h++[.box false [.i .i64 (t).kind,.i .i64 (t).n,.s (t).text,.s (t).sort,.sl ((t).kids.flatMap aC) (t).kids.length,.sl ((t).rest.flatMap aC) (t).rest.length]]) hP ht (V.app _ _ _ hR)
   have hn:=V.len _ _ hR
   dsimp only at hd0 hd hlen hP2 cv
   have hr:yG φ a (vis t d)=yG φ (φ (t,d) a) (visL (t.kids++t.rest) (d+1)):=by rw [mZ]; rfl
   rw [hr]
   have hoL:∀ x ∈ t.kids++t.rest,OkT x:=fun x hx=>by
     rcases bA.1 hx with hx | hx
     · exact ht.kid x hx
     · exact ht.rst x hx
   have c:CT 189 [.sl [avt t.kids,avt t.rest] 2] (avt (t.kids++t.rest)):=by
     have:=bQe [t.kids,t.rest] (by simp) (by simp [W4]; omega)
     simpa using this
   have hLl:(t.kids++t.rest).length≤1000000:=by rw [aE]; exact hlen
   simp only [elT,bC,avt] at cv
   generalize t.kids++t.rest=L at *
   generalize φ (t,d) a=a1 at *
   (refine zs0 ?_; repeat' first | exact trivial | refine zJ ?_ ?_ | refine zH fun hc=>?_)
   refine fI cv ?_
   rintro r h1 ⟨rfl,hR1,hs1⟩
   have hb:h1[h.length]? = some (.box false [.i .i64 (t).kind,.i .i64 (t).n,.s (t).text,.s (t).sort,.sl ((t).kids.flatMap aC) (t).kids.length,.sl ((t).rest.flatMap aC) (t).rest.length]):=hs1 _ _ hn (by simp)
   have hsg:lR n h h1:=(lR.app n h _).trans hs1
   refine zh hb ?_
   (refine zy1 hb c ?_; repeat' first | exact trivial | refine zJ ?_ ?_ | refine zH fun hc=>?_)
   have hite:∀ (c:Bool) (k:Nat) (x:List AV),∃ z,(if c=true then h1++[AObj.arr false k x] else h1++[AObj.arr true k x])=h1++[z]:=fun c k x=>by cases c <;> exact ⟨_,rfl⟩
   obtain ⟨z,hz⟩:=hite ((List.flatMap aC L).isEmpty && L.length == 0) 1 [.sl (t.kids.flatMap aC) t.kids.length,.sl (t.rest.flatMap aC) t.rest.length]
   rw [hz]
   refine bP (fun (s:Nat × α × List AObj)=>[.k,.k,.k,.k,.k,.k,.k,.j,.k,.k,.k,.k,.k,.k,.k,.k,.k,.k,.k,.v (.i .i64 (s.1:Nat)),.j,.j,.j,.j,.j,.j,.j,.j,.j]) (fun s=>s.2.2) (fun s=>s.1≤L.length∧P s.2.1 (visL (L.drop s.1) (d+1)++m)∧yG φ a1 (visL L (d+1))=yG φ s.2.1 (visL (L.drop s.1) (d+1))∧R s.2.1 s.2.2∧lR n h s.2.2) (fun s=>L.length - s.1) ((0,a1,h1++[z])) ⟨aG _,hP2,rfl,V.app _ _ _ hR1,hsg.trans (.app _ _ _)⟩ rfl (by simp [eN]) ?_
   rintro ⟨k,a2,h2⟩ j ⟨hk,hPk,he,hR2,hs2⟩
   dsimp only at hk hPk he hR2 hs2
   by_cases hlt:k < L.length
   · have hki:(k:Int) < ((L.length:Nat):Int):=by omega
     rw [xE hlt,bL] at hPk
     rw [xE hlt,aDe] at he
     have hmm:=aU (d:=default) hlt
     have ci:=ih _ hmm (d+1) a2 _ (h2++[.box false [.i .i64 (L.getD k default).kind,.i .i64 (L.getD k default).n,.s (L.getD k default).text,.s (L.getD k default).sort,.sl ((L.getD k default).kids.flatMap aC) (L.getD k default).kids.length,.sl ((L.getD k default).rest.flatMap aC) (L.getD k default).rest.length]]) (V.app _ _ _ hR2) hPk
     simp only [elT,bC,avt] at ci
     refine zh (zt hki) ?_
     (refine zx0 (zt hki) ?_; repeat' first | exact trivial | refine zJ ?_ ?_ | refine zH fun hc=>?_)
     refine fI ci ?_
     rintro r h3 ⟨rfl,hR3,hs3⟩
     refine zg ?_
     refine ⟨(k+1,yG φ a2 (vis (L.getD k default) (d+1)),h3),⟨by dsimp only; omega,?_,he,hR3,hs2.trans ((lR.app _ _ _).trans hs3)⟩,by dsimp only; omega,rfl,by simp⟩
     exact V.all a h hh hPk (bBx _ (hoL _ hmm) _)
   · have hki:¬ (k:Int) < ((L.length:Nat):Int):=by omega
     refine zh (zf hki) ?_
     (refine zx0 (zf hki) ?_; repeat' first | exact trivial | refine zJ ?_ ?_ | refine zH fun hc=>?_)
     rw [aY (by omega)] at he
     rw [he]
     exact ⟨rfl,hR2,hs2⟩
theorem bEx {α:Type} {F:FuncId} {capt:List AV} {n:Nat} {R:α→List AObj→Prop} {φ:LTerm × Int→α→α} {P:α→List (LTerm × Int)→Prop} (V:bKf F capt n R φ P) (hh:∀ a,∃ h,R a h):∀ (t:LTerm),OkT t→∀ (d:Int) (a:α) (m:List (LTerm × Int)) (h:List AObj),R a h→P a (vis t d++m)→ACalls Tryz.prog G0 128 [elT t,.i .i64 d,.fn F [] capt] h (WalkC n R h (yG φ a (vis t d))):=
 dO fun t hk hr ht d a m h hR hP=>bLb V hh t d a m h ht hR hP fun k hm=>by
   rcases bA.1 hm with hm | hm
   · exact hk k hm (ht.kid k hm)
   · exact hr k hm (ht.rst k hm)

def bTj {α:Type} (_:α) (l:List (LTerm × Int)):Prop:=∀ v ∈ l,0≤v.2∧v.2≤1000∧v.1.kids.length+v.1.rest.length≤1000000
theorem aNr {α:Type} {a:α} {t:LTerm} (h:fO nodeB t=true):bTj a (vis t 1++[]):=fun v hv=>(aDf h).2 v hv
theorem bUs (s:bZ) (t:LTerm) (d:Int) (b:Bool) (x:AObj) (g:List AObj) (ht:OkT t): ACalls Tryz.prog G0 187 [elT t,.i .i64 d,.ptr 0 0,.ptr 2 0] (.box false [cX s]::x::.box false [.b b]::g) (fun r h'=>r=.tup []∧∃ z,h'=.box false [cX s]::x::.box false [.b (aLx s (t,d) b)]::(g++z)):=by
 refine dF (rx:=false) (th:=fun _=>none) mixed Tryz.func187 ?_
 · simp -implicitDefEqProofs (disch:=omega) only [Tryz.f187,go_sem,List.replicate,simprocAttr]
   by_cases h5:t.kind=5
   · have e:aLx s (t,d) b=(b || (called s t.text).2.1):=by simp [aLx,h5]
     rw [e]
     refine zh (zt h5) ?_
     (refine zy1 (zt h5) (aSy s t.text) ?_; repeat' first | exact trivial | refine zJ ?_ ?_ | refine zH fun hc=>?_)
     all_goals
       subst_vars
       exact ⟨_,rfl⟩
   · have e:aLx s (t,d) b=b:=by simp [aLx,h5]
     rw [e]
     refine zh (zf h5) ?_
     (refine zx0 (zf h5) ?_; repeat' first | exact trivial | refine zJ ?_ ?_ | refine zH fun hc=>?_)
     all_goals exact ⟨_,rfl⟩
theorem aBg {a b c c':AObj} {g z:List AObj}:lR 3 (a::b::c::g) (a::b::c'::(g++z)):=fun i y hi h=>by
 match i,hi with
 | i+3,_=>
   simp only [dL] at h ⊢
   rw [aD (aQ h)]; exact h
def HfR (s:bZ) (x:AObj) (b:Bool) (h:List AObj):Prop:=∃ g,h=.box false [cX s]::x::.box false [.b b]::g
theorem bTs (s:bZ) (x:AObj):bKf 187 [.ptr 0 0,.ptr 2 0] 3 (HfR s x) (aLx s) bTj:=by
 refine ⟨?_,?_,?_⟩
 · rintro b h z ⟨g,rfl⟩; exact ⟨g++z,rfl⟩
 · rintro b h ⟨g,rfl⟩; simp
 · rintro b ⟨t,d⟩ l h hP ho ⟨g,rfl⟩
   refine ⟨hP _ (by simp),fun v hv=>hP v (by simp [hv]),?_⟩
   refine (bUs s t d b x g ho).mono ?_
   rintro r h' ⟨rfl,z,rfl⟩
   exact ⟨rfl,⟨g++z,rfl⟩,aBg⟩
theorem bOe (s:bZ) (t:LTerm) (ht:OkT t) (hv:fO nodeB t=true): CT 126 [cX s,elT t] (.b (yG (aLx s) false (vis t 1))):=by
 refine aL mixed Tryz.func126 g0 ?_
 · skip
   have cw:=bEx (bTs s (.box false [.i .i64 (t).kind,.i .i64 (t).n,.s (t).text,.s (t).sort,.sl ((t).kids.flatMap aC) (t).kids.length,.sl ((t).rest.flatMap aC) (t).rest.length])) (fun a=>⟨_,[],rfl⟩) t ht 1 false [] _ ⟨[],rfl⟩ (aNr (a:=false) hv)
   simp only [elT,bC,avt] at cw
   (refine zs0 ?_; repeat' first | exact trivial | refine zJ ?_ ?_ | refine zH fun hc=>?_)
   refine fI cw ?_
   rintro r h' ⟨rfl,⟨g,rfl⟩,_⟩
   refine zg ?_
   exact aF rfl rfl
theorem aBw {l:List LTerm} {k:Nat}:lO l (k+1)=(lO l k && bCv (l.getD (2 * k) default)):=by
 unfold lO L0
 rw [List.range_succ,iY]; simp
theorem cAl (t:LTerm) (d:Int) (b:Bool) (x y:AObj) (g:List AObj) (ht:OkT t) (hl:t.kids.length≤1000000): ACalls Tryz.prog G0 129 [elT t,.i .i64 d,.ptr 2 0] (x::y::.box false [.b b]::g) (fun r h'=>r=.tup []∧∃ z,h'=x::y::.box false [.b (aXc (t,d) b)]::(g++z)):=by
 refine dF (rx:=false) (th:=fun _=>none) mixed Tryz.func129 ?_
 · simp -implicitDefEqProofs (disch:=omega) only [Tryz.f129,go_sem,List.replicate,simprocAttr]
   obtain ⟨q,hq⟩:∃ q,(b && !(decide (t.kind=6) && decide (t.text=[36])))=q:=⟨_,rfl⟩
   have e:aXc (t,d) b=(q && (!decide (t.kind=8) || lO t.kids ((t.kids.length+1) / 2))):=by
     rw [aXc,R7,← hq,jY]
   rw [e]
   by_cases h8:t.kind=8
   · have h6:¬ t.kind=6:=by omega
     have hb:b=q:=by rw [← hq]; simp [h6]
     subst hb
     rw [zt h8,Bool.not_true,cT]
     cases b
     · refine zh (zA2 (zt h8) (zf h6)) ?_
       refine bP (fun (s:Nat × List AObj)=>[.k,.k,.k,.k,.k,.v (.i .i64 ((2 * s.1:Nat):Int)),.j,.k,.k,.k,.k,.k,.k,.k,.k,.k,.k,.k,.k,.k,.k,.k,.j,.j,.j,.j,.j,.j,.j,.j,.j,.j,.j,.j,.j,.j,.j,.j,.j,.j,.j,.j,.j,.j,.j,.j,.j,.j,.j]) (fun s=>(x::y::.box false [.b (false && lO t.kids s.1)]::(g++(.box false [.i .i64 (t).kind,.i .i64 (t).n,.s (t).text,.s (t).sort,.sl ((t).kids.flatMap aC) (t).kids.length,.sl ((t).rest.flatMap aC) (t).rest.length]::s.2)))) (fun s=>s.1≤(t.kids.length+1) / 2) (fun s=>(t.kids.length+1) / 2 - s.1) ((0,[])) (aG _) rfl (by simp [eN]) ?_
       rintro ⟨k,z⟩ j hk
       dsimp only at hk
       have q0:=aBw (l:=t.kids) (k:=k)
       obtain ⟨v,hv⟩:∃ v,(false && lO t.kids k)=v:=⟨_,rfl⟩
       by_cases hlt:2 * k < t.kids.length
       · have hki:(((2 * k:Nat):Int) < ((t.kids.length:Nat):Int)):=by omega
         have hkey:(false && lO t.kids (k+1))=(v && bCv (t.kids.getD (2 * k) default)):=by rw [q0,← jY,hv]
         have hnx:(((2 * k:Nat):Int)+2)=((2 * (k+1):Nat):Int):=by omega
         refine zh (zA2 (zt hki) hv) ?_
         (refine zy1 (zA2 (zt hki) (zA2 hv hnx)) (aSz (t.kids.getD (2 * k) default)) ?_; repeat' first | exact trivial | refine zJ ?_ ?_ | refine zH fun hc=>?_)
         all_goals
           refine ⟨(k+1,z++[.box false [.i .i64 (t.kids.getD (2 * k) default).kind,.i .i64 (t.kids.getD (2 * k) default).n,.s (t.kids.getD (2 * k) default).text,.s (t.kids.getD (2 * k) default).sort,.sl ((t.kids.getD (2 * k) default).kids.flatMap aC) (t.kids.getD (2 * k) default).kids.length,.sl ((t.kids.getD (2 * k) default).rest.flatMap aC) (t.kids.getD (2 * k) default).rest.length]]),by dsimp only; omega,by dsimp only; omega,?_,by simp⟩
           try dsimp only
           try simp_all [bCv]
       · have hki:¬ (((2 * k:Nat):Int) < ((t.kids.length:Nat):Int)):=by omega
         have hke:k=(t.kids.length+1) / 2:=by omega
         subst hke
         refine zh (zf hki) ?_
         (refine zx0 (zf hki) ?_; repeat' first | exact trivial | refine zJ ?_ ?_ | refine zH fun hc=>?_)
         all_goals exact ⟨_,rfl⟩
     · refine zh (zA2 (zt h8) (zf h6)) ?_
       refine bP (fun (s:Nat × List AObj)=>[.k,.k,.k,.k,.k,.v (.i .i64 ((2 * s.1:Nat):Int)),.j,.k,.k,.k,.k,.k,.k,.k,.k,.k,.k,.k,.k,.k,.k,.k,.j,.j,.j,.j,.j,.j,.j,.j,.j,.j,.j,.j,.j,.j,.j,.j,.j,.j,.j,.j,.j,.j,.j,.j,.j,.j,.j]) (fun s=>(x::y::.box false [.b (true && lO t.kids s.1)]::(g++(.box false [.i .i64 (t).kind,.i .i64 (t).n,.s (t).text,.s (t).sort,.sl ((t).kids.flatMap aC) (t).kids.length,.sl ((t).rest.flatMap aC) (t).rest.length]::s.2)))) (fun s=>s.1≤(t.kids.length+1) / 2) (fun s=>(t.kids.length+1) / 2 - s.1) ((0,[])) (aG _) rfl (by simp [eN]) ?_
       rintro ⟨k,z⟩ j hk
       dsimp only at hk
       have q0:=aBw (l:=t.kids) (k:=k)
       obtain ⟨v,hv⟩:∃ v,(true && lO t.kids k)=v:=⟨_,rfl⟩
       by_cases hlt:2 * k < t.kids.length
       · have hki:(((2 * k:Nat):Int) < ((t.kids.length:Nat):Int)):=by omega
         have hkey:(true && lO t.kids (k+1))=(v && bCv (t.kids.getD (2 * k) default)):=by rw [q0,← jY,hv]
         have hnx:(((2 * k:Nat):Int)+2)=((2 * (k+1):Nat):Int):=by omega
         refine zh (zA2 (zt hki) hv) ?_
         (refine zy1 (zA2 (zt hki) (zA2 hv hnx)) (aSz (t.kids.getD (2 * k) default)) ?_; repeat' first | exact trivial | refine zJ ?_ ?_ | refine zH fun hc=>?_)
         all_goals
           refine ⟨(k+1,z++[.box false [.i .i64 (t.kids.getD (2 * k) default).kind,.i .i64 (t.kids.getD (2 * k) default).n,.s (t.kids.getD (2 * k) default).text,.s (t.kids.getD (2 * k) default).sort,.sl ((t.kids.getD (2 * k) default).kids.flatMap aC) (t.kids.getD (2 * k) default).kids.length,.sl ((t.kids.getD (2 * k) default).rest.flatMap aC) (t.kids.getD (2 * k) default).rest.length]]),by dsimp only; omega,by dsimp only; omega,?_,by simp⟩
           try dsimp only
           try simp_all [bCv]
       · have hki:¬ (((2 * k:Nat):Int) < ((t.kids.length:Nat):Int)):=by omega
         have hke:k=(t.kids.length+1) / 2:=by omega
         subst hke
         refine zh (zf hki) ?_
         (refine zx0 (zf hki) ?_; repeat' first | exact trivial | refine zJ ?_ ?_ | refine zH fun hc=>?_)
         all_goals exact ⟨_,rfl⟩
   · rw [zf h8,Bool.not_false,dD,Bool.and_true]
     (refine zx0 (zf h8) ?_; repeat' first | exact trivial | refine zJ ?_ ?_ | refine zH fun hc=>?_)
     all_goals
       refine ⟨[.box false [.i .i64 (t).kind,.i .i64 (t).n,.s (t).text,.s (t).sort,.sl ((t).kids.flatMap aC) (t).kids.length,.sl ((t).rest.flatMap aC) (t).rest.length]],?_⟩
       rw [← hq]
       simp_all

theorem aMd {m:List (Str × Str)} {x:Str} (h:findS m x=none):((m.map (·.1)).findIdx? fun y=>decide (x=y))=none:=by
 rw [eV]
 intro y hy
 obtain ⟨p,hp,rfl⟩:=dQ.1 hy
 unfold findS at h
 rw [Option.map_eq_none_iff,List.find?_eq_none] at h
 simpa using h p hp
theorem aMc {m:List (Str × Str)} {x y:Str} (h:findS m x=some y):∃ j,((m.map (·.1)).findIdx? fun z=>decide (x=z))=some j∧((m.map (·.2)).map AV.s)[j]? = some (.s y):=by
 induction m with
 | nil=>simp [findS] at h
 | cons p m ih=>
   unfold findS at h
   rw [List.find?_cons] at h
   by_cases hx:x=p.1
   · rw [zt hx] at h
     simp only [cJ,aB] at h
     exact ⟨0,by simp [fE,hx],by simp [h]⟩
   · rw [zf hx] at h
     obtain ⟨j,h1,h2⟩:=ih h
     refine ⟨j+1,?_,by simpa using h2⟩
     rw [aT,fE,zf hx,h1]; rfl
abbrev aVe (m:List (Str × Str)):AObj:=.map false ((m.map (·.1)).map .s) ((m.map (·.2)).map .s)
theorem cAb (t:LTerm) (d:Int) (m:List (Str × Str)) (tw:Str) (g:List AObj) (ht:OkT t) (hl:m.length≤1000000): ACalls Tryz.prog G0 188 [elT t,.i .i64 d,.ptr 0 0,.ptr 1 0] (.box false [.mp 2]::.box false [.s tw]::.map false ((m.map (·.1)).map .s) ((m.map (·.2)).map .s)::g) (fun r h'=>r=.tup []∧∃ z,h'=.box false [.mp 2]::.box false [.s (aDk (t,d) (m,tw)).2]::aVe (aDk (t,d) (m,tw)).1::(g++z)):=by
 refine dF (rx:=false) (th:=fun _=>none) mixed Tryz.func188 ?_
 · simp -implicitDefEqProofs (disch:=omega) only [Tryz.f188,go_sem,List.replicate,simprocAttr]
   by_cases h6:t.kind=6
   · by_cases h95:t.text=[95]
     · have e:aDk (t,d) (m,tw)=(m,tw):=by rw [aDk,if_neg (by simp [isV,h95])]
       rw [e]
       refine zh (zA2 (zt h6) (zt h95)) ?_
       (refine zx0 (zA2 (zt h6) (zt h95)) ?_; repeat' first | exact trivial | refine zJ ?_ ?_ | refine zH fun hc=>?_)
       all_goals exact ⟨_,rfl⟩
     · have hv:isV t=true:=by simp [isV,h6,h95]
       rw [aDk,if_pos hv,aVx]
       dsimp only [D6]
       cases hf:findS m t.text with
       | none=>
         have k1:=aMd hf
         refine zh (zA2 (zt h6) (zA2 (zf h95) (zA2 @kM.eq_1 (zA2 @aBf @k1)))) ?_
         (refine zx0 (zA2 (zt h6) (zA2 (zf h95) (zA2 @kM.eq_1 (zA2 @aBf @k1)))) ?_; repeat' first | exact trivial | refine zJ ?_ ?_ | refine zH fun hc=>?_)
         all_goals exact ⟨[.box false [.i .i64 (t).kind,.i .i64 (t).n,.s (t).text,.s (t).sort,.sl ((t).kids.flatMap aC) (t).kids.length,.sl ((t).rest.flatMap aC) (t).rest.length]],by simp [aVe]⟩
       | some old=>
         obtain ⟨j,k1,k2⟩:=aMc hf
         refine zh (zA2 (zt h6) (zA2 (zf h95) (zA2 @kM.eq_1 (zA2 @aBf (zA2 @k1 @k2))))) ?_
         (refine zx0 (zA2 (zt h6) (zA2 (zf h95) (zA2 @kM.eq_1 (zA2 @aBf (zA2 @k1 @k2))))) ?_; repeat' first | exact trivial | refine zJ ?_ ?_ | refine zH fun hc=>?_)
         all_goals simp only [ne_eq,bytesLess_eq,decide_eq_true_eq,decide_eq_false_iff_not] at *
         all_goals by_cases hq:(¬ old=t.sort∧(tw=[]∨t.text < tw))
         all_goals simp only [hq,and_self,true_and,not_false_eq_true,if_true,if_false]
         all_goals first | exact ⟨_,rfl⟩ | (exfalso; simp_all; done) | exact absurd hq (fun q=>q.2.elim (fun e=>absurd (List.length_eq_zero_iff.2 e) (by assumption)) (fun e=>absurd e (by assumption)))
   · have e:aDk (t,d) (m,tw)=(m,tw):=by rw [aDk,if_neg (by simp [isV,h6])]
     rw [e]
     refine zh (zf h6) ?_
     (refine zx0 (zf h6) ?_; repeat' first | exact trivial | refine zJ ?_ ?_ | refine zH fun hc=>?_)
     all_goals exact ⟨_,rfl⟩
def SrR (r:List (Str × Str) × Str) (h:List AObj):Prop:=∃ g,h=.box false [.mp 2]::.box false [.s r.2]::aVe r.1::g
def SrP (r:List (Str × Str) × Str) (l:List (LTerm × Int)):Prop:=r.1.length+l.length≤1000000∧bTj () l
theorem aVy {v:LTerm × Int} {r:List (Str × Str) × Str}:(aDk v r).1.length≤r.1.length+1:=by
 unfold aDk aVx
 split
 · split
   · split <;> simp
   · simp
 · omega
theorem aLu {a b b' c c':AObj} {g z:List AObj}:lR 3 (a::b::c::g) (a::b'::c'::(g++z)):=fun i y hi h=>by
 match i,hi with
 | i+3,_=>
   simp only [dL] at h ⊢
   rw [aD (aQ h)]; exact h
theorem bTq:bKf 188 [.ptr 0 0,.ptr 1 0] 3 SrR aDk SrP:=by
 refine ⟨?_,?_,?_⟩
 · rintro b h z ⟨g,rfl⟩; exact ⟨g++z,rfl⟩
 · rintro b h ⟨g,rfl⟩; simp
 · rintro ⟨m,tw⟩ ⟨t,d⟩ l h hP ho ⟨g,rfl⟩
   have h1:=hP.1
   have h2:=aVy (v:=(t,d)) (r:=(m,tw))
   rw [aI] at h1
   dsimp only at h1 h2
   refine ⟨hP.2 _ (by simp),⟨by omega,fun v hv=>hP.2 v (by simp [hv])⟩,?_⟩
   refine (cAb t d m tw g ho (by omega)).mono ?_
   rintro r h' ⟨rfl,z,rfl⟩
   exact ⟨rfl,⟨g++z,rfl⟩,aLu⟩
def rQ (t:LTerm):List (Str × Str) × Str:=yG aDk ([],[]) (vis t 1)
def aXs (m:List (Str × Str)):AV:=.mapv ((m.map (·.1)).map .s) ((m.map (·.2)).map .s)
theorem aWb {H:List AObj} {id:Nat} {fz:Bool} {ks vs:List Str} (h:H[id]? = some (.map fz (ks.map .s) (vs.map .s))):gH dep H (.mp id)=.mapv (ks.map .s) (vs.map .s):=by
 simp only [fV,pers,aM,if_false,rH,h,jW,if_true]
theorem bIj {H:List AObj} {id:Nat} {fz:Bool} {m:List (Str × Str)} {x:Str} (h:H[id]? = some (.map fz ((m.map (·.1)).map .s) ((m.map (·.2)).map .s))):Fin H (.tup [.mp id,.s x]) (.tup [aXs m,.s x]):=by
 refine .inr ⟨⟨?_,rfl,trivial⟩,?_,?_⟩
 · show aXs m=gH dep H (.mp id)
   rw [aWb h]; rfl
 · show List.Nodup []; exact cR
 · intro i hi; exact absurd hi (by show ¬ i ∈ []; simp)
theorem bOd (t:LTerm) (ht:OkT t) (hv:fO nodeB t=true): CT 127 [avt [t]] (.tup [aXs (rQ t).1,.s (rQ t).2]):=by
 refine cY (rx:=true) (th:=fun i=>if i=7 then some ⟨none,[0],false,true,false,[],[]⟩ else none) mixed Tryz.func127 g0 ?_
 · simp -implicitDefEqProofs (disch:=omega) only [Tryz.f127,go_sem,List.replicate,simprocAttr,avt]
   have hP:=aDf hv
   have hP':SrP ([],[]) (vis t 1++[]):=⟨by have:=hP.1; simp at this ⊢; omega,fun v hv=>hP.2 v hv⟩
   refine bP (fun (s:Nat × (List (Str × Str) × Str) × List AObj)=>[.k,.k,.k,.k,.k,.j,.k,.k,.k,.v (.i .i64 (s.1:Nat)),.j,.j,.j,.j,.j,.j,.j,.k,.k]) (fun s=>(.box false [.mp 2]::.box false [.s s.2.1.2]::aVe s.2.1.1::s.2.2)) (fun s=>s.1≤1∧(s.1=0→s.2.1=([],[]))∧(s.1=1→s.2.1=rQ t)) (fun s=>1 - s.1) ((0,([],[]),[])) ⟨aG _,fun _=>rfl,fun h=>(by cases h)⟩ rfl (by simp [eN]) ?_
   rintro ⟨k,r,g⟩ j ⟨hk,h0,h1⟩
   dsimp only at hk h0 h1
   have h01:((0:Int) < ((1:Nat):Int))=True:=eq_true (by decide)
   have h11:(((1:Nat):Int) < ((1:Nat):Int))=False:=eq_false (by decide)
   rcases (by omega:k=0∨k=1) with rfl | rfl
   · obtain rfl:=h0 rfl
     have cw:=bEx bTq (fun a=>⟨_,[],rfl⟩) t ht 1 ([],[]) [] (.box false [.mp 2]::.box false [.s []]::aVe []::(g++[.box false [.i .i64 (t).kind,.i .i64 (t).n,.s (t).text,.s (t).sort,.sl ((t).kids.flatMap aC) (t).kids.length,.sl ((t).rest.flatMap aC) (t).rest.length]])) ⟨_,rfl⟩ hP'
     simp only [elT,bC,avt,aVe,bN] at cw
     refine zh (zA2 @aVe.eq_1 (zA2 @dJ.{0,0} (zA2 @jL.{0,0} (zA2 @List.append_nil.{0} (zA2 @bC (zA2 @avt.eq_1 (zA2 h01 (zA2 @decide_true @bN.{0,0})))))))) ?_
     (refine zx0 (zA2 @aVe.eq_1 (zA2 @dJ.{0,0} (zA2 @jL.{0,0} (zA2 @List.append_nil.{0} (zA2 @bC (zA2 @avt.eq_1 (zA2 h01 (zA2 @decide_true @bN.{0,0})))))))) ?_; repeat' first | exact trivial | refine zJ ?_ ?_ | refine zH fun hc=>?_)
     refine fI cw ?_
     rintro r h' ⟨rfl,⟨g',rfl⟩,_⟩
     refine zg ?_
     exact ⟨(1,rQ t,g'),⟨aZ _,fun h=>(by cases h),fun _=>rfl⟩,by simp,rfl,by simp⟩
   · obtain rfl:=h1 rfl
     refine zh (zA2 @aVe.eq_1 (zA2 h11 @decide_false)) ?_
     (refine zx0 (zA2 @aVe.eq_1 (zA2 h11 @decide_false)) ?_; repeat' first | exact trivial | refine zJ ?_ ?_ | refine zH fun hc=>?_)
     exact bIj rfl
end Go.Proofs.YtifefbhllfdmlaaGreatDoor
