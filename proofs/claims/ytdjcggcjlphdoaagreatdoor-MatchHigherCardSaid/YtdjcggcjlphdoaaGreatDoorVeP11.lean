/-
  Functions of the chapter, as plain functions of what they are given; no condition.
-/
import Derived.Test.YtdjcggcjlphdoaaGreatDoorVdP13
import Derived.Test.YtdjcggcjlphdoaaGreatDoorVcP12
set_option maxRecDepth 100000
set_option linter.unusedSimpArgs false
set_option linter.unusedVariables false
set_option maxHeartbeats 4000000
namespace Go.Proofs.YtdjcggcjlphdoaaGreatDoor
open Go Go.Vo
open Nat (reduceAdd reduceSub reduceMul reduceLeDiff reduceLT reduceEqDiff)
open Int (reduceNeg)

mutual
def hiT (R:List Str):LTerm→LTerm
 | .mk k n x so ks rs=>.mk k n x (if k=6∧x ∉ R then wP else so) (hiL R ks) rs
def hiL (R:List Str):List LTerm→List LTerm
 | []=>[]
 | t::l=>hiT R t::hiL R l
end
theorem lX (R:List Str) (t:LTerm):hiT R t=.mk t.kind t.n t.text (if t.kind=6∧t.text ∉ R then wP else t.sort) (hiL R t.kids) t.rest:=by cases t; rw [hiT]; rfl
theorem tF (R:List Str):∀ l:List LTerm,(hiL R l).length=l.length
 | []=>by rw [hiL]
 | t::l=>by rw [hiL,bH,bH,tF R l]
theorem N9 (R:List Str):∀ {l:List LTerm} {i:Nat},i < l.length→(hiL R l).getD i default=hiT R (l.getD i default)
 | [],i,h=>by simp at h
 | t::l,0,_=>by rw [hiL]; rfl
 | t::l,i+1,h=>by rw [hiL,dZ,dZ]; exact N9 R (by simpa using h)
theorem aOa {R:List Str} {t:LTerm} (h6:¬ t.kind=6) (hk:t.kids=[]):hiT R t=t:=by
 rw [lX,hk,if_neg (fun h=>h6 h.1),hiL]
 cases t; dsimp only [LTerm.kids] at hk; subst hk; rfl
mutual
theorem yE (R:List Str):∀ t:LTerm,nodesT (hiT R t)=nodesT t
 | .mk k n x so ks rs=>by rw [hiT,nodesT,nodesT,hiL_nodes R ks]
theorem hiL_nodes (R:List Str):∀ l:List LTerm,nodesL (hiL R l)=nodesL l
 | []=>by rw [hiL]
 | t::l=>by rw [hiL,nodesL,nodesL,yE R t,hiL_nodes R l]
end
theorem L6 {α β:Type} {f g:α→List β} (h:∀ x,(f x).Sublist (g x)):∀ {l m:List α},l.Sublist m→(l.flatMap f).Sublist (m.flatMap g):=by
 intro l m hs
 induction hs with
 | slnil=>exact fD _
 | cons a _ ih=>rw [List.flatMap_cons]; exact aKc ih
 | cons_cons a _ ih=>rw [List.flatMap_cons,List.flatMap_cons]; exact aRu (h a) ih
theorem L5 {l m:List LSub} (h:l.Sublist m) (hb:(oN false m).2=false):(oN false l).2=false∧(oN false l).1.Sublist (oN false m).1:=by
 have hl:=h.length_le
 rw [oN] at hb ⊢
 split at hb
 · cases hb
 · rename_i hm
   rw [if_neg (by omega)]
   refine ⟨rfl,?_⟩
   rw [oN,if_neg hm]
   exact h
def bNj (t:LTerm):Bool := !decide (t.kind=8) || decide (t.kids.length % 2=0)
def UpA (A:AF) (p q:LTerm):Prop:=∀ (t:LTerm) (l m:List LSub),l.Sublist m→(A q t m false).2=false→(A p t l false).2=false∧(A p t l false).1.Sublist (A q t m false).1
section
variable {A:AF} {s:eD} {R:List Str}
theorem aQl {v t:LTerm} {u:LSub}:(mP s v t u).Sublist (mP s (hiT R v) t u):=by
 rw [mP]
 split
 · rename_i h
   have h2:lZ s (oF s t) (hiT R v).sort=true:=by
     rw [lX]
     show lZ s (oF s t) (if v.kind=6∧v.text ∉ R then wP else v.sort)=true
     split
     · simp [lZ]
     · exact h
   have h3:(hiT R v).text=v.text:=by rw [lX]; rfl
   rw [mP,if_pos h2,h3]
   exact fD _
 · exact List.nil_sublist _
theorem aEe (hA:nO A):∀ {ps:List LTerm} {ts:List LTerm} {l m:List LSub},(∀ p ∈ ps,UpA A p (hiT R p))→l.Sublist m→(iS A (hiL R ps) ts m false).2=false→(iS A ps ts l false).2=false∧(iS A ps ts l false).1.Sublist (iS A (hiL R ps) ts m false).1
 | [],ts,l,m,_,h,_=>by rw [hiL,sV,sV]; exact ⟨rfl,h⟩
 | p::ps,[],l,m,_,h,_=>by rw [hiL]; exact ⟨rfl,h⟩
 | p :: ps,t::ts,l,m,hu,h,hb=>by
   rw [hiL,iS] at hb ⊢
   rw [iS]
   by_cases hf:(A (hiT R p) t m false).2=false
   · obtain ⟨h1,h2⟩:=hu p List.mem_cons_self t l m h hf
     rw [hf] at hb ⊢
     rw [h1]
     exact aEe hA (fun p' hp'=>hu p' (fB _ hp')) h2 hb
   · rw [kQ] at hf
     rw [hf,aHs hA] at hb
     cases hb
def aBb (R:List Str) (k:LTerm):Prop:=¬ k.kind=6→hiT R k=k
theorem aSo {key:LTerm} {w:mC} {k:Nat} (hk:aBb R key):(lV s key w k).Sublist (lV s (hiT R key) w k):=by
 have e1:(hiT R key).kind=key.kind:=by rw [lX]; rfl
 have e2:(hiT R key).text=key.text:=by rw [lX]; rfl
 by_cases h6:key.kind=6
 · rw [lV,lV,e1,e2,if_pos h6,if_pos h6]
   cases mOf w.u key.text with
   | none=>exact aQl
   | some a=>exact fD _
 · rw [hk h6]
   exact fD _
def UpW (r q:List mC × Bool):Prop:=q.2=false→r.2=false∧r.1.Sublist q.1
theorem bEd {key value:LTerm} {w:mC} {k:Nat} (hk:aBb R key) (hv:UpA A value (hiT R value)):UpW (pJ A s key value w k false) (pJ A s (hiT R key) (hiT R value) w k false):=by
 intro hb
 rw [pJ] at hb ⊢
 rw [pJ]
 obtain ⟨h1,h2⟩:=hv _ _ _ (aSo hk) hb
 exact ⟨h1,h2.map _⟩
theorem aOy (hA:nO A) {key value:LTerm} {w:mC} (hk:aBb R key) (hv:UpA A value (hiT R value)):∀ k:Nat,UpW (mF A s key value w k false) (mF A s (hiT R key) (hiT R value) w k false)
 | 0=>fun _=>⟨rfl,fD _⟩
 | k + 1=>fun hb=>by
   rw [mF] at hb ⊢
   rw [mF]
   by_cases hf:(mF A s (hiT R key) (hiT R value) w k false).2=false
   · obtain ⟨h1,h2⟩:=aOy hA hk hv k hf
     dsimp only at hb ⊢
     rw [hf] at hb ⊢
     rw [h1]
     obtain ⟨h3,h4⟩:=bEd hk hv hb
     exact ⟨h3,aRu h2 h4⟩
   · rw [kQ] at hf
     dsimp only at hb
     rw [hf,pJ,hA] at hb
     cases hb
theorem bEc (hA:nO A) {key value:LTerm} (hk:aBb R key) (hv:UpA A value (hiT R value)):∀ {ws vs:List mC},ws.Sublist vs→UpW (nX A s key value ws false) (nX A s (hiT R key) (hiT R value) vs false):=by
 intro ws vs h
 induction h with
 | slnil=>exact fun _=>⟨rfl,fD _⟩
 | @cons ws vs a _ ih=>
   intro hb
   rw [nX] at hb ⊢
   dsimp only at hb ⊢
   by_cases hf:(mF A s (hiT R key) (hiT R value) a (a.left.length / 2) false).2=false
   · rw [hf] at hb ⊢
     obtain ⟨h1,h2⟩:=ih hb
     exact ⟨h1,aKc h2⟩
   · rw [kQ] at hf
     rw [hf,aFq hA] at hb
     cases hb
 | @cons_cons ws vs a _ ih=>
   intro hb
   rw [nX] at hb ⊢
   rw [nX]
   dsimp only at hb ⊢
   by_cases hf:(mF A s (hiT R key) (hiT R value) a (a.left.length / 2) false).2=false
   · obtain ⟨h3,h4⟩:=aOy hA hk hv _ hf
     rw [hf] at hb ⊢
     rw [h3]
     obtain ⟨h1,h2⟩:=ih hb
     exact ⟨h1,aRu h4 h2⟩
   · rw [kQ] at hf
     rw [hf,aFq hA] at hb
     cases hb
theorem aVl (hA:nO A) {key value:LTerm} (hk:aBb R key) (hv:UpA A value (hiT R value)) {r q:List mC × Bool} (h:UpW r q):UpW (nA A s key value r.1 r.2) (nA A s (hiT R key) (hiT R value) q.1 q.2):=by
 intro hb
 by_cases hq:q.2=false
 · obtain ⟨h1,h2⟩:=h hq
   rw [hq] at hb ⊢
   rw [h1]
   rw [nA] at hb
   split at hb
   · cases hb
   · rename_i hle
     obtain ⟨h3,h4⟩:=bEc (s:=s) hA hk hv h2 hb
     have hl:=h4.length_le
     rw [nA,if_neg (by omega),nA,if_neg hle]
     exact ⟨h3,h4⟩
 · rw [kQ] at hq
   rw [hq,aOw hA] at hb
   cases hb
theorem aKv (hA:nO A) {p:LTerm} (hK:∀ i,2 * i < p.kids.length→aBb R (p.kids.getD (2 * i) default)) (hv:∀ k ∈ p.kids,UpA A k (hiT R k)) {r q:List mC × Bool} (h:UpW r q):∀ n:Nat,2 * n≤p.kids.length→UpW (nN A s p n r) (nN A s (hiT R p) n q)
 | 0,_=>h
 | n+1,hn=>by
   have e:(hiT R p).kids=hiL R p.kids:=by rw [lX]; rfl
   rw [nN,nN,e,N9 R (by omega),N9 R (by omega)]
   exact aVl hA (hK n (by omega)) (hv _ (cQ (by omega))) (aKv hA hK hv h n (by omega))
theorem aSj (hA:nO A) {p t:LTerm} (hK:∀ i,2 * i < p.kids.length→aBb R (p.kids.getD (2 * i) default)) (hv:∀ k ∈ p.kids,UpA A k (hiT R k)) {l m:List LSub} (h:l.Sublist m) (hb:(jT A s (hiT R p) t m false).2=false) :
   (jT A s p t l false).2=false∧(jT A s p t l false).1.Sublist (jT A s (hiT R p) t m false).1:=by
 have e:(hiT R p).kids.length=p.kids.length:=by rw [lX]; exact tF R p.kids
 have er:∀ w:mC,zX s (hiT R p) w=zX s p w:=fun w=>by rw [lX]; rfl
 obtain ⟨E,hE⟩:∃ E,E=jT A s (hiT R p) t m false:=⟨_,rfl⟩
 rw [← hE] at hb ⊢
 rw [jT,e] at hE
 rw [jT]
 subst hE
 have U:=aKv (s:=s) hA hK hv (r:=(l.map (mC.mk · t.kids),false)) (q:=(m.map (mC.mk · t.kids),false)) (fun _=>⟨rfl,h.map _⟩) (p.kids.length / 2) (by omega)
 by_cases hf:(nN A s (hiT R p) (p.kids.length / 2) (m.map (mC.mk · t.kids),false)).2=false
 · obtain ⟨h1,h2⟩:=U hf
   rw [hf] at hb ⊢
   rw [h1]
   exact L5 (L6 (fun w=>by rw [er]; exact fD _) h2) hb
 · rw [kQ] at hf
   rw [hf,yN] at hb
   cases hb
theorem bEg {p t:LTerm} (hk:aBb R p) {l m:List LSub} (h:l.Sublist m) (hb:(qJ s (hiT R p) t m false).2=false):(qJ s p t l false).2=false∧(qJ s p t l false).1.Sublist (qJ s (hiT R p) t m false).1:=by
 have e1:(hiT R p).kind=p.kind:=by rw [lX]; rfl
 rw [qJ] at hb ⊢
 rw [qJ]
 refine L5 (L6 (fun u=>?_) h) hb
 by_cases h6:p.kind=6
 · rw [iP,iP,e1,if_pos h6,if_pos h6]; exact aQl
 · rw [hk h6]; exact fD _
end
def hiB (t:LTerm):Bool:=(decide (t.kind=5) || (decide (t.kind=7) || (decide (t.kind=8) || t.kids.isEmpty))) && (!decide (t.kind=8) || ((List.range (t.kids.length / 2)).all fun i=>decide ((t.kids.getD (2 * i) default).kind=6) || (t.kids.getD (2 * i) default).kids.isEmpty))
theorem aZz {s:eD} {R:List Str}:∀ (n:Nat) (p:LTerm),wfT hiB p=true→(p.kind=8→p.kids.length % 2=0)→wfT bNj p=true→nodesT p≤n→UpA (eH s n) p (hiT R p)
 | 0,p,_,_,_,h=>by rw [eI] at h; omega
 | n + 1,p,hw,hpe,hev,h=>by
   have hno:=eI p
   have hw':=kS.1 hw
   have hev':=kS.1 hev
   have h1:=hw'.1
   rw [hiB,aE] at h1
   have hA:=aDk (s:=s) n
   have hU:∀ k ∈ p.kids,UpA (eH s n) k (hiT R k):=fun k hk=>aZz n k (hw'.2 k hk) (fun h8=>by
     have:=(kS.1 (hev'.2 k hk)).1
     rw [bNj,h8] at this
     simpa using this) (hev'.2 k hk) (by have:=(iX hk).1; omega)
   intro t l m hl hb
   have e1:(hiT R p).kind=p.kind:=by rw [lX]; rfl
   have e2:(hiT R p).text=p.text:=by rw [lX]; rfl
   have e3:(hiT R p).kids=hiL R p.kids:=by rw [lX]; rfl
   have e4:(hiT R p).rest=p.rest:=by rw [lX]; rfl
   have e5:(hiL R p.kids).length=p.kids.length:=tF R p.kids
   obtain ⟨E,hE⟩:∃ E,E=eH s (n+1) (hiT R p) t m false:=⟨_,rfl⟩
   rw [← hE] at hb ⊢
   rw [eH,e1,e2,e3,e4,e5] at hE
   rw [eH]
   subst hE
   by_cases h5:p.kind=5
   · rw [if_pos h5] at hb ⊢
     rw [if_pos h5]
     by_cases hc:t.kind=5∧t.text=p.text∧t.kids.length=p.kids.length
     · rw [if_pos hc] at hb ⊢
       rw [if_pos hc]
       exact aEe hA hU hl hb
     · rw [if_neg hc,if_neg hc]; exact ⟨rfl,fD _⟩
   rw [if_neg h5] at hb ⊢
   rw [if_neg h5]
   by_cases h7:p.kind=7
   · rw [if_pos h7] at hb ⊢
     rw [if_pos h7]
     by_cases hc:t.kind=7∧p.kids.length≤t.kids.length∧(p.rest.length=0→t.kids.length≤p.kids.length)
     · rw [if_pos hc] at hb ⊢
       rw [if_pos hc]
       by_cases hr:0 < p.rest.length
       · rw [if_pos hr] at hb ⊢
         rw [if_pos hr]
         by_cases hf:(iS (eH s n) (hiL R p.kids) (t.kids.take p.kids.length) m false).2=false
         · obtain ⟨h3,h4⟩:=aEe hA hU hl hf
           rw [hf] at hb ⊢
           rw [h3]
           rw [qJ] at hb ⊢
           rw [qJ]
           exact L5 (L6 (fun u=>fD _) h4) hb
         · rw [kQ] at hf
           rw [hf,qJ,yN] at hb
           cases hb
       · rw [if_neg hr] at hb ⊢
         rw [if_neg hr]
         exact aEe hA hU hl hb
     · rw [if_neg hc,if_neg hc]; exact ⟨rfl,fD _⟩
   rw [if_neg h7] at hb ⊢
   rw [if_neg h7]
   by_cases h8:p.kind=8
   · rw [if_pos h8] at hb ⊢
     rw [if_pos h8]
     by_cases hc:t.kind=8
     · rw [if_pos hc] at hb ⊢
       rw [if_pos hc]
       refine aSj hA (fun i hi h6=>?_) hU hl hb
       have h2:=h1.2
       rw [zt h8,aB,cO,bL] at h2
       have h9:=h2 i (fG.2 (by have:=hpe h8; omega))
       rw [zf h6,cO,tM] at h9
       exact aOa h6 h9
     · rw [if_neg hc,if_neg hc]; exact ⟨rfl,fD _⟩
   rw [if_neg h8] at hb ⊢
   rw [if_neg h8]
   refine bEg (fun h6=>?_) hl hb
   have h2:=h1.1
   rw [zf h5,zf h7,zf h8,cO,cO,cO,tM] at h2
   exact aOa h6 h2
end Go.Proofs.YtdjcggcjlphdoaaGreatDoor
