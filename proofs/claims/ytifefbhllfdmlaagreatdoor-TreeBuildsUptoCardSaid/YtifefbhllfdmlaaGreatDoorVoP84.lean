/-
  The abstract layer, part Pd: a statement of open order whose last operation comes behind all others: that operation may change what is there. It speaks of any program that mixes its orders; no condition.
-/
import Derived.Test.YtifefbhllfdmlaaGreatDoorVoP83
set_option linter.unusedVariables false
set_option linter.unusedSimpArgs false
set_option linter.constructorNameAsVariable false
namespace Go.Vo
def aLt (pre:Array Oper) (o:Oper):Bool:=
 ((anyPre o).all fun e=>decide (e < pre.size)) &&
 (List.range pre.size).all fun i=>(anyPre o).contains i || (List.range pre.size).any fun j=>decide (i < j) && match pre[j]? with
   | some p=>(anyPre p).contains i
   | Option.none=>false
def aBl (pre:Array Oper):Bool:=pre.toList.all fun p=>match p.guard with
 | some (j,_)=>decide (j < pre.size)
 | Option.none=>true
section
variable {P:Program} {pre:Array Oper} {o:Oper} {Q:Exit→Act→World→Prop}
def Cl (pre:Array Oper) (l:Array Bool):Prop:=∀ i p,pre[i]? = some p→l.getD i false=true→∀ e ∈ anyPre p,l.getD e false=true
def W3 (P:Program) (pre:Array Oper) (o:Oper) (Q:Exit→Act→World→Prop):Exit→Act→World→Prop
 | .normal,a,w=>wpOp P (pre.push o) Q pre.size (fun a w=>Q .normal a w) a w
 | x,a,w=>Q x a w
theorem oY {l:Array Bool} {i:Nat} {d:Bool} (h:i < l.size):(l.push false).getD i d=l.getD i d:=by
 simp [Array.getD,h,Array.getElem_push,Nat.lt_succ_of_lt h]
theorem aPl {l:Array Bool} {d:Bool}:(l.push false).getD l.size d=false:=by simp [Array.getD]
theorem S3 {i:Nat} (h:i < pre.size):(pre.push o)[i]? = pre[i]? := by rw [gX]; rw [if_neg (by omega)]
theorem aPn {l:Array Bool} (hlt:∀ i p,pre[i]? = some p→∀ e ∈ anyPre p,e < i) (hl:l.size=pre.size) (hr:Region.ready .any pre l=[]):∀ i,i < pre.size→l.getD i false=true:=by
 intro i
 induction i using Nat.strongRecOn with
 | ind i ih=>
   intro hi
   have ho:pre[i]? = some pre[i]:=by simp [hi]
   have hn:i ∉ Region.ready .any pre l:=by rw [hr]; simp
   rw [mem_ready] at hn
   have hli:i < l.size:=by omega
   cases hc:l[i] with
   | true=>simp [Array.getD,hli,hc]
   | false=>
     refine absurd ⟨by simp [Array.getD,hli,hc],pre[i],ho,fun d hd hb=>?_⟩ hn
     have hlt':=hlt i pre[i] ho d.on (lQ.2 ⟨d,hd,hb,rfl⟩)
     exact ih d.on hlt' (by omega)
theorem aYc {l:Array Bool} (hL:aLt pre o=true) (hc:Cl pre l) (hd:∀ e ∈ anyPre o,l.getD e false=true):∀ i,i < pre.size→l.getD i false=true:=by
 simp only [aLt,aA,aN,iQ,bJ] at hL
 have key:∀ k i,pre.size - i≤k→i < pre.size→l.getD i false=true:=by
   intro k
   induction k with
   | zero=>intro i h1 h2; omega
   | succ k ih=>
     intro i h1 h2
     rcases hL.2 i h2 with h | h
     · exact hd i (fM.1 h)
     · rw [lG] at h
       obtain ⟨j,hj,hj2⟩:=h
       rw [iQ] at hj
       simp only [aA,decide_eq_true_eq] at hj2
       have hp:pre[j]? = some pre[j]:=by simp [hj]
       rw [hp] at hj2
       exact hc j _ hp (ih j (by omega) hj) i (fM.1 hj2.2)
 exact fun i h=>key _ i (aZ _) h
theorem M7 {l:Array Bool} {i:Nat} (hlt:∀ i p,pre[i]? = some p→∀ e ∈ anyPre p,e < i) (hl:l.size=pre.size) (hi:i < pre.size):i ∈ Region.ready .any (pre.push o) (l.push false)↔i ∈ Region.ready .any pre l:=by
 rw [mem_ready,mem_ready,S3 hi,oY (by omega)]
 have ho:pre[i]? = some pre[i]:=by simp [hi]
 rw [ho]
 have h1:∀ d ∈ pre[i].after,Region.binds .any d=true→(l.push false).getD d.on false=l.getD d.on false:=fun d hd hb=>oY (by have:=hlt i _ ho d.on (lQ.2 ⟨d,hd,hb,rfl⟩); omega)
 constructor
 · rintro ⟨a,p,hp,hall⟩; cases hp; exact ⟨a,_,rfl,fun d hd hb=>(h1 d hd hb).symm.trans (hall d hd hb)⟩
 · rintro ⟨a,p,hp,hall⟩; cases hp; exact ⟨a,_,rfl,fun d hd hb=>(h1 d hd hb).trans (hall d hd hb)⟩
theorem bBd {ops:Array Oper} {l:Array Bool} (hl:∀ i,i < ops.size→l.getD i true=true) {a:Act} {w:World} (q:Q .normal a w):∀ fuel,wpAny P .any ops Q fuel l a w:=by
 have hr:Region.ready .any ops l=[]:=by
   rw [tL]
   intro i hi
   obtain ⟨h1,p,hp,_⟩:=mem_ready.1 hi
   have:=hl i (aW.1 hp).1
   rw [h1] at this; cases this
 intro fuel
 cases fuel with
 | zero=>exact ⟨hr,q⟩
 | succ f=>exact ⟨fun _=>q,fun i hi=>by rw [hr] at hi; cases hi⟩
theorem aDd (hg:aBl pre=true) {i:Nat} {p:Oper} (hp:pre[i]? = some p) (ts:Array Value):Region.wanted p (yielded (pre.push o) ts)=Region.wanted p (yielded pre ts):=by
 simp only [aBl,aN] at hg
 have:=hg p (Array.mem_toList_iff.2 (Array.mem_of_getElem? hp))
 unfold Region.wanted
 cases hq:p.guard with
 | none=>rfl
 | some q=>
   obtain ⟨j,b⟩:=q
   rw [hq] at this
   simp only [decide_eq_true_eq] at this
   simp only [yielded,S3 this]
theorem aKh {o:Oper} {a:Act} {w:World} {K:Act→World→Prop} {Q Q':Exit→Act→World→Prop} (hQ:∀ x a w,x ≠ .normal→Q x a w→Q' x a w) (hL:LetsOut Q→LetsOut Q') (h:o.wp P a w K Q):o.wp P a w K Q':=by
 unfold Oper.wp at *
 generalize (execOp a.eval o).run P w=r at *
 cases r with
 | ok n w'=>
   cases n <;> simp only [Oper.upon] at h ⊢ <;> first
     | exact h
     | exact Calls.mono h (fun e w'' he=>by cases e <;> first | exact he | exact hQ _ _ _ (by simp) he | exact hL he)
 | halt x w'=>cases x <;> simp only [Oper.upon] at h ⊢ <;> first | exact h | exact hQ _ _ _ (by simp) h
theorem aUm (hlt:∀ i p,pre[i]? = some p→∀ e ∈ anyPre p,e < i) (hL:aLt pre o=true) (hg:aBl pre=true) :
   ∀ (fuel:Nat) (l:Array Bool),l.size=pre.size→Cl pre l→∀ (a:Act) (w:World),wpAny P .any pre (W3 P pre o Q) fuel l a w→wpAny P .any (pre.push o) Q (fuel+1) (l.push false) a w:=by
 have hn:(pre.push o)[pre.size]? = some o:=by simp
 have hdl:∀ e ∈ anyPre o,e < pre.size:=by
   simp only [aLt,aA,aN,decide_eq_true_eq] at hL
   exact hL.1
 have fin:∀ (fuel:Nat) (l:Array Bool),l.size=pre.size→(∀ i,i < pre.size→l.getD i false=true)→∀ (a:Act) (w:World),W3 P pre o Q .normal a w→wpAny P .any (pre.push o) Q (fuel+1) (l.push false) a w:=by
   intro fuel l hl hall a w hB
   have hmem:pre.size ∈ Region.ready .any (pre.push o) (l.push false):=by
     rw [mem_ready]
     refine ⟨by rw [← hl]; exact aPl,o,hn,fun d hd hb=>?_⟩
     have:=hdl d.on (lQ.2 ⟨d,hd,hb,rfl⟩)
     rw [oY (by omega)]
     exact hall _ this
   refine ⟨fun hr=>(by rw [hr] at hmem; cases hmem),fun i hi=>?_⟩
   have hlt2:i < pre.size+1:=by
     obtain ⟨_,p,hp,_⟩:=mem_ready.1 hi
     have:=(aW.1 hp).1
     simpa using this
   by_cases hin:i < pre.size
   · have h1:=(mem_ready.1 hi).1
     rw [oY (by omega)] at h1
     have h2:=hall i hin
     have hli:i < l.size:=by omega
     simp [Array.getD,hli] at h1 h2
     rw [h1] at h2; cases h2
   · obtain rfl:i=pre.size:=by omega
     refine wpOp_mono (fun a w q=>bBd (fun k hk=>?_) q fuel) hB
     rw [Array.size_push] at hk
     by_cases hk2:k < pre.size
     · have h2:=hall k hk2
       have hkl:k < l.size:=by omega
       have:((l.push false).setIfInBounds pre.size true).getD k true=l.getD k false:=by
         rw [getD_set_ne true (by omega),oY hkl]
         simp [Array.getD,hkl]
       rw [this]; exact h2
     · obtain rfl:k=pre.size:=by omega
       rw [← hl]; simp [Array.getD]
 intro fuel
 induction fuel with
 | zero=>
   intro l hl hc a w h
   exact fin 0 l hl (aPn hlt hl h.1) a w h.2
 | succ fuel ih=>
   intro l hl hc a w h
   by_cases hr:Region.ready .any pre l=[]
   · exact fin (fuel+1) l hl (aPn hlt hl hr) a w (h.1 hr)
   · refine ⟨fun hr'=>?_,fun i hi=>?_⟩
     · obtain ⟨k,hk⟩:=List.exists_mem_of_ne_nil _ hr
       have hkl:k < pre.size:=by obtain ⟨_,p,hp,_⟩:=mem_ready.1 hk; exact (aW.1 hp).1
       have:=(M7 (o:=o) hlt hl hkl).2 hk
       rw [hr'] at this; cases this
     · have hlt2:i < pre.size+1:=by
         obtain ⟨_,p,hp,_⟩:=mem_ready.1 hi
         have:=(aW.1 hp).1
         simpa using this
       by_cases hin:i < pre.size
       · have hi':=(M7 hlt hl hin).1 hi
         have h2:=h.2 i hi'
         have hp:pre[i]? = some pre[i]:=by simp [hin]
         have hli:i < l.size:=by omega
         have hset:(l.push false).setIfInBounds i true=(l.setIfInBounds i true).push false:=by
           apply Array.ext
           · simp
           · intro k h1 h2
             have q1:=cU (xs:=l.push false) (i:=i) (j:=k) (a:=true)
             rw [cC h1] at q1
             have q2:=gX (xs:=l.setIfInBounds i true) (x:=false) (i:=k)
             rw [cC h2] at q2
             apply gB
             rw [q1,q2,cU,gX]
             simp only [Array.size_push,Array.size_setIfInBounds]
             by_cases hik:i=k
             · subst hik; rw [if_pos rfl,if_pos (by omega),if_neg (by omega),if_pos rfl,if_pos hli]
             · rw [if_neg hik]
               by_cases hkl:k=l.size
               · rw [if_pos hkl,if_pos hkl]
               · rw [if_neg hkl,if_neg hkl,if_neg hik]
         have K:∀ a w,wpAny P .any pre (W3 P pre o Q) fuel (l.setIfInBounds i true) a w→wpAny P .any (pre.push o) Q (fuel+1) ((l.push false).setIfInBounds i true) a w:=fun a w q=>by
           rw [hset]
           refine ih _ (by simp [hl]) ?_ a w q
           intro k p hp' hk e he
           by_cases hik:i=k
           · subst hik
             obtain ⟨_,p2,hp2,hall⟩:=mem_ready.1 hi'
             rw [hp'] at hp2; cases hp2
             obtain ⟨d,hd1,hd2,rfl⟩:=lQ.1 he
             have:=hlt _ _ hp' d.on he
             rw [getD_set_ne false (by omega)]
             exact hall d hd1 hd2
           · rw [getD_set_ne false hik] at hk
             have:=hc k p hp' hk e he
             by_cases hie:i=e
             · subst hie; simp [Array.getD,hli]
             · rw [getD_set_ne false hie]; exact this
         unfold wpOp at h2 ⊢
         rw [S3 hin,hp]
         rw [hp] at h2
         dsimp only at h2 ⊢
         rw [aDd hg hp]
         by_cases hw:Region.wanted pre[i] (yielded pre a.tmps)=true
         · rw [if_pos hw] at h2 ⊢
           have up:LetsOut (W3 P pre o Q)→LetsOut Q:=fun ⟨a,w,q⟩=>⟨a,w,q⟩
           rcases h2 with h2 | ⟨h2,h3⟩
           · exact .inl (aKh (fun x a w hx q=>by cases x <;> first | exact absurd rfl hx | exact q) up (Oper.wp_mono K h2))
           · exact .inr ⟨h2,up h3⟩
         · rw [if_neg hw] at h2 ⊢
           exact K _ _ h2
       · obtain rfl:i=pre.size:=by omega
         exfalso
         apply hr
         have hall:=aYc hL hc (fun e he=>by
           obtain ⟨_,p,hp,hd⟩:=mem_ready.1 hi
           rw [hn] at hp; cases hp
           obtain ⟨d,hd1,hd2,rfl⟩:=lQ.1 he
           have:=hd d hd1 hd2
           rwa [oY (by have:=hdl _ he; omega)] at this)
         rw [tL]
         intro k hk
         obtain ⟨h1,p,hp,_⟩:=mem_ready.1 hk
         have hkl:=(aW.1 hp).1
         have h2:=hall k hkl
         have hkl':k < l.size:=by omega
         simp [Array.getD,hkl'] at h1 h2
         rw [h1] at h2; cases h2
end
section
variable {P:Program} {G:fS} {N:DR} {rx:RX} {pre:Array Oper} {o:Oper}
theorem aSk (hm:P.follows .mixedOrders=true) {id:Nat} (hd:O8 rx pre=true) (hL:aLt pre o=true) (hg:aBl pre=true) {al:List fZ} {ao:fZ} (hl:eJ rx pre (sC pre)=some al) (ho:jV .off (pre.push o) o=some ao)
   {K:List AV→List AObj→Prop} {env:List AV} {h:List AObj} {X:Ctx} {w:World} {a:Act} {Q:Exit→Act→World→Prop}
   (e:dG P G (some N) al (fun env h=>dG P G Option.none [ao] K env h) env h) (g:GH G X w h) (r:EnvOK X w h env a) (hQ:∀ a' w',aCx G X w h K a' w'→Q .normal a' w'):(Code.region id (pre.push o) true).wp P Q a w:=by
 have D:=bDd hd
 refine wp_region_any hm ?_
 have e1:(pre.push o).size=pre.size+1:=by simp
 have e2:Array.replicate (pre.size+1) false=(Array.replicate pre.size false).push false:=by
   apply Array.ext
   · simp
   · intro k h1 h2; simp [Array.getElem_push]
 rw [e1,e2]
 refine aUm (fun i p hp=>D.lt i p hp) hL hg _ _ (by simp) ?_ a _ (aIo hd hl e g r ?_)
 · intro i p hp hi
   exfalso
   have:=(aW.1 hp).1
   simp [Array.getD,this] at hi
 · rintro a' w' ⟨env',h',X',k1,k2,k3,k4⟩
   have hlst:eJ .off (pre.push o) [o]=some [ao]:=by simp only [eJ,ho]
   have wl:=U7 (ops:=pre.push o) (Q:=Q) [o] [ao] hlst env' h' X' w' a' k1 k2 k3 (fun a2 w2 ⟨env2,h2,X2,m1,m2,m3,m4⟩=>hQ a2 w2 ⟨env2,h2,X2,m1,m2,m3,k4.trans m4⟩)
   have hn:(pre.push o)[pre.size]? = some o:=by simp
   show wpOp P (pre.push o) Q pre.size (fun a w=>Q .normal a w) a' w'
   unfold wpOp
   rw [hn]
   exact wl
end

def rP:Option TH→Bool
 | some t=>t.split
 | Option.none=>false
def uX:List Oper→Option (List Oper × Oper)
 | []=>Option.none
 | [o]=>some ([],o)
 | a::b::l=>match uX (b::l) with
   | some (p,o)=>some (a::p,o)
   | Option.none=>Option.none
theorem Z2:∀ {l p:List Oper} {o:Oper},uX l=some (p,o)→l=p++[o]
 | [],_,_,h=>by cases h
 | [a],p,o,h=>by cases h; rfl
 | a :: b::l,p,o,h=>by
   rw [uX] at h
   cases hs:uX (b::l) with
   | none=>rw [hs] at h; cases h
   | some q=>
     rw [hs] at h
     cases h
     rw [Z2 hs]; rfl
def bCr (rx:RX) (ops:Array Oper):Bool:=match uX ops.toList with
 | some (p,o)=>O8 rx p.toArray && (aLt p.toArray o && aBl p.toArray)
 | Option.none=>false
def strip (rx:Bool) (th:Nat→Option TH):Code→Option lT
 | .skip=>some .skip
 | .region id ops true=>match rP (th id) with
   | true=>match uX ops.toList with
     | some (p,o)=>match eJ (aKy rx (th id)) p.toArray (sC p.toArray),jV .off ops o with
       | some l,some a=>some (.seq (.draw (th id) l) (.region [a]))
       | _,_=>Option.none
     | Option.none=>Option.none
   | false=>match eJ (aKy rx (th id)) ops (sC ops) with
     | some l=>some (.draw (th id) l)
     | Option.none=>Option.none
 | .region _ ops false=>match eJ .off ops ops.toList with
   | some l=>some (.region l)
   | Option.none=>Option.none
 | .seq a b=>match strip rx th a,strip rx th b with
   | some x,some y=>some (.seq x y)
   | _,_=>Option.none
 | .cond c a b=>match strip rx th a,strip rx th b with
   | some x,some y=>some (.cond c x y)
   | _,_=>Option.none
 | .block id c=>match strip rx th c with
   | some x=>some (.block id x)
   | Option.none=>Option.none
 | .loop c=>match strip rx th c with
   | some x=>some (.loop x)
   | Option.none=>Option.none
 | .exit id=>some (.exit id)
 | .ret=>some .ret
 | _=>Option.none

def jI (rx:Bool) (th:Nat→Option TH):Code→Bool
 | .region id ops true=>match rP (th id) with
   | true=>bCr (aKy rx (th id)) ops
   | false=>O8 (aKy rx (th id)) ops
 | .seq a b | .cond _ a b=>jI rx th a && jI rx th b
 | .block _ c | .loop c=>jI rx th c
 | _=>true

section
variable {P:Program} {G:fS} {rx:Bool} {th:Nat→Option TH}

theorem aKc {c:Code} {S:Type} (I:S→Act→World→Prop) (μ:S→Nat) {Q:Exit→Act→World→Prop} (s0:S) {a:Act} {w:World} (h₀:I s0 a w)
   (round:∀ s a w,I s a w→c.wp P (Exit.then (fun a' w'=>∃ s',I s' a' w'∧μ s' < μ s) Q) a w):(Code.loop c).wp P Q a w:=by
 intro b k cs
 have key:∀ n s a w,μ s=n→I s a w →
     ∃ e a' w',Q e a' w'∧Arrives P (lone (b.at a (.code c::.inLoop c::k)) cs w) b k cs e a' w':=by
   intro n
   induction n using Nat.strongRecOn with
   | _ n ih=>
     intro s a w hn hI
     obtain ⟨e,a₁,w₁,hq,harr⟩:=round s a w hI b (.inLoop c::k) cs
     cases e with
     | normal=>
       obtain ⟨s',hI₁,hlt⟩:=hq
       obtain ⟨e₂,a₂,w₂,hq₂,harr₂⟩:=ih (μ s') (hn ▸ hlt) s' a₁ w₁ rfl hI₁
       exact ⟨e₂,a₂,w₂,hq₂,.of_steps (Steps.trans harr (.one step_inLoop)) harr₂⟩
     | exit id=>exact ⟨_,a₁,w₁,hq,.pass (x:=.inLoop c) rfl (fun _ _=>.inl (by simp)) harr⟩
     | goto l=>exact ⟨_,a₁,w₁,hq,.pass (x:=.inLoop c) rfl (fun _ _=>.inl (by simp)) harr⟩
     | ret=>exact ⟨_,a₁,w₁,hq,.pass (x:=.inLoop c) rfl (fun _ _=>.inl (by simp)) harr⟩
     | panic ch=>exact ⟨_,a₁,w₁,hq,.pass (x:=.inLoop c) rfl (fun _ _=>.inl (by simp)) harr⟩
     | outgrown=>exact ⟨_,a₁,w₁,hq,.pass (x:=.inLoop c) rfl (fun _ _=>.inl (by simp)) harr⟩
 obtain ⟨e,a',w',hq,harr⟩:=key _ s0 a w rfl h₀
 exact ⟨e,a',w',hq,.of_steps (.one step_loop) harr⟩

theorem aCx.trans {X X1:Ctx} {w w1:World} {h h1:List AObj} {K:List AV→List AObj→Prop} {a':Act} {w':World} (t:Tr X w h X1 w1 h1) (k:aCx G X1 w1 h1 K a' w'):aCx G X w h K a' w':=by
 obtain ⟨env',h',X',k1,k2,k3,k4⟩:=k
 exact ⟨env',h',X',k1,k2,k3,t.trans k4⟩

theorem rD (hm:P.follows .mixedOrders=true):∀ (c:Code) (ac:lT),jI rx th c=true→strip rx th c=some ac→∀ (Q:Exit→List AV→List AObj→Prop) (env:List AV) (h:List AObj),awx P G ac Q env h→AW P G c Q env h
 | .skip,ac,hd,hs,Q,env,h,e=>by
   simp only [strip,aB] at hs; subst hs
   intro X w a g r
   exact wp_skip ⟨env,h,X,e,g,r,.refl _ _ _⟩
 | .region id ops false,ac,hd,hs,Q,env,h,e=>by
   simp only [strip] at hs
   cases hl:eJ .off ops ops.toList with
   | none=>simp [hl] at hs
   | some al=>
     simp only [hl,aB] at hs
     subst hs
     intro X w a g r
     exact wp_region_list (U7 ops.toList al hl env h X w a e g r (fun a' w' k=>k))
 | .region id ops true,ac,hd,hs,Q,env,h,e=>by
   simp only [strip] at hs
   simp only [jI] at hd
   cases hq:rP (th id) with
   | true=>
     rw [hq] at hs hd
     simp only [bCr] at hs hd
     cases hb:uX ops.toList with
     | none=>simp [hb] at hs
     | some q=>
       obtain ⟨p,o⟩:=q
       rw [hb] at hs hd
       simp only [aA] at hs hd
       have hops:ops=p.toArray.push o:=by
         apply Array.ext'
         rw [Z2 hb]; simp
       split at hs
       · rename_i l a' h2 h3
         simp only [aB] at hs
         subst hs
         intro X w a g r
         rw [hops]
         exact aSk hm hd.1 hd.2.1 hd.2.2 h2 (hops ▸ h3) e g r (fun a' w' k=>k)
       · cases hs
   | false=>
   rw [hq] at hs hd
   simp only at hs hd
   cases hl:eJ (aKy rx (th id)) ops (sC ops) with
   | none=>simp [hl] at hs
   | some al=>
     simp only [hl,aB] at hs
     subst hs
     intro X w a g r
     exact bIs hm hd hl e g r (fun a' w' k=>k)
 | .seq x y,ac,hd,hs,Q,env,h,e=>by
   simp only [jI,aA] at hd
   simp only [strip] at hs
   cases hx:strip rx th x with
   | none=>simp [hx] at hs
   | some ax=>
   cases hy:strip rx th y with
   | none=>simp [hx,hy] at hs
   | some ay=>
     simp only [hx,hy,aB] at hs
     subst hs
     intro X w a g r
     refine wp_seq (wp_mono (rD hm x ax hd.1 hx _ env h e X w a g r) ?_)
     intro e' a' w' k
     cases e' with
     | normal=>
       obtain ⟨env',h',X',k1,k2,k3,k4⟩:=k
       exact wp_mono (rD hm y ay hd.2 hy _ env' h' k1 X' w' a' k2 k3) (fun e2 a2 w2 k5=>k5.trans k4)
     | _=>exact k
 | .cond c x y,ac,hd,hs,Q,env,h,e=>by
   simp only [jI,aA] at hd
   simp only [strip] at hs
   cases hx:strip rx th x with
   | none=>simp [hx] at hs
   | some ax=>
   cases hy:strip rx th y with
   | none=>simp [hx,hy] at hs
   | some ay=>
     simp only [hx,hy,aB] at hs
     subst hs
     intro X w a g r
     have rc:=iC g r c
     simp only [awx] at e
     cases hc:aev G env c with
     | b t=>
       rw [hc] at e rc
       have hv:=aFn rc
       cases t with
       | true=>exact wp_cond_true hv (rD hm x ax hd.1 hx _ env h (e.1 rfl) X w a g r)
       | false=>exact wp_cond_false hv (rD hm y ay hd.2 hy _ env h (e.2 rfl) X w a g r)
     | _=>rw [hc] at e; exact e.elim
 | .block id c,ac,hd,hs,Q,env,h,e=>by
   simp only [jI] at hd
   simp only [strip] at hs
   cases hx:strip rx th c with
   | none=>simp [hx] at hs
   | some ax=>
     simp only [hx,aB] at hs
     subst hs
     intro X w a g r
     refine wp_block (wp_mono (rD hm c ax hd hx _ env h e X w a g r) ?_)
     intro e' a' w' k
     cases e' with
     | exit i=>
       simp only [Exit.inBlock]
       obtain ⟨env',h',X',k1,k2,k3,k4⟩:=k
       simp only [H9] at k1
       split
       · rename_i hi; rw [if_pos hi] at k1; exact ⟨env',h',X',k1,k2,k3,k4⟩
       · rename_i hi; rw [if_neg hi] at k1; exact ⟨env',h',X',k1,k2,k3,k4⟩
     | _=>exact k
 | .loop c,ac,hd,hs,Q,env,h,e=>by
   simp only [jI] at hd
   simp only [strip] at hs
   cases hx:strip rx th c with
   | none=>simp [hx] at hs
   | some ax=>
     simp only [hx,aB] at hs
     subst hs
     intro X w a g r
     simp only [awx,Loop] at e
     obtain ⟨S,I,μ,s0,h0,hround⟩:=e
     refine aKc (S:=S × List AV × List AObj × Ctx) (fun s a' w'=>I s.1 s.2.1 s.2.2.1∧GH G s.2.2.2 w' s.2.2.1∧EnvOK s.2.2.2 w' s.2.2.1 s.2.1 a'∧Tr X w h s.2.2.2 w' s.2.2.1) (fun s=>μ s.1) (s0,env,h,X) ⟨h0,g,r,.refl _ _ _⟩ ?_
     rintro ⟨s1,env1,h1,X1⟩ a1 w1 ⟨i1,g1,r1,t1⟩
     refine wp_mono (rD hm c ax hd hx _ env1 h1 (hround s1 env1 h1 i1) X1 w1 a1 g1 r1) ?_
     intro e' a' w' k
     cases e' with
     | normal=>
       obtain ⟨env',h',X',⟨s',k1,k1'⟩,k2,k3,k4⟩:=k
       exact ⟨(s',env',h',X'),⟨k1,k2,k3,t1.trans k4⟩,k1'⟩
     | _=>exact k.trans t1
 | .exit id,ac,hd,hs,Q,env,h,e=>by
   simp only [strip,aB] at hs; subst hs
   intro X w a g r
   exact wp_exit ⟨env,h,X,e,g,r,.refl _ _ _⟩
 | .ret,ac,hd,hs,Q,env,h,e=>by
   simp only [strip,aB] at hs; subst hs
   intro X w a g r
   exact wp_ret ⟨env,h,X,e,g,r,.refl _ _ _⟩
 | .rangeFunc _ _ _ _,ac,hd,hs,Q,env,h,e=>by simp [strip] at hs
 | .scope _,ac,hd,hs,Q,env,h,e=>by simp [strip] at hs
 | .label _,ac,hd,hs,Q,env,h,e=>by simp [strip] at hs
 | .goto _,ac,hd,hs,Q,env,h,e=>by simp [strip] at hs
 | .refuse _,ac,hd,hs,Q,env,h,e=>by simp [strip] at hs
end

mutual
def bW:AV→AV→List Nat
 | .hs id _ _ _,.own .. => [id]
 | .agg xs,.agg rs=>finIdsL xs rs
 | .tup xs,.tup rs=>finIdsL xs rs
 | _,_=>[]
def finIdsL:List AV→List AV→List Nat
 | x::xs,r::rs=>bW x r++finIdsL xs rs
 | _,_=>[]
end
mutual
def jD (h:List AObj):AV→AV→List Nat
 | .hs _ _ _ _,.own .. => []
 | .e0,.own .. => []
 | .agg xs,.agg rs=>finRchL h xs rs
 | .tup xs,.tup rs=>finRchL h xs rs
 | x,_=>dR dep h x
def finRchL (h:List AObj):List AV→List AV→List Nat
 | x::xs,r::rs=>jD h x r++finRchL h xs rs
 | _,_=>[]
end
mutual
def lD (h:List AObj):AV→AV→Prop
 | .hs id off n t,.own sz cells m=>t=false∧m=n∧∃ cs,h[id]? = some (.arr false sz cs)∧off+n * sz≤cs.length∧cells=(cs.drop off).take (n * sz)∧persL cells=true
 | .e0,.own sz cells m=>cells=[]∧m=0
 | .agg xs,.agg rs=>finOKL h xs rs
 | .tup xs,.tup rs=>finOKL h xs rs
 | x,r=>r=gH dep h x
def finOKL (h:List AObj):List AV→List AV→Prop
 | [],[]=>True
 | x::xs,r::rs=>lD h x r∧finOKL h xs rs
 | _,_=>False
end

def Fin (h:List AObj) (x r:AV):Prop:=(r=x∧pers x=true)∨(lD h x r∧(bW x r).Nodup∧∀ i ∈ bW x r,i ∉ jD h x r)

def FB (X:Ctx) (ids:List Nat) (b:Nat):Prop:=X.F b∨∃ id o,id ∉ ids∧X.ι id=some (b,o)

section
variable {P:Program} {G:fS} {X:Ctx} {w:World} {h:List AObj}

def W8 (X:Ctx) (ids:List Nat):List Nat:=ids.filterMap fun i=>(X.ι i).map (·.1)
theorem aFp (X:Ctx) (a b:List Nat):W8 X (a++b)=W8 X a++W8 X b:=by simp [W8]
theorem aJk {X:Ctx} {ids:List Nat} {b:Nat} (hb:b ∈ W8 X ids):∃ id ∈ ids,∃ o,X.ι id=some (b,o):=by
 simp only [W8,List.mem_filterMap,bI] at hb
 obtain ⟨id,hi,⟨c,o⟩,hc,rfl⟩:=hb
 exact ⟨id,hi,o,hc⟩
theorem P1 (g:GH G X w h):∀ {ids:List Nat},ids.Nodup→(W8 X ids).Nodup
 | [],_=>by simp [W8]
 | id::ids,hn=>by
   rw [iV] at hn
   have ih:=P1 g hn.2
   simp only [W8,kY]
   cases hb:X.ι id with
   | none=>simp only [Option.map_none]; exact ih
   | some bo=>
     obtain ⟨b,o⟩:=bo
     simp only [hb,cJ]
     rw [iV]
     refine ⟨fun hm=>?_,ih⟩
     obtain ⟨id',hi',o',ho'⟩:=aJk (X:=X) (ids:=ids) hm
     exact hn.1 (g.inj _ _ _ _ _ hb ho' ▸ hi')

theorem iI (g:GH G X w h) (ids:List Nat) {x:AV} {v:Value} (r:RV X w h x v) (hd:∀ i ∈ ids,i ∉ dR dep h x):RR (FB X ids) w (gH dep h x) v []:=by
 refine RR.val ((Q1 g dep x v r).monoF ?_)
 rintro b (hb | ⟨id,hi,o,ho⟩)
 · exact .inl hb
 · exact .inr ⟨id,o,fun hm=>hd id hm hi,ho⟩

mutual
theorem bDa (g:GH G X w h) (ids:List Nat):∀ (x r:AV) (v:Value),lD h x r→RV X w h x v→(∀ i ∈ ids,i ∉ jD h x r)→RR (FB X ids) w r v (W8 X (bW x r))
 | .hs id off n t,r,v,e,rv,hd=>by
   have gen:lD h (.hs id off n t) r=(r=gH dep h (.hs id off n t))→bW (.hs id off n t) r=[]→jD h (.hs id off n t) r=dR dep h (.hs id off n t)→RR (FB X ids) w r v (W8 X (bW (.hs id off n t) r)):=by
     intro e1 e2 e3
     rw [e1] at e
     rw [e2,e]
     rw [e3] at hd
     exact iI g ids rv hd
   cases r with
   | own sz cells m=>
     clear gen
     simp only [lD] at e
     obtain ⟨rfl,rfl,cs,hid,hle,rfl,hp⟩:=e
     simp only [bW,RR]
     cases rv with
     | dead hr hd' _=>simp [AV.refs] at hr; subst hr; rw [hid] at hd'; cases hd'
     | hs0 hid' hf ho=>exact .inr ⟨by simp,rfl,_,rfl⟩
     | @hs _ _ _ _ fz' s' cells' b o cap T N hid' hι hsh hn hcc hN htt hff=>
       rw [hid] at hid'; cases hid'
       have ok:=g.objs _ _ hid
       cases ok with
       | absent h0=>rw [h0] at hι; cases hι
       | @arr _ _ _ b' o' cur T' fr h0 hb hf1 hf2 hl h1 hr=>
       rw [h0] at hι; cases hι
       obtain ⟨hF,rfl⟩:=hf2 rfl
       have hNs:N=cur.size:=by simp [World.shape?,hb] at hsh; exact hsh.2.symm
       subst hNs
       refine .inl ⟨b,o+off,cur,T',cap,by simp [W8,h0],rfl,hb,by simp; omega,hcc,hN,?_,?_⟩
       · intro j u hj hu
         simp at hj
         exact h1 (off+j) u (by omega) (by rw [← dK]; exact hu)
       · intro j y u hy hu
         have hy':=hy
         rw [eL] at hy
         split at hy
         · rw [dX] at hy
           exact (hr (off+j) y u hy (by rw [← dK]; exact hu)).pers (iB hp j y hy') (fun b hb=>.inl hb) (fun _ _=>rfl)
         · cases hy
   | _=>exact gen rfl rfl rfl
 | .e0,r,v,e,rv,hd=>by
   have gen:lD h .e0 r=(r=gH dep h .e0)→bW .e0 r=[]→jD h .e0 r=dR dep h .e0→RR (FB X ids) w r v (W8 X (bW .e0 r)):=by
     intro e1 e2 e3
     rw [e1] at e
     rw [e2,e]
     rw [e3] at hd
     exact iI g ids rv hd
   cases r with
   | own sz cells m=>
     clear gen
     simp only [lD] at e
     obtain ⟨rfl,rfl⟩:=e
     simp only [bW,RR]
     cases rv with
     | e0 a=>exact .inr ⟨trivial,trivial,a,rfl⟩
     | dead hr _ _=>simp [AV.refs] at hr
   | _=>exact gen rfl rfl rfl
 | .agg xs,r,v,e,rv,hd=>by
   have gen:lD h (.agg xs) r=(r=gH dep h (.agg xs))→bW (.agg xs) r=[]→jD h (.agg xs) r=dR dep h (.agg xs)→RR (FB X ids) w r v (W8 X (bW (.agg xs) r)):=by
     intro e1 e2 e3
     rw [e1] at e
     rw [e2,e]
     rw [e3] at hd
     exact iI g ids rv hd
   cases r with
   | agg rs=>
     clear gen
     simp only [lD] at e
     simp only [bW]
     cases rv with
     | @agg _ vs hl h1 hr=>exact ⟨vs,rfl,h1,finL_ok g ids xs rs vs.toList e (by simpa using hl) (fun j a v ha hv=>hr j a v ha (by simpa using hv)) hd⟩
     | dead hr _ _=>simp [AV.refs] at hr
   | _=>exact gen rfl rfl rfl
 | .tup xs,r,v,e,rv,hd=>by
   have gen:lD h (.tup xs) r=(r=gH dep h (.tup xs))→bW (.tup xs) r=[]→jD h (.tup xs) r=dR dep h (.tup xs)→RR (FB X ids) w r v (W8 X (bW (.tup xs) r)):=by
     intro e1 e2 e3
     rw [e1] at e
     rw [e2,e]
     rw [e3] at hd
     exact iI g ids rv hd
   cases r with
   | tup rs=>
     clear gen
     simp only [lD] at e
     simp only [bW]
     cases rv with
     | @tup _ vs hl hr=>exact ⟨vs,rfl,finL_ok g ids xs rs vs.toList e (by simpa using hl) (fun j a v ha hv=>hr j a v ha (by simpa using hv)) hd⟩
     | dead hr _ _=>simp [AV.refs] at hr
   | _=>exact gen rfl rfl rfl
 | .u,r,v,e,rv,hd=>by
   have e':r=gH dep h (.u):=by cases r <;> exact e
   have e2:bW (.u) r=[]:=by cases r <;> rfl
   have e3:jD h (.u) r=dR dep h (.u):=by cases r <;> rfl
   rw [e2,e']
   rw [e3] at hd
   exact iI g ids rv hd
 | .b x,r,v,e,rv,hd=>by
   have e':r=gH dep h (.b x):=by cases r <;> exact e
   have e2:bW (.b x) r=[]:=by cases r <;> rfl
   have e3:jD h (.b x) r=dR dep h (.b x):=by cases r <;> rfl
   rw [e2,e']
   rw [e3] at hd
   exact iI g ids rv hd
 | .i k n,r,v,e,rv,hd=>by
   have e':r=gH dep h (.i k n):=by cases r <;> exact e
   have e2:bW (.i k n) r=[]:=by cases r <;> rfl
   have e3:jD h (.i k n) r=dR dep h (.i k n):=by cases r <;> rfl
   rw [e2,e']
   rw [e3] at hd
   exact iI g ids rv hd
 | .s l,r,v,e,rv,hd=>by
   have e':r=gH dep h (.s l):=by cases r <;> exact e
   have e2:bW (.s l) r=[]:=by cases r <;> rfl
   have e3:jD h (.s l) r=dR dep h (.s l):=by cases r <;> rfl
   rw [e2,e']
   rw [e3] at hd
   exact iI g ids rv hd
 | .p v',r,v,e,rv,hd=>by
   have e':r=gH dep h (.p v'):=by cases r <;> exact e
   have e2:bW (.p v') r=[]:=by cases r <;> rfl
   have e3:jD h (.p v') r=dR dep h (.p v'):=by cases r <;> rfl
   rw [e2,e']
   rw [e3] at hd
   exact iI g ids rv hd
 | .sl cells n,r,v,e,rv,hd=>by
   have e':r=gH dep h (.sl cells n):=by cases r <;> exact e
   have e2:bW (.sl cells n) r=[]:=by cases r <;> rfl
   have e3:jD h (.sl cells n) r=dR dep h (.sl cells n):=by cases r <;> rfl
   rw [e2,e']
   rw [e3] at hd
   exact iI g ids rv hd
 | .own sz cells n,r,v,e,rv,hd=>by
   have e':r=gH dep h (.own sz cells n):=by cases r <;> exact e
   have e2:bW (.own sz cells n) r=[]:=by cases r <;> rfl
   have e3:jD h (.own sz cells n) r=dR dep h (.own sz cells n):=by cases r <;> rfl
   rw [e2,e']
   rw [e3] at hd
   exact iI g ids rv hd
 | .ptr id off,r,v,e,rv,hd=>by
   have e':r=gH dep h (.ptr id off):=by cases r <;> exact e
   have e2:bW (.ptr id off) r=[]:=by cases r <;> rfl
   have e3:jD h (.ptr id off) r=dR dep h (.ptr id off):=by cases r <;> rfl
   rw [e2,e']
   rw [e3] at hd
   exact iI g ids rv hd
 | .box cells off,r,v,e,rv,hd=>by
   have e':r=gH dep h (.box cells off):=by cases r <;> exact e
   have e2:bW (.box cells off) r=[]:=by cases r <;> rfl
   have e3:jD h (.box cells off) r=dR dep h (.box cells off):=by cases r <;> rfl
   rw [e2,e']
   rw [e3] at hd
   exact iI g ids rv hd
 | .mp id,r,v,e,rv,hd=>by
   have e':r=gH dep h (.mp id):=by cases r <;> exact e
   have e2:bW (.mp id) r=[]:=by cases r <;> rfl
   have e3:jD h (.mp id) r=dR dep h (.mp id):=by cases r <;> rfl
   rw [e2,e']
   rw [e3] at hd
   exact iI g ids rv hd
 | .mapv ks vs,r,v,e,rv,hd=>by
   have e':r=gH dep h (.mapv ks vs):=by cases r <;> exact e
   have e2:bW (.mapv ks vs) r=[]:=by cases r <;> rfl
   have e3:jD h (.mapv ks vs) r=dR dep h (.mapv ks vs):=by cases r <;> rfl
   rw [e2,e']
   rw [e3] at hd
   exact iI g ids rv hd
 | .fn f first capt,r,v,e,rv,hd=>by
   have e':r=gH dep h (.fn f first capt):=by cases r <;> exact e
   have e2:bW (.fn f first capt) r=[]:=by cases r <;> rfl
   have e3:jD h (.fn f first capt) r=dR dep h (.fn f first capt):=by cases r <;> rfl
   rw [e2,e']
   rw [e3] at hd
   exact iI g ids rv hd
theorem finL_ok (g:GH G X w h) (ids:List Nat):∀ (xs rs:List AV) (vs:List Value),finOKL h xs rs→xs.length=vs.length→(∀ (j:Nat) (a:AV) (v:Value),xs[j]? = some a→vs[j]? = some v→RV X w h a v)→(∀ i ∈ ids,i ∉ finRchL h xs rs) →
   RRs (FB X ids) w rs vs (W8 X (finIdsL xs rs))
 | [],[],[],e,hl,hr,hd=>by simp [finIdsL,W8,RRs]
 | x :: xs,r::rs,v::vs,e,hl,hr,hd=>by
   simp only [finOKL] at e
   simp only [finRchL] at hd
   simp only [finIdsL,aFp]
   exact ⟨_,_,rfl,bDa g ids x r v e.1 (hr 0 x v rfl rfl) (fun i hi hm=>hd i hi (cQ _ hm)),
     finL_ok g ids xs rs vs e.2 (by simpa using hl) (fun j a v ha hv=>hr (j+1) a v (by simpa using ha) (by simpa using hv)) (fun i hi hm=>hd i hi (dC _ hm))⟩
 | [],r::rs,vs,e,hl,hr,hd=>by simp [finOKL] at e
 | x::xs,[],vs,e,hl,hr,hd=>by simp [finOKL] at e
 | [],[],_::_,e,hl,hr,hd=>by simp at hl
 | _::_,_::_,[],e,hl,hr,hd=>by simp at hl
end

mutual
theorem aIh:∀ (x r:AV),lD h x r→∀ i ∈ bW x r,∃ sz cs,h[i]? = some (.arr false sz cs)
 | .hs id off n t,r,e,i,hi=>by
   cases r with
   | own sz cells m=>
     simp only [lD] at e
     obtain ⟨rfl,rfl,cs,hid,_⟩:=e
     simp only [bW,aS] at hi
     subst hi
     exact ⟨_,_,hid⟩
   | _=>simp [bW] at hi
 | .agg xs,r,e,i,hi=>by
   cases r with
   | agg rs=>simp only [lD] at e; simp only [bW] at hi; exact finL_live xs rs e i hi
   | _=>simp [bW] at hi
 | .tup xs,r,e,i,hi=>by
   cases r with
   | tup rs=>simp only [lD] at e; simp only [bW] at hi; exact finL_live xs rs e i hi
   | _=>simp [bW] at hi
 | .e0,r,e,i,hi=>by cases r <;> simp [bW] at hi
 | .u,r,e,i,hi=>by cases r <;> simp [bW] at hi
 | .b x,r,e,i,hi=>by cases r <;> simp [bW] at hi
 | .i k n,r,e,i,hi=>by cases r <;> simp [bW] at hi
 | .s l,r,e,i,hi=>by cases r <;> simp [bW] at hi
 | .p v',r,e,i,hi=>by cases r <;> simp [bW] at hi
 | .sl cells n,r,e,i,hi=>by cases r <;> simp [bW] at hi
 | .own sz cells n,r,e,i,hi=>by cases r <;> simp [bW] at hi
 | .ptr id off,r,e,i,hi=>by cases r <;> simp [bW] at hi
 | .box cells off,r,e,i,hi=>by cases r <;> simp [bW] at hi
 | .mp id,r,e,i,hi=>by cases r <;> simp [bW] at hi
 | .mapv ks vs,r,e,i,hi=>by cases r <;> simp [bW] at hi
 | .fn f first capt,r,e,i,hi=>by cases r <;> simp [bW] at hi
theorem finL_live:∀ (xs rs:List AV),finOKL h xs rs→∀ i ∈ finIdsL xs rs,∃ sz cs,h[i]? = some (.arr false sz cs)
 | [],[],e,i,hi=>by simp [finIdsL] at hi
 | x::xs,r::rs,e,i,hi=>by
   simp only [finOKL] at e
   simp only [finIdsL,bA] at hi
   rcases hi with hi | hi
   · exact aIh x r e.1 i hi
   · exact finL_live xs rs e.2 i hi
 | [],_::_,e,i,hi=>by simp [finOKL] at e
 | _::_,[],e,i,hi=>by simp [finOKL] at e
end

def aCm (P:Program) (env:List AV) (h:List AObj):ResultVar→Option AV
 | .tmp t=>some (env.getD t .u)
 | .cell a T=>wX P T h (env.getD a .u)
def zL (P:Program) (env:List AV) (h:List AObj):List ResultVar→Option (List AV)
 | []=>some []
 | r::rs=>match aCm P env h r,zL P env h rs with
   | some x,some l=>some (x::l)
   | _,_=>Option.none
def aJr (P:Program) (rs:List ResultVar) (env:List AV) (h:List AObj):Option AV:=
 match zL P env h rs with
 | some [x]=>some x
 | some l=>some (.tup l)
 | Option.none=>Option.none

def aGv (tmps:Array Value):ResultVar→Go.Sem Value
 | .tmp t=>pure (tmps.getD t undef)
 | .cell b t=>do loadVar t (← asAddr (tmps.getD b undef))
theorem aLc (fn:Func) (tmps:Array Value):results fn tmps=(do
   let vs ← fn.results.mapM (aGv tmps)
   pure (if h:vs.size=1 then vs[0] else .tuple vs)):=rfl

theorem bBa {env:List AV} {a:Act} (g:GH G X w h) (r:EnvOK X w h env a) (rv:ResultVar) {x:AV} (e:aCm P env h rv=some x) :
   ∃ v,(aGv a.tmps rv).run P w=.ok v w∧RV X w h x v:=by
 cases rv with
 | tmp t=>
   simp only [aCm,aB] at e
   subst e
   exact ⟨_,rfl,iC g r (.tmp t)⟩
 | cell b T=>
   simp only [aCm] at e
   have rb:=iC g r (.tmp b)
   simp only [aev,Act.eval] at rb
   obtain ⟨u,hu,ru⟩:=aQs g rb e
   refine ⟨u,?_,ru⟩
   have:∃ ad,a.tmps.getD b undef=.pointer (some ad):=by
     unfold wX at e
     cases ho:aJs h (env.getD b .u) with
     | none=>rw [ho] at e; cases e
     | some q=>
       obtain ⟨cells,off⟩:=q
       obtain ⟨b',o,cs,T',fr,hv,_⟩:=aUl g rb ho
       exact ⟨_,hv⟩
   obtain ⟨ad,had⟩:=this
   simp only [aGv]
   rw [had] at hu ⊢
   simpa [Instr.loadAt,Instr.sureAddr,asAddr] using hu

theorem aJq {env:List AV} {a:Act} (g:GH G X w h) (r:EnvOK X w h env a):∀ (rs:List ResultVar) (l:List AV),zL P env h rs=some l →
   ∃ vs:List Value,(rs.mapM (aGv a.tmps)).run P w=.ok vs w∧l.length=vs.length∧∀ (j:Nat) (x:AV) (v:Value),l[j]? = some x→vs[j]? = some v→RV X w h x v
 | [],l,e=>by
   simp only [zL,aB] at e
   subst e
   exact ⟨[],by simp,rfl,by simp⟩
 | rv::rs,l,e=>by
   simp only [zL] at e
   cases h1:aCm P env h rv with
   | none=>simp [h1] at e
   | some x=>
   cases h2:zL P env h rs with
   | none=>simp [h1,h2] at e
   | some l'=>
     simp only [h1,h2,aB] at e
     subst e
     obtain ⟨v,hv,rx⟩:=bBa g r rv h1
     obtain ⟨vs,hvs,hl,hr⟩:=aJq g r rs l' h2
     refine ⟨v::vs,?_,by simp [hl],?_⟩
     · rw [List.mapM_cons,bE,hv,aR,bE,hvs]; rfl
     · intro j y u hy hu
       cases j with
       | zero=>simp at hy hu; exact hy ▸ hu ▸ rx
       | succ j=>exact hr j y u (by simpa using hy) (by simpa using hu)

theorem aUi {env:List AV} {a:Act} {fn:Func} (g:GH G X w h) (r:EnvOK X w h env a) {x:AV} (e:aJr P fn.results.toList env h=some x):∃ v,(results fn a.tmps).run P w=.ok v w∧RV X w h x v:=by
 unfold aJr at e
 cases hl:zL P env h fn.results.toList with
 | none=>simp [hl] at e
 | some l=>
   obtain ⟨vs,hvs,hlen,hr⟩:=aJq g r _ l hl
   have hrun:(results fn a.tmps).run P w=.ok (if h:vs.toArray.size=1 then vs.toArray[0] else .tuple vs.toArray) w:=by
     rw [aLc,bE,Array.mapM_eq_mapM_toList,Sem.run_map,hvs]
     rfl
   rw [hrun]
   rw [hl] at e
   clear hl hvs hrun
   cases l with
   | nil=>
     cases vs with
     | cons=>simp at hlen
     | nil=>
       simp only [aB] at e
       subst e
       exact ⟨_,rfl,by simpa using .tup (vs := #[]) rfl (by simp)⟩
   | cons y l=>
     cases vs with
     | nil=>simp at hlen
     | cons v vs=>
       cases l with
       | nil=>
         have hvs0:vs=[]:=List.eq_nil_of_length_eq_zero (by simpa using hlen.symm)
         subst hvs0
         simp only [aB] at e
         subst e
         exact ⟨v,by simp,hr 0 y v rfl rfl⟩
       | cons z l=>
         simp only [aB] at e
         subst e
         refine ⟨_,rfl,?_⟩
         have:(v::vs).toArray.size ≠ 1:=by simp at hlen ⊢; intro h0; rw [h0] at hlen; simp at hlen
         rw [dif_neg this]
         exact .tup (by simpa using hlen) (fun j a v ha hv=>hr j a v ha (by simpa using hv))
end

theorem aOv {P:Program} {G:fS} {f:FuncId} {fn:Func} {c:Code} {args:List AV} {r:AV} (hf:P.funcs[f]? = some fn) (hb:fn.body=some c) (hcal:iO P f=true) (hG:rL G)
   (h:AW P G c (fun e env h=>(e=.normal∨e=.ret)∧∃ x,aJr P fn.results.toList env h=some x∧Fin h x r) (args++List.replicate (fn.ntmps - args.length) .u) []):Ctr P G f args r:=by
 refine ⟨hcal,hG,?_⟩
 intro F w vs hF hgl hl hr
 have g0:GH G (.none F) w []:=⟨fun id ob h=>by simp at h,fun id bo h=>by simp [Ctx.none] at h,fun id id' b o o' h=>by simp [Ctx.none] at h,fun id b o h=>by simp [Ctx.none] at h,hF,hgl⟩
 have r0:EnvOK (.none F) w [] (args++List.replicate (fn.ntmps - args.length) .u) { tmps:=vs++Array.replicate (fn.ntmps - vs.size) undef,defers:=[] }:=by
   refine ⟨rfl,by simp [hl],?_⟩
   intro j x v hx hv
   by_cases hj:j < args.length
   · rw [aD hj] at hx
     rw [gS (by omega)] at hv
     exact hr j x v hx hv
   · rw [aK (by omega),List.getElem?_replicate] at hx
     split at hx
     · cases hx; exact .u _
     · cases hx
 refine calls_of_wp hf hb (wp_mono (h (.none F) w _ g0 r0) ?_)
 rintro e a' w' ⟨env',h',X',⟨he,x,hres,hfin⟩,g',r',t⟩
 obtain ⟨v,hrun,rx⟩:=aUi g' r' hres
 have hgr:B0 w w':=⟨fun b hb=>t.step.frame b hb (fun id o e=>by simp [Ctx.none] at e),t.step.size,t.step.os,t.step.tape,t.step.output⟩
 have hι:∀ id b o,X'.ι id=some (b,o)→w.heap.size≤b:=by
   intro id b o hb
   rcases t.step.new id b o hb with h | ⟨_,_,h⟩
   · exact h
   · simp [Ctx.none] at h
 have hXF:∀ b,X'.F b→F b∨w.heap.size≤b:=by
   intro b hb
   rcases t.step.fnew b hb with h | h | ⟨_,_,h⟩
   · exact .inl h
   · exact .inr h
   · simp [Ctx.none] at h
 have hFB:∀ (ids:List Nat),(∀ b,F b→FB X' ids b)∧(∀ b,FB X' ids b→F b∨w.heap.size≤b)∧(∀ b,FB X' ids b→b < w'.heap.size):=by
   intro ids
   refine ⟨fun b hb=>.inl (t.ext.fr b hb),?_,?_⟩
   · rintro b (hb | ⟨id,o,_,ho⟩)
     · exact hXF b hb
     · exact .inr (hι _ _ _ ho)
   · rintro b (hb | ⟨id,o,_,ho⟩)
     · exact g'.fbnd b hb
     · exact g'.bnd _ _ _ ho
 have hR:∃ v' F' bs,Ending.returned v=.returned v'∧B0 w w'∧(∀ b,F b→F' b)∧(∀ b,F' b→F b∨w.heap.size≤b)∧(∀ b,F' b→b < w'.heap.size)∧RR F' w' r v' bs∧bs.Nodup∧∀ b ∈ bs,¬ F' b∧w.heap.size≤b:=by
   rcases hfin with ⟨rfl,hp⟩ | ⟨hok,hnd,hdis⟩
   · exact ⟨v,FB X' [],[],rfl,hgr,(hFB []).1,(hFB []).2.1,(hFB []).2.2,RR.val (rx.pers hp (fun b hb=>.inl hb) (fun _ _=>rfl)),cR,by simp⟩
   · refine ⟨v,FB X' (bW x r),W8 X' (bW x r),rfl,hgr,(hFB _).1,(hFB _).2.1,(hFB _).2.2,bDa g' _ x r v hok rx hdis,P1 g' hnd,?_⟩
     intro b hb
     obtain ⟨id,hi,o,ho⟩:=aJk hb
     refine ⟨?_,hι _ _ _ ho⟩
     rintro (hF' | ⟨id',o',hn,ho'⟩)
     · obtain ⟨sz,cs,hid⟩:=aIh x r hok id hi
       have ok:=g'.objs _ _ hid
       cases ok with
       | arr h0 h1 h2 h3=>rw [h0] at ho; cases ho; exact (h3 rfl).1 hF'
       | absent h0=>rw [h0] at ho; cases ho
     · exact hn (g'.inj _ _ _ _ _ ho ho' ▸ hi)
 rcases he with rfl | rfl
 · exact ⟨r'.defers,v,hrun,hR⟩
 · exact ⟨r'.defers,v,hrun,hR⟩
theorem uZ {rx:Bool} {th:Nat→Option TH} {P:Program} (hm:P.follows .mixedOrders=true) {G:fS} {f:FuncId} {fn:Func} {c:Code} {ac:lT} {args:List AV} {r:AV} (hf:P.funcs[f]? = some fn) (hb:fn.body=some c) (hcal:iO P f=true) (hd:jI rx th c=true) (hs:strip rx th c=some ac) (hG:rL G)
   (h:awx P G ac (fun e env h=>(e=.normal∨e=.ret)∧∃ x,aJr P fn.results.toList env h=some x∧Fin h x r) (args++List.replicate (fn.ntmps - args.length) .u) []):Ctr P G f args r:=
 aOv hf hb hcal hG (rD hm c ac hd hs _ _ _ h)

section
variable (P:Program) (G:fS) (dr:Option DR)

def dW (op:Op) (d:Option Nat) (os:List fZ) (K:List AV→List AObj→Prop) (env:List AV) (h:List AObj):Prop:=
 rI P G dr op (fun r h'=>dG P G dr os K (gN env d r) h') env h
def oM (x:Option AV) (d:Option Nat) (os:List fZ) (K:List AV→List AObj→Prop) (env:List AV) (h:List AObj):Prop:=
 match x with
 | some v=>dG P G dr os K (gN env d v) h
 | Option.none=>False
def aTf (x:Option (List AObj)) (d:Option Nat) (os:List fZ) (K:List AV→List AObj→Prop) (env:List AV):Prop:=
 match x with
 | some h'=>dG P G dr os K (gN env d .u) h'
 | Option.none=>False
def lK (x:Option (AV × List AObj)) (d:Option Nat) (os:List fZ) (K:List AV→List AObj→Prop) (env:List AV):Prop:=
 match x with
 | some (v,h')=>dG P G dr os K (gN env d v) h'
 | Option.none=>False
def bJm (fv:AV) (args:List AV) (d:Option Nat) (os:List fZ) (K:List AV→List AObj→Prop) (env:List AV) (h:List AObj):Prop:=
 match fv with
 | .fn f first capt=>K5 P G dr.isSome f (first++args++capt) h (fun r h'=>dG P G dr os K (gN env d r) h')
 | _=>False
def wS (f:FuncId) (A:List AV) (d:Option Nat) (os:List fZ) (K:List AV→List AObj→Prop) (env:List AV) (h:List AObj):Prop:=
 K5 P G dr.isSome f A h (fun r h'=>dG P G dr os K (gN env d r) h')
def mC (c:AV) (want:Bool) (op:Op) (d:Option Nat) (os:List fZ) (K:List AV→List AObj→Prop) (env:List AV) (h:List AObj):Prop:=
 qP (yR c want) (dW P G dr op d os K env h) (dG P G dr os K (gN env d (.tup [])) h)
def aFg (c:AV) (a b:lT) (Q:Exit→List AV→List AObj→Prop) (env:List AV) (h:List AObj):Prop:=
 qP c (awx P G a Q env h) (awx P G b Q env h)
end

section
variable {P:Program} {G:fS} {dr:Option DR} {d:Option Nat} {os:List fZ} {K:List AV→List AObj→Prop} {env:List AV} {h:List AObj} {Q:Exit→List AV→List AObj→Prop}

theorem bGo:dG P G dr [] K env h=K env h:=rfl
theorem bCd {op:Op} {K:AV→List AObj→Prop}:aVc P G dr false op K env h=rI P G dr op K env h:=by
 cases op with
 | call c=>obtain ⟨ce,as,ts⟩:=c; cases ce <;> rfl
 | _=>rfl
theorem aXe {op:Op}:dG P G dr (⟨d,op,none,false⟩::os) K env h=dW P G dr op d os K env h:=by simp only [dG,aMj,true_and,bCd]; rfl
theorem aQc {op:Op} {t:Nat} {want:Bool}:dG P G dr (⟨d,op,some (t,want),false⟩::os) K env h=mC P G dr (env.getD t .u) want op d os K env h:=by simp only [dG,aMj,true_and,bCd]; rfl
def ckV (P:Program) (G:fS) (N:DR) (op:Op) (d:Option Nat) (os:List fZ) (K:List AV→List AObj→Prop) (env:List AV) (h:List AObj):Prop:=
 match op with
 | .buildSlice T len ps=>oM P G (some N) (aMw P (aev G env) T len ps) d os K env h
 | .call ⟨.value f,as,ts⟩=>bKt P G N ⟨.value f,as,ts⟩ (fun r h'=>dG P G (some N) os K (gN env d r) h') env h
 | op=>U3 G N op env∧dW P G (some N) op d os K env h
theorem bCk {op:Op} {N:DR}:dG P G (some N) (⟨d,op,none,true⟩::os) K env h=ckV P G N op d os K env h:=by
 cases op with
 | buildSlice T len ps=>
   have e:dG P G (some N) (⟨d,.buildSlice T len ps,none,true⟩::os) K env h=(True∧D8 ((aMw P (aev G env) T len ps).map fun v=>(v,h)) (fun r h'=>dG P G (some N) os K (gN env d r) h')):=rfl
   rw [e,ckV,true_and]
   cases aMw P (aev G env) T len ps <;> rfl
 | call c=>
   obtain ⟨ce,as,ts⟩:=c
   cases ce with
   | value f=>
     have e:dG P G (some N) (⟨d,.call ⟨.value f,as,ts⟩,none,true⟩::os) K env h=(True∧bKt P G N ⟨.value f,as,ts⟩ (fun r h'=>dG P G (some N) os K (gN env d r) h') env h):=rfl
     rw [e,true_and]
     rfl
   | _=>rfl
 | _=>rfl
def bTi (P:Program) (G:fS) (N:DR) (f:FuncId) (A:List AV) (d:Option Nat) (os:List fZ) (K:List AV→List AObj→Prop) (env:List AV) (h:List AObj):Prop:=
 ∃ x h',ACalls P G f A h (fun x1 h1=>x1=x∧h1=h')∧lS N h h'∧dG P G (some N) os K (gN env d x) h'
def bWw (P:Program) (G:fS) (N:DR) (fv:AV) (args:List AV) (d:Option Nat) (os:List fZ) (K:List AV→List AObj→Prop) (env:List AV) (h:List AObj):Prop:=
 match fv with
 | .fn f first capt=>bTi P G N f (first++args++capt) d os K env h
 | _=>False
theorem aRa {fx:Operand} {args:Array Operand} {tys:Array TypeId} {N:DR}:ckV P G N (.call ⟨.value fx,args,tys⟩) d os K env h=bWw P G N (aev G env fx) (args.toList.map (aev G env)) d os K env h:=by
 rw [ckV]
 simp only [bKt,fG,nR,bWw,bTi]
 cases aev G env fx <;> simp [K5]
theorem bSe {f:FuncId} {a b args:List AV} {N:DR}:bWw P G N (.fn f a b) args d os K env h=bTi P G N f (a++args++b) d os K env h:=rfl
def asl:Option (AV × List AObj)→Option AV
 | some (.hs _ _ n _,[.arr _ _ cells])=>if 0 < n∧persL cells=true then some (.sl cells n) else Option.none
 | _=>Option.none
theorem bAu {i o n sz:Nat} {t fz:Bool} {cells:List AV}:asl (some (.hs i o n t,[.arr fz sz cells]))=if 0 < n∧persL cells=true then some (.sl cells n) else Option.none:=rfl
theorem aYk {op:Op}:mC P G dr (.b true) true op d os K env h=dW P G dr op d os K env h:=by simp [mC,yR,qP]
theorem aYo {op:Op}:mC P G dr (.b false) false op d os K env h=dW P G dr op d os K env h:=by simp [mC,yR,qP]
theorem aYl {op:Op}:mC P G dr (.b true) false op d os K env h=dG P G dr os K (gN env d (.tup [])) h:=by simp [mC,yR,qP]
theorem aYn {op:Op}:mC P G dr (.b false) true op d os K env h=dG P G dr os K (gN env d (.tup [])) h:=by simp [mC,yR,qP]
theorem aYm {op:Op} {want:Bool}:mC P G dr (.tup []) want op d os K env h=dG P G dr os K (gN env d (.tup [])) h:=by simp [mC,yR,qP]
theorem E9 {op:Op} {x want:Bool} (h1:x=want→dW P G dr op d os K env h) (h2:x=(!want)→dG P G dr os K (gN env d (.tup [])) h):mC P G dr (.b x) want op d os K env h:=by
 cases x <;> cases want <;> simp_all [mC,yR,qP]

theorem bKu:awx P G .skip Q env h=Q .normal env h:=rfl
theorem aVj {ops:List fZ}:awx P G (.region ops) Q env h=dG P G none ops (Q .normal) env h:=rfl
theorem bKw {ops:List fZ}:awx P G (.draw Option.none ops) Q env h=dG P G (some ⟨h.length,[]⟩) ops (Q .normal) env h:=rfl
theorem bEp {N:Nat} {L:List Nat} {v m s:Bool} {xs zs:List Nat} {ops:List fZ}:awx P G (.draw (some ⟨some N,L,v,m,s,xs,zs⟩) ops) Q env h=dG P G (some ⟨N,L⟩) ops (Q .normal) env h:=rfl
theorem bEq {L:List Nat} {v m s:Bool} {xs zs:List Nat} {ops:List fZ}:awx P G (.draw (some ⟨none,L,v,m,s,xs,zs⟩) ops) Q env h=dG P G (some ⟨h.length,L⟩) ops (Q .normal) env h:=rfl
theorem bTn {a b:lT}:awx P G (.seq a b) Q env h=awx P G a (J6 (awx P G b Q) Q) env h:=rfl
theorem bKx {c:Operand} {a b:lT}:awx P G (.cond c a b) Q env h=aFg P G (aev G env c) a b Q env h:=rfl
theorem bEr {i:Nat} {c:lT}:awx P G (.block i c) Q env h=awx P G c (H9 i Q) env h:=rfl
theorem bKv {i:Nat}:awx P G (.exit i) Q env h=Q (.exit i) env h:=rfl
theorem bTo:awx P G .ret Q env h=Q .ret env h:=rfl
theorem aDh {K:List AV→List AObj→Prop}:J6 K Q .normal env h=K env h:=rfl
theorem aNu {K:List AV→List AObj→Prop} {i:Nat}:J6 K Q (.exit i) env h=Q (.exit i) env h:=rfl
theorem aVo {K:List AV→List AObj→Prop}:J6 K Q .ret env h=Q .ret env h:=rfl
theorem aCl {i:Nat}:H9 i Q .normal env h=Q .normal env h:=rfl
theorem aTz {i:Nat}:H9 i Q .ret env h=Q .ret env h:=rfl
theorem aMr {i j:Nat}:H9 i Q (.exit j) env h=if j=i then Q .normal env h else Q (.exit j) env h:=rfl
theorem bRr {a b:lT}:aFg P G (.b true) a b Q env h=awx P G a Q env h:=by simp [aFg,qP]
theorem bRs {a b:lT}:aFg P G (.b false) a b Q env h=awx P G b Q env h:=by simp [aFg,qP]
theorem P0 {a b:lT} {x:Bool} (h1:x=true→awx P G a Q env h) (h2:x=false→awx P G b Q env h):aFg P G (.b x) a b Q env h:=⟨h1,h2⟩

theorem bEo {c:lT} {S:Type} (I:S→List AV→List AObj→Prop) (μ:S→Nat) (s0:S) (h0:I s0 env h) (round:∀ s env h,I s env h→awx P G c (J6 (fun e' h'=>∃ s',I s' e' h'∧μ s' < μ s) Q) env h):awx P G (.loop c) Q env h:=
 ⟨S,I,μ,s0,h0,round⟩

theorem bLv {x:Operand}:dW P G dr (.move x) d os K env h=dG P G dr os K (gN env d (aev G env x)) h:=rfl
theorem aWt {x:Operand}:dW P G dr (.assign x) d os K env h=dG P G dr os K (gN env d (aev G env x)) h:=rfl
def bSm:AV→AV→AV→Option AV
 | .b t,a,b=>some (if t then a else b)
 | _,_,_=>Option.none
theorem lU {x:Option AV}:D8 (match x with | some v=>some (v,h) | Option.none=>Option.none) (fun r h'=>dG P G dr os K (gN env d r) h')=oM P G dr x d os K env h:=by cases x <;> rfl
theorem bLu {c a b:Operand}:dW P G dr (.pick c a b) d os K env h=oM P G dr (bSm (aev G env c) (aev G env a) (aev G env b)) d os K env h:=by
 simp only [dW,rI,eQ,sL,fG,aop]
 cases aev G env c <;> rfl
def aUs:Bool→Option Nat→Option (List AV)→List AObj→Option (AV × List AObj)
 | true,some sz,some cells,h=>some (.ptr h.length 0,h++[.arr false sz cells])
 | true,Option.none,some cells,h=>some (.ptr h.length 0,h++[.box false cells])
 | false,_,some cells,h=>some (.ptr h.length 0,h++[.box false cells])
 | _,_,Option.none,_=>Option.none
theorem aUr {c:List AV} {h:List AObj}:aUs true Option.none (some c) h=some (.ptr h.length 0,h++[.box false c]):=rfl
theorem bGh {T:TypeId}:dW P G dr (.alloc T) d os K env h=lK P G dr (aUs dr.isNone (jP P T) (zeroOf P T) h) d os K env:=by
 simp only [dW,rI,eQ,sL,fG,aop]
 cases jP P T <;> cases zeroOf P T <;> cases dr <;> rfl
theorem bUb {T:TypeId} {x:Operand}:dW P G dr (.box T x) d os K env h=lK P G dr (aUs dr.isNone (jP P T) (jJ (aev G env x)) h) d os K env:=by
 simp only [dW,rI,eQ,sL,fG,aop]
 cases jP P T <;> cases jJ (aev G env x) <;> cases dr <;> rfl
def aUz (pl:Option (List (Nat × Nat))) (z:Option (List AV)) (parts:List (Nat × AV)):Option AV:=
 match pl,z with
 | some pl,some z=>(mG (fun i=>pl[i]?) z parts).map .agg
 | _,_=>Option.none
theorem bGe {T:TypeId} {parts:Array (Nat × Operand)}:dW P G dr (.build T parts) d os K env h=oM P G dr (aUz (gQ P T) (zeroOf P T) (parts.toList.map fun (i,x)=>(i,aev G env x))) d os K env h:=by
 simp only [dW,rI,eQ,sL,fG,aop]
 cases gQ P T with
 | none=>rfl
 | some pl=>
   cases zeroOf P T with
   | none=>rfl
   | some z=>
     simp only [aUz]
     cases mG (fun i=>pl[i]?) z (parts.toList.map fun (i,x)=>(i,aev G env x)) <;> rfl
def iF (h:List AObj) (el:Option TypeId) (len:Nat) (parts:List (Nat × AV)):Option (AV × List AObj):=
 match el with
 | some e=>match zeroOf P e with
   | some z=>if kH P e=some z.length∧0 < z.length∧len * z.length≤65536 then
       (if len=0∧parts=[] then some (.e0,h) else (mG (fun i=>some (i * z.length,z.length)) (List.replicate len z).flatten parts).map fun cells=>(.hs h.length 0 len false,h++[.arr false z.length cells])) else Option.none
   | Option.none=>Option.none
 | Option.none=>Option.none
def aTg (dr:Option DR) (l:List (Nat × Operand)) (a b:Option (AV × List AObj)):Option (AV × List AObj):=if (dr.isSome && aMh l)=true then a else b
theorem cBs {l:List (Nat × Operand)} {a b:Option (AV × List AObj)}:aTg Option.none l a b=b:=rfl
theorem cBt {N:DR} {a b:Option (AV × List AObj)}:aTg (some N) [] a b=b:=rfl
theorem cBr {N:DR} {i:Nat} {t:Tmp} {l:List (Nat × Operand)} {a b:Option (AV × List AObj)}:aTg (some N) ((i,.tmp t)::l) a b=b:=rfl
theorem bSo {T:TypeId} {len:Nat} {parts:Array (Nat × Operand)}:aop P G env h (.buildSlice T len parts)=iF (P:=P) h (eF P T) len (parts.toList.map fun (i,x)=>(i,aev G env x)):=by
 simp only [aop,iF]
 cases eF P T with
 | none=>rfl
 | some e=>
   simp only
   cases zeroOf P e with
   | none=>rfl
   | some z=>
     simp only
     have hm:(parts.toList=[])↔((parts.toList.map fun (i,x)=>(i,aev G env x))=[]):=by simp
     simp only [hm]
     split
     · split
       · rfl
       · cases mG (fun i=>some (i * z.length,z.length)) (List.replicate len z).flatten (parts.toList.map fun (i,x)=>(i,aev G env x)) <;> rfl
     · rfl
theorem aEa {x:Option (AV × List AObj)}:D8 x (fun r h'=>dG P G dr os K (gN env d r) h')=lK P G dr x d os K env:=by
 cases x <;> rfl
theorem aAh {T:TypeId} {len:Nat} {parts:Array (Nat × Operand)}:dW P G dr (.buildSlice T len parts) d os K env h=lK P G dr (aTg dr parts.toList ((bAv P T len parts).map fun v=>(v,h)) (iF (P:=P) h (eF P T) len (parts.toList.map fun (i,x)=>(i,aev G env x)))) d os K env:=by
 rw [← bSo]
 simp only [dW,rI,eQ,sL,fG]
 exact aEa
def kV:Nat→List (Nat × AV)→Option (List AV)
 | _,[]=>some []
 | i,(j,a)::rest=>if j=i then (match jJ a with
   | some [c]=>(kV (i+1) rest).map (c::·)
   | _=>Option.none) else Option.none
theorem aCq:∀ (parts:List (Nat × AV)) (i:Nat) (cells pre:List AV) (z:AV),kV i parts=some cells→pre.length=i →
   mG (fun i=>some (i * 1,1)) (pre++List.replicate cells.length z) parts=some (pre++cells)
 | [],i,cells,pre,z,h,hp=>by
   simp only [kV,aB] at h
   subst h
   simp [mG]
 | (j, a)::rest,i,cells,pre,z,h,hp=>by
   simp only [kV] at h
   split at h
   case isFalse=>cases h
   rename_i hj
   subst hj
   split at h
   case h_2=>cases h
   rename_i c hc
   cases hr:kV (j+1) rest with
   | none=>simp [hr] at h
   | some cs=>
     simp only [hr,cJ,aB] at h
     subst h
     have ih:=aCq rest (j+1) cs (pre++[c]) z hr (by simp [hp])
     simp only [mG,hc,aI,aX,aE,List.length_replicate,Nat.mul_one,cM]
     rw [if_pos ⟨trivial,by omega⟩]
     have hs:mI (pre++List.replicate (cs.length+1) z) j [c]=(pre++[c])++List.replicate cs.length z:=by
       unfold mI
       rw [List.take_left' hp,List.length_singleton,List.drop_append,aY (by omega),hp]
       have:j+1 - j=1:=by omega
       rw [this,cH,iU,fL,cZ]
     have e1:(fun i=>some (i * 1,1))=(fun i:Nat=>some (i,1)):=by funext i; rw [Nat.mul_one]
     rw [e1] at ih
     rw [hs,ih,bL]; rfl
theorem aZa {i:Nat}:kV i []=some []:=rfl
theorem bNd {i:Nat} {rest:List (Nat × AV)} {l:List UInt8}:kV i ((i,.s l)::rest)=(kV (i+1) rest).map (.s l::·):=by simp [kV,jJ,AV.one]
theorem bNe {i:Nat} {rest:List (Nat × AV)} {k:IntKind} {n:Int}:kV i ((i,.i k n)::rest)=(kV (i+1) rest).map (.i k n::·):=by simp [kV,jJ,AV.one]
theorem bIm {i:Nat} {rest:List (Nat × AV)} {c:List AV} {n:Nat}:kV i ((i,.sl c n)::rest)=(kV (i+1) rest).map (.sl c n::·):=by simp [kV,jJ,AV.one]
theorem bIn {i:Nat} {rest:List (Nat × AV)} {id o n:Nat} {t:Bool}:kV i ((i,.hs id o n t)::rest)=(kV (i+1) rest).map (.hs id o n t::·):=by simp [kV,jJ,AV.one]
def mF (h:List AObj) (el:Option TypeId) (len:Nat) (parts:List (Nat × AV)):Option (AV × List AObj):=
 match el with
 | some e=>match zeroOf P e,kH P e,kV 0 parts with
   | some [_],some 1,some cells=>if cells.length=len∧0 < len∧len≤65536 then some (.hs h.length 0 len false,h++[.arr false 1 cells]) else iF (P:=P) h (some e) len parts
   | _,_,_=>iF (P:=P) h (some e) len parts
 | Option.none=>Option.none
theorem sM {el:Option TypeId} {len:Nat} {parts:List (Nat × AV)}:iF (P:=P) h el len parts=mF (P:=P) h el len parts:=by
 unfold mF
 cases el with
 | none=>rfl
 | some e=>
   simp only
   split
   · rename_i z cells hz hs hf
     split
     · rename_i hc
       obtain ⟨hc1,hc0,hc2⟩:=hc
       have:=aCq parts 0 cells [] z hf rfl
       simp only [iF,hz,hs,List.length_singleton]
       rw [if_pos ⟨trivial,by omega,by omega⟩,if_neg (by omega)]
       have e2:(List.replicate len [z]).flatten=[]++List.replicate cells.length z:=by
         rw [hc1,cH]
         clear this hc1 hc0 hc2 hf
         induction len with
         | zero=>rfl
         | succ n ih=>rw [iU,bS,ih,iU]; rfl
       rw [e2,this]; rfl
     · rfl
   · rfl
theorem Q7 {T:TypeId} {len:Nat} {parts:Array (Nat × Operand)}:dW P G dr (.buildSlice T len parts) d os K env h=lK P G dr (aTg dr parts.toList ((bAv P T len parts).map fun v=>(v,h)) (mF (P:=P) h (eF P T) len (parts.toList.map fun (i,x)=>(i,aev G env x)))) d os K env:=by
 rw [aAh,sM]
theorem bSh {T:TypeId} {len:Nat} {parts:Array (Nat × Operand)}:aMw P (aev G env) T len parts=asl (iF (P:=P) [] (eF P T) len (parts.toList.map fun (i,x)=>(i,aev G env x))):=by
 unfold aMw iF
 cases eF P T with
 | none=>rfl
 | some e=>
   simp only
   cases zeroOf P e with
   | none=>rfl
   | some z=>
     simp only
     by_cases h1:kH P e=some z.length∧0 < z.length∧len * z.length≤65536
     · rw [if_pos h1]
       by_cases h2:0 < len
       · rw [if_pos ⟨h1.1,h1.2.1,h2,h1.2.2⟩,if_neg (fun q=>by omega)]
         cases mG (fun i=>some (i * z.length,z.length)) (List.replicate len z).flatten (parts.toList.map fun (i,x)=>(i,aev G env x)) with
         | none=>rfl
         | some cells=>simp only [cJ,asl,cH,h2,true_and]
       · rw [if_neg (fun q=>h2 q.2.2.1)]
         split
         · rfl
         · cases mG (fun i=>some (i * z.length,z.length)) (List.replicate len z).flatten (parts.toList.map fun (i,x)=>(i,aev G env x)) with
           | none=>rfl
           | some cells=>simp only [cJ,asl,cH,h2,false_and,if_false]
     · rw [if_neg h1,if_neg (fun q=>h1 ⟨q.1,q.2.1,q.2.2.2⟩)]; rfl
theorem bHt {T:TypeId} {len:Nat} {parts:Array (Nat × Operand)} {N:DR}:ckV P G N (.buildSlice T len parts) d os K env h=oM P G (some N) (asl (mF (P:=P) [] (eF P T) len (parts.toList.map fun (i,x)=>(i,aev G env x)))) d os K env h:=by
 rw [← sM,← bSh]; rfl
theorem bLw {T:TypeId} {x:Operand}:dW P G dr (.load T x) d os K env h=oM P G dr (wX P T h (aev G env x)) d os K env h:=by
 simp only [dW,rI,eQ,sL,fG,aop]; exact lU
theorem bFz {T:TypeId} {x y:Operand}:dW P G dr (.store T x y) d os K env h=aTf P G dr (tV P h T (aev G env x) (aev G env y)) d os K env:=by
 simp only [dW,rI,eQ,sL,fG,aop]
 cases tV P h T (aev G env x) (aev G env y) <;> rfl
def bXc (h:List AObj):AV→Option AV
 | .ptr id off=>match h[id]? with | some (.box ..) | some (.arr ..) | some (.held false _)=>some (.ptr id off) | _=>Option.none
 | .box cells off=>some (.box cells off)
 | .fn f a b=>some (.fn f a b)
 | _=>Option.none
theorem aLg {x:Operand}:dW P G dr (.nilCheck x) d os K env h=oM P G dr (bXc h (aev G env x)) d os K env h:=by
 simp only [dW,rI,eQ,sL,fG,aop,bXc]
 cases aev G env x with
 | ptr id off=>
   simp only
   cases h[id]? with
   | none=>rfl
   | some ob=>cases ob with
     | held m q=>cases m <;> rfl
     | _=>rfl
 | _=>rfl
theorem bUc {op:BinOp} {T U:TypeId} {x:Operand} {t:Nat}:dW P G dr (.binOp op T x (.tmp t) U) d os K env h=oM P G dr (bBr P op T (aev G env x) (aev G env (.tmp t))) d os K env h:=by
 simp only [dW,rI,eQ,sL,bKo,fG,aop]; exact lU
theorem bGg {op:BinOp} {T U:TypeId} {x:Operand} {k:IntKind} {n:Int}:dW P G dr (.binOp op T x (.const (.int k n)) U) d os K env h=oM P G dr (bBr P op T (aev G env x) (.i k n)) d os K env h:=by
 simp only [dW,rI,eQ,sL,bKo,fG,aop]; exact lU
theorem bGf {op:BinOp} {T U:TypeId} {x:Operand} {b:ByteArray}:dW P G dr (.binOp op T x (.const (.string b)) U) d os K env h=oM P G dr (bBr P op T (aev G env x) (aev G env (.const (.string b)))) d os K env h:=by
 simp only [dW,rI,eQ,sL,bKo,fG,aop]; exact lU
def bUf (P:Program) (G:fS) (A:Option TypeDesc) (v:AV) (d:Option Nat) (os:List fZ) (K:List AV→List AObj→Prop) (env:List AV) (h:List AObj):Prop:=
 match A with
 | some (.slice _)=>(match v with
   | .e0=>dG P G none os K (gN env d (.b true)) h∧dG P G none os K (gN env d (.b false)) h
   | .sl _ n=>(n=0→dG P G none os K (gN env d (.b true)) h)∧dG P G none os K (gN env d (.b false)) h
   | _=>False)
 | _=>False
theorem bTy {T U:TypeId} {x:Operand}:dW P G none (.binOp .eql T x (.const (.slice none 0 0)) U) d os K env h=bUf P G (P.underlying T) (aev G env x) d os K env h:=by
 simp only [dW,rI,eQ,sL,bKo,bMj,bUf]
 cases P.underlying T with
 | none=>rfl
 | some t=>cases t <;> first | rfl | (cases aev G env x <;> rfl)
theorem bCp {e:TypeId} {cells:List AV} {n:Nat} (h1:n=0→dG P G none os K (gN env d (.b true)) h) (h2:dG P G none os K (gN env d (.b false)) h):bUf P G (some (.slice e)) (.sl cells n) d os K env h:=⟨h1,h2⟩
theorem cAe {op:UnOp} {T:TypeId} {x:Operand}:dW P G dr (.unOp op T x) d os K env h=oM P G dr (aUn op (aev G env x)) d os K env h:=by
 simp only [dW,rI,eQ,sL,fG,aop]; exact lU
theorem aLh {f:FuncId} {a b:Array Operand}:dW P G dr (.makeFunc (.func f) a b) d os K env h=dG P G dr os K (gN env d (.fn f (a.toList.map (aev G env)) (b.toList.map (aev G env)))) h:=rfl
theorem aPi {T:TypeId}:dW P G dr (.makeMap T none) d os K env h=dG P G dr os K (gN env d (.mp h.length)) (h++[.map false [] []]):=rfl
theorem bGa {T:TypeId} {x:Operand} {l hi m:Option Operand}:dW P G dr (.slice T x l hi m) d os K env h=oM P G dr (rF P h T (aev G env x) (l.map (aev G env)) (hi.map (aev G env)) (m.map (aev G env))) d os K env h:=by
 simp only [dW,rI,eQ,sL,fG,aop]; exact lU
def yA (h:List AObj) (q:Option (Nat × Option Nat)) (x:AV):Option AV:=
 match q with
 | some (fo,some (_+1))=>match x with
   | .ptr id off=>match h[id]? with | some (.box ..) | some (.arr ..) | some (.held false _)=>some (.ptr id (off+fo)) | _=>Option.none
   | .box cells off=>some (.box cells (off+fo))
   | _=>Option.none
 | _=>Option.none
def cO (P:Program) (S:TypeId) (f:Nat):Option (Nat × Option Nat):=(kB P S f).map fun q=>(q.1,kH P q.2)
theorem aDw {S:TypeId} {x:Operand} {f:Nat}:dW P G dr (.fieldAddr S x f) d os K env h=oM P G dr (yA h (cO P S f) (aev G env x)) d os K env h:=by
 simp only [dW,rI,eQ,sL,fG,aop,yA,cO]
 cases kB P S f with
 | none=>rfl
 | some q=>
   obtain ⟨fo,ft⟩:=q
   simp only [cJ]
   cases kH P ft with
   | none=>rfl
   | some n=>
     cases n with
     | zero=>rfl
     | succ n=>
       cases aev G env x with
       | ptr id off=>
         simp only
         cases h[id]? with
         | none=>rfl
         | some ob=>cases ob with
           | held m q=>cases m <;> rfl
           | _=>rfl
       | _=>rfl
theorem aDv {T:TypeId} {x i:Operand}:dW P G dr (.indexAddr T x i) d os K env h=oM P G dr (iM P h T (aev G env x) (aev G env i)) d os K env h:=by
 simp only [dW,rI,eQ,sL,fG,aop]; exact lU
theorem bGd {T:TypeId} {x i:Operand}:dW P G dr (.index T x i) d os K env h=oM P G dr (J0 P T (aev G env x) (aev G env i)) d os K env h:=by
 simp only [dW,rI,eQ,sL,fG,aop]; exact lU
theorem aWs {T:TypeId} {m k:Operand} {ok:Bool}:dW P G dr (.lookup T m k ok) d os K env h=oM P G dr (nK P h T (aev G env m) (aev G env k) ok) d os K env h:=by
 simp only [dW,rI,eQ,sL,fG,aop]; exact lU
def bJo (P:Program) (h:List AObj) (T:TypeId) (m k x:AV):Option (List AObj):=
 if pers x then eX P h T m k x else eX P (freeze (dR dep h x) h) T m k (gH dep h x)
theorem aDu {T:TypeId} {m k x:Operand}:dW P G dr (.mapUpdate T m k x) d os K env h=aTf P G dr (bJo P h T (aev G env m) (aev G env k) (aev G env x)) d os K env:=by
 simp only [dW,rI,eQ,sL,fG,bJo]
 split
 · cases eX P h T (aev G env m) (aev G env k) (aev G env x) <;> rfl
 · cases eX P (freeze (dR dep h (aev G env x)) h) T (aev G env m) (aev G env k) (gH dep h (aev G env x)) <;> rfl
def bWy:AV→Nat→Option AV
 | .tup vs,i=>vs[i]?
 | _,_=>Option.none
theorem aPj {x:Operand} {i:Nat}:dW P G dr (.extract x i) d os K env h=oM P G dr (bWy (aev G env x) i) d os K env h:=by
 simp only [dW,rI,eQ,sL,fG,aop,bWy]
 cases aev G env x with
 | tup vs=>exact lU
 | _=>rfl
theorem bTz {T:TypeId} {x:Operand}:dW P G dr (.call ⟨.builtin .len,#[x],#[T]⟩) d os K env h=oM P G dr ((aUv P h T (aev G env x)).map fun n=>.i .i64 (Int.ofNat n)) d os K env h:=by
 simp only [dW,rI,eQ,sL,fG,nR,jF,aT,bN]
 cases aUv P h T (aev G env x) <;> rfl
def uK (P:Program) (h:List AObj) (T:TypeId) (s x:AV):Option (AV × List AObj):=
 if jU h x then gA P h T s x else gA P (freeze (dR dep h x) h) T s (gH dep h x)
theorem aWu {T:TypeId} {s x:Operand}:dW P G dr (.call ⟨.builtin .append,#[s,x],#[T,T]⟩) d os K env h=lK P G dr (uK P h T (aev G env s) (aev G env x)) d os K env:=by
 simp only [dW,rI,eQ,sL,fG,nR,aT,bN,if_true,uK]
 split
 · cases gA P h T (aev G env s) (aev G env x) <;> rfl
 · cases gA P (freeze (dR dep h (aev G env x)) h) T (aev G env s) (gH dep h (aev G env x)) <;> rfl
def X7 (P:Program) (G:fS) (dr:Option DR) (A:Option TypeDesc) (q:Option (AV × List AObj)) (d:Option Nat) (os:List fZ) (K:List AV→List AObj→Prop) (env:List AV):Prop:=
 match A with
 | some (.int _)=>lK P G dr q d os K env
 | _=>False
theorem aNj {k:IntKind} {q:Option (AV × List AObj)}:X7 P G dr (some (.int k)) q d os K env=lK P G dr q d os K env:=rfl
theorem vH {T U:TypeId} (hTU:T ≠ U) {s x:Operand}:dW P G dr (.call ⟨.builtin .append,#[s,x],#[T,U]⟩) d os K env h=X7 P G dr (P.underlying U) (pO P h T (aev G env s) (aev G env x)) d os K env:=by
 simp only [dW,rI,eQ,sL,fG,nR,aT,bN,if_neg hTU]
 generalize pO P h T (aev G env s) (aev G env x)=q
 cases P.underlying U with
 | none=>rfl
 | some t=>cases t <;> first | rfl | (cases q <;> rfl)
theorem bUa {T:TypeId} {x:Operand}:dW P G dr (.call ⟨.builtin .cap,#[x],#[T]⟩) d os K env h=lK P G dr (jF P h .cap #[T] [aev G env x]) d os K env:=by
 simp only [dW,rI,eQ,sL,fG,nR,aT,bN]
 cases jF P h .cap #[T] [aev G env x] <;> rfl
theorem aTo {T e:TypeId} {h:List AObj} (hT:P.underlying T=some (.slice e)):jF P h .cap #[T] [.e0]=some (.i .i64 0,h):=by simp [jF,hT]
theorem bBj {T:TypeId} {x:AV} {h:List AObj}:uK P h T .e0 x=if jU h x then gA P h T .e0 x else gA P (freeze (dR dep h x) h) T .e0 (gH dep h x):=rfl
theorem bBi {T:TypeId} {x:AV} {h:List AObj} {id o n:Nat} {t:Bool}:uK P h T (.hs id o n t) x=if jU h x then gA P h T (.hs id o n t) x else gA P (freeze (dR dep h x) h) T (.hs id o n t) (gH dep h x):=rfl
theorem bLx {fx:Operand} {args:Array Operand} {tys:Array TypeId}:dW P G dr (.call ⟨.value fx,args,tys⟩) d os K env h=bJm P G dr (aev G env fx) (args.toList.map (aev G env)) d os K env h:=by
 simp only [dW,rI,eQ,sL,fG,nR,bJm]
 cases aev G env fx <;> rfl
def aPh (P:Program) (G:fS) (T:Option TypeDesc) (x:AV) (h1:List AObj) (d:Option Nat) (os:List fZ) (K:List AV→List AObj→Prop) (env:List AV):Prop:=
 match T,x with
 | some (.map _ _),.mapv ks vs=>dG P G none os K (gN env d (.ptr h1.length 0)) (h1++[.mit none ks vs])
 | some .string,.s l=>dG P G none os K (gN env d (.ptr h1.length 0)) (h1++[.sit l 0])
 | _,_=>False
theorem bGb {T:TypeId} {x:Operand}:dW P G none (.range T x) d os K env h=aPh P G (P.underlying T) (gH dep h (aev G env x)) (freeze (dR dep h (aev G env x)) h) d os K env:=by
 simp only [dW,rI,eQ,sL,fG,A4,aM,if_false,aPh]
 cases P.underlying T with
 | none=>rfl
 | some t=>cases t <;> first | rfl | (cases gH dep h (aev G env x) <;> rfl)
def cAp (P:Program) (G:fS) (x:AV) (d:Option Nat) (os:List fZ) (K:List AV→List AObj→Prop) (env:List AV) (h:List AObj):Prop:=
 match x with
 | .ptr id 0=>match h[id]? with
   | some (.mit _ ks vs)=>(ks=[]→dG P G none os K (gN env d (.tup [.b false])) h)∧∀ (j:Nat) (k v:AV),ks[j]? = some k→vs[j]? = some v→dG P G none os K (gN env d (.tup [.b true,k,v])) (h.set id (.mit (some (k,v)) (ks.eraseIdx j) (vs.eraseIdx j)))
   | _=>False
 | _=>False
theorem aPe {l:List UInt8} {h1:List AObj}:aPh P G (some .string) (.s l) h1 d os K env=dG P G none os K (gN env d (.ptr h1.length 0)) (h1++[.sit l 0]):=rfl
def aHp (P:Program) (G:fS) (x:AV) (d:Option Nat) (os:List fZ) (K:List AV→List AObj→Prop) (env:List AV) (h:List AObj):Prop:=
 match x with
 | .ptr id 0=>match h[id]? with
   | some (.sit l pos)=>(l.length≤pos→dG P G none os K (gN env d (.tup [.b false])) h)∧∀ (c:UInt8),l[pos]? = some c→(c.toNat < 128→dG P G none os K (gN env d (.tup [.b true,.i .i64 pos,.i .i32 c.toNat])) (h.set id (.sit l (pos+1)))) ∧
       ∀ (rn k:Nat),128≤c.toNat→128≤rn→rn≤2147483647→1≤k→dG P G none os K (gN env d (.tup [.b true,.i .i64 pos,.i .i32 rn])) (h.set id (.sit l (pos+k)))
   | _=>False
 | _=>False
theorem bGc {x:Operand}:dW P G none (.next x true) d os K env h=aHp P G (aev G env x) d os K env h:=by
 simp only [dW,rI,eQ,sL,fG,A4,aM,if_false,aHp]
 cases aev G env x with
 | ptr id o=>cases o with
   | zero=>simp only; cases h[id]? with
     | none=>rfl
     | some ob=>cases ob <;> rfl
   | succ o=>rfl
 | _=>rfl
theorem aEi {id:Nat} {l:List UInt8} {pos:Nat} (hid:h[id]? = some (.sit l pos)) (h0:l.length≤pos→dG P G none os K (gN env d (.tup [.b false])) h)
   (h1:∀ (c:UInt8),l[pos]? = some c→c.toNat < 128→dG P G none os K (gN env d (.tup [.b true,.i .i64 pos,.i .i32 c.toNat])) (h.set id (.sit l (pos+1))))
   (h2:∀ (c:UInt8) (rn k:Nat),l[pos]? = some c→128≤c.toNat→128≤rn→rn≤2147483647→1≤k→dG P G none os K (gN env d (.tup [.b true,.i .i64 pos,.i .i32 rn])) (h.set id (.sit l (pos+k)))):aHp P G (.ptr id 0) d os K env h:=by
 unfold aHp
 simp only [hid]
 exact ⟨h0,fun c hc=>⟨h1 c hc,fun rn k=>h2 c rn k hc⟩⟩
theorem cBw {f:FuncId} {a b args:List AV}:bJm P G dr (.fn f a b) args d os K env h=wS P G dr f (a++args++b) d os K env h:=rfl
theorem aMl {f:FuncId} {A:List AV} {r:AV} (s:Ctr P G f (A.map (gH dep h)) r) (k:dG P G dr os K (gN env d (mat r (gG r h A)).1) (mat r (gG r h A)).2):wS P G dr f A d os K env h:=by
 cases dr
 · exact ACalls.sem s k
 · exact ⟨r,s,k⟩

def aWc (h:List AObj):AV→AV
 | .e0=>.e0
 | a=>gH dep h a
theorem aTq {f:FuncId} {A A':List AV} {r:AV} (s:Ctr P G f A' r) (hA:A.map (aWc h)=A') (k:dG P G none os K (gN env d (mat r (gG r h A)).1) (mat r (gG r h A)).2):wS P G none f A d os K env h:=by
 subst hA
 refine ACalls.sem0 s (by simp) (fun j a a' h1 h2=>?_) k
 rw [eI,h1] at h2
 simp only [cJ,aB] at h2
 subst h2
 cases a <;> first | exact .inr ⟨rfl,rfl⟩ | exact .inl rfl

theorem bLf {v:AV}:oM P G dr (some v) d os K env h=dG P G dr os K (gN env d v) h:=rfl
theorem bTt {c:Prop} [Decidable c] {v:AV}:oM P G dr (if c then some v else Option.none) d os K env h=(c∧dG P G dr os K (gN env d v) h):=by
 by_cases hc:c <;> simp [hc,oM]
theorem bMw {h':List AObj}:aTf P G dr (some h') d os K env=dG P G dr os K (gN env d .u) h':=rfl
theorem bUt {c:Prop} [Decidable c] {h':List AObj}:aTf P G dr (if c then some h' else Option.none) d os K env=(c∧dG P G dr os K (gN env d .u) h'):=by
 by_cases hc:c <;> simp [hc,aTf]
theorem bFa {v:AV} {h':List AObj}:lK P G dr (some (v,h')) d os K env=dG P G dr os K (gN env d v) h':=rfl
theorem bLe {c:Prop} [Decidable c] {v:AV} {h':List AObj}:lK P G dr (if c then some (v,h') else Option.none) d os K env=(c∧dG P G dr os K (gN env d v) h'):=by
 by_cases hc:c <;> simp [hc,lK]
theorem aWv {n:Nat} {x:AV}:gN env (some n) x=env.set n x:=rfl
theorem aWw {x:AV}:gN env Option.none x=env:=rfl
theorem bNf {t:Nat}:aev G env (.tmp t)=env.getD t .u:=rfl
theorem aZb {v:Value}:aev G env (.const v)=bEi v:=rfl
theorem bIp {f:FuncId}:aev G env (.func f)=.fn f [] []:=rfl
end

attribute [go_sem] aZa bNd bNe bIm bIn
attribute [go_sem ↓] bKu aVj bKw bEp bEq bTn bKx bEr bGo aXe aQc bCk bLv aWt bLu bGh bUb bGe Q7 bLw bFz aLg bUc bGg bGf bTy cAe aLh aPi bGa aDw aDv bGd aWs aDu aPj bTz aWu vH bUa bLx bGb bGc
attribute [go_sem] Int.toNat_one aNj bKv bTo aDh aNu aVo aCl aTz aMr bRr bRs aYk aYo aYl aYn aYm cBw bSe bLf bTt bMw bUt bFa bLe aWv aWw bNf aZb bIp
attribute [go_sem ↓] bHt aRa
attribute [go_sem] bAu aUr
attribute [go_sem] cBs cBt cBr bEi aMv aUv iM J0 wX aJs apart tV mI jJ AV.one bBr bBq bTh bBo aEq jX aUn aNe rF K9 jU nK pQ bJo eX bBj bBi pO gA pR aPe bSm yA bWy bXc aUz mF iF mG
attribute [go_sem] List.set_cons_succ List.set_cons_zero yD gW aT bN cJ Int.ofNat_eq_natCast Int.toNat_natCast Nat.mul_one A5 cM A8 cN dL aI aX cH bR List.append_nil eO nS fL cZ
attribute [go_sem] dR pers persL flat flatL mat matL gG aJr zL aCm

inductive bSv where
 | k
 | j
 | v (x:AV)

def zE (F:Nat→AV):Nat→List bSv→List AV→List AV
 | i,.k::ps,v::vs=>v::zE F (i+1) ps vs
 | i,.j::ps,_::vs=>F i::zE F (i+1) ps vs
 | i,.v x::ps,_::vs=>x::zE F (i+1) ps vs
 | _,_,_=>[]
def eN:List bSv→List AV→List AV→Prop
 | .k::ps,v::vs,w::ws=>w=v∧eN ps vs ws
 | .j::ps,_::vs,_::ws=>eN ps vs ws
 | .v x::ps,_::vs,w::ws=>w=x∧eN ps vs ws
 | [],[],[]=>True
 | _,_,_=>False

theorem bHl:∀ (ps:List bSv) (E e:List AV) (i:Nat) (F:Nat→AV),(∀ m v,e[m]? = some v→F (i+m)=v)→eN ps E e→zE F i ps E=e:=by
 intro ps
 induction ps with
 | nil=>intro E e i F _ h; cases E <;> cases e <;> simp [eN] at h; simp [zE]
 | cons p ps ih=>
   intro E e i F hF h
   cases E with
   | nil=>cases e <;> cases p <;> simp [eN] at h
   | cons v vs=>
     cases e with
     | nil=>cases p <;> simp [eN] at h
     | cons w ws=>
       have hF':∀ m v,ws[m]? = some v→F (i+1+m)=v:=fun m u hm=>by have:=hF (m+1) u (by simpa using hm); rw [← this]; congr 1; omega
       cases p with
       | k=>obtain ⟨h1,h2⟩:=h; simp only [zE]; rw [ih vs ws _ F hF' h2,h1]
       | j=>simp only [zE]; rw [ih vs ws _ F hF' h]; have:=hF 0 w rfl; simpa using this
       | v x=>obtain ⟨h1,h2⟩:=h; simp only [zE]; rw [ih vs ws _ F hF' h2,h1]

section
variable {P:Program} {G:fS} {env:List AV} {h:List AObj} {Q:Exit→List AV→List AObj→Prop}

theorem bP {c:lT} {S:Type} (ps:S→List bSv) (hp:S→List AObj) (I:S→Prop) (μ:S→Nat) (s0:S) (h0:I s0) (hh:h=hp s0) (k0:eN (ps s0) env env)
   (round:∀ (s:S) (j:Nat→AV),I s→awx P G c (J6 (fun e' h'=>∃ s',I s'∧μ s' < μ s∧h'=hp s'∧eN (ps s') env e') Q) (zE j 0 (ps s) env) (hp s)):awx P G (.loop c) Q env h:=by
 refine bEo (fun s e h'=>I s∧h'=hp s∧eN (ps s) env e) μ s0 ⟨h0,hh,k0⟩ ?_
 rintro s e h' ⟨hI,rfl,hf⟩
 have he:zE (fun n=>e.getD n .u) 0 (ps s) env=e:=bHl _ env e 0 _ (fun m v hv=>by simp [List.getD,hv]) hf
 have r:=round s (fun n=>e.getD n .u) hI
 rw [he] at r
 have mono:(fun e2 h2=>∃ s',I s'∧μ s' < μ s∧h2=hp s'∧eN (ps s') env e2)=fun e2 h2=>∃ s',(I s'∧h2=hp s'∧eN (ps s') env e2)∧μ s' < μ s:=by
   funext e2 h2
   exact propext ⟨fun ⟨s',a,b,c,d⟩=>⟨s',⟨a,c,d⟩,b⟩,fun ⟨s',⟨a,c,d⟩,b⟩=>⟨s',a,b,c,d⟩⟩
 rw [mono] at r
 exact r

end

section
variable {P:Program} {G:fS} {env:List AV} {h:List AObj} {Q:Exit→List AV→List AObj→Prop}
theorem eE {c:lT} {S:Type} (ps:S→List bSv) (hp:S→List AObj) (I:S→Prop) (μ:S→Nat) (s0:S) (g0:List AObj) (h0:I s0) (hh:h=hp s0++g0) (k0:eN (ps s0) env env)
   (round:∀ (s:S) (g:List AObj) (j:Nat→AV),I s→awx P G c (J6 (fun e' h'=>∃ s' g',I s'∧μ s' < μ s∧h'=hp s'++g'∧eN (ps s') env e') Q) (zE j 0 (ps s) env) (hp s++g)):awx P G (.loop c) Q env h:=by
 refine bP (S:=S × List AObj) (fun s=>ps s.1) (fun s=>hp s.1++s.2) (fun s=>I s.1) (fun s=>μ s.1) (s0,g0) h0 hh k0 ?_
 rintro ⟨s,g⟩ j hI
 have r:=round s g j hI
 have mono:(fun (e2:List AV) (h2:List AObj)=>∃ s' g',I s'∧μ s' < μ s∧h2=hp s'++g'∧eN (ps s') env e2)=fun e2 h2=>∃ s':S × List AObj,I s'.1∧μ s'.1 < μ s∧h2=hp s'.1++s'.2∧eN (ps s'.1) env e2:=by
   funext e2 h2
   exact propext ⟨fun ⟨s',g',a,b,c,d⟩=>⟨(s',g'),a,b,c,d⟩,fun ⟨s',a,b,c,d⟩=>⟨s'.1,s'.2,a,b,c,d⟩⟩
 rw [mono] at r
 exact r
end

section
variable {α:Type} {f:α→List AV} {m:Nat}
theorem oA (hf:∀ x,(f x).length=m):∀ (l:List α),(l.flatMap f).length=l.length * m
 | []=>by simp
 | x::l=>by rw [dJ,aE,hf,oA hf l,aI,Nat.succ_mul,oQ]
theorem F4 (hf:∀ x,(f x).length=m):∀ (l:List α) (k:Nat),(l.flatMap f).drop (k * m)=(l.drop k).flatMap f
 | l,0=>by simp
 | [],k+1=>by simp
 | x::l,k+1=>by
   rw [dJ,Nat.succ_mul,oQ,← J2,List.drop_left' (hf x),F4 hf l k,fL]
theorem F3 (hf:∀ x,(f x).length=m):∀ (l:List α) (k:Nat),(l.flatMap f).take (k * m)=(l.take k).flatMap f
 | l,0=>by simp
 | [],k+1=>by simp
 | x::l,k+1=>by
   rw [dJ,Nat.succ_mul,oQ,List.take_append,hf,Nat.add_sub_cancel_left,F3 hf l k,eO,dJ,aH (by rw [hf]; omega)]
theorem qN (hf:∀ x,(f x).length=m) (l:List α) (k:Nat):((l.flatMap f).drop (k * m)).take m=((l[k]?).map f).getD []:=by
 rw [F4 hf]
 have:(l.drop k).flatMap f=((l[k]?).map f).getD []++(l.drop (k+1)).flatMap f:=by
   cases hk:l[k]? with
   | none=>
     have hle:=List.getElem?_eq_none_iff.1 hk
     rw [aY hle,aY (by omega)]; simp
   | some x=>
     obtain ⟨hlt,hx⟩:=eU.1 hk
     rw [bH hlt,dJ,hx]; simp
 rw [this]
 cases hk:l[k]? with
 | none=>
   have hle:=List.getElem?_eq_none_iff.1 hk
   rw [aY (by omega)]; simp
 | some x=>simp [List.take_left' (hf x)]
theorem aIe (hf:∀ x,(f x).length=m) (l:List α) (k:Nat) {j:Nat} (hj:j < m):(l.flatMap f)[k * m+j]? = (l[k]?).bind fun x=>(f x)[j]? := by
 have h1:(l.flatMap f)[k * m+j]? = ((((l.flatMap f).drop (k * m)).take m))[j]? := by
   rw [List.getElem?_take_of_lt hj,dX]
 rw [h1,qN hf]
 cases hk:l[k]? with
 | none=>simp
 | some x=>simp
end
end Go.Vo

namespace Go.Vo
section
variable {P:Program} {G:fS} {dr:Option DR} {d:Option Nat} {os:List fZ} {K:List AV→List AObj→Prop} {env:List AV} {h:List AObj} {Q:Exit→List AV→List AObj→Prop}
theorem bCw {op:Op} {x:Bool} (h1:x=true→dW P G dr op d os K env h) (h2:x=false→dG P G dr os K (gN env d (.tup [])) h):mC P G dr (.b x) true op d os K env h:=E9 h1 h2
theorem aRl {op:Op} {x:Bool} (h1:x=false→dW P G dr op d os K env h) (h2:x=true→dG P G dr os K (gN env d (.tup [])) h):mC P G dr (.b x) false op d os K env h:=E9 h1 h2
end
theorem aF {h:List AObj} {x r:AV} (hr:r=x) (hp:pers x=true):Fin h x r:=.inl ⟨hr,hp⟩
attribute [go_sem] true_and and_true if_true if_false aM aB exists_eq_left' reduceCtorEq or_true false_or true_or or_false
attribute [go_sem] zE eN
theorem wrap64 {x:Int} (h1 : -9223372036854775808≤x) (h2:x≤9223372036854775807):IntKind.i64.wrap x=x:=IntWalk.i64_in _ (by omega)
theorem bFk {s:List UInt8}:decide (s=[])=decide (s.length=0):=by cases s <;> simp
attribute [go_sem] wrap64 bFk Int.toNat_zero Bool.not_true Bool.not_false
theorem aUo {d:Nat}:wW Option.none d=some d:=rfl
theorem bBf {k:IntKind} {n:Int} {d:Nat} (h:0≤n):wW (some (.i k n)) d=some n.toNat:=if_pos h
theorem aKk {m:Nat}:((m:Int) - 1).toNat=m - 1:=by omega
theorem aKj {m:Nat}:((m:Int) - 2).toNat=m - 2:=by omega
theorem aKl {m:Nat}:((m:Int)+1).toNat=m+1:=by omega
theorem aDg {m:Nat} (h:2≤m):((m:Int) - 2+1).toNat=m - 1:=by omega
attribute [go_sem] aUo bBf aKk aKj aKl aDg Option.map_none A4 Option.isSome_some gL fX Bool.and_false Bool.false_and Bool.true_and Bool.and_true
theorem aQo {l:List (List UInt8)} {k:Nat} (h:k < l.length):(l.map AV.s)[k]? = some (.s (l.getD k [])):=by simp [h]
theorem aBa {q:IntKind} {l:List Int} {k:Nat} (h:k < l.length):(l.map (AV.i q))[k]? = some (.i q (l.getD k 0)):=by simp [h]
attribute [go_sem] aQo aBa
theorem S8 {h:List AObj} {id sz n m:Nat} {cells cs:List AV} (hid:h[id]? = some (.arr false sz cs)) (hm:m=n) (hc:cells=cs) (hl:cs.length=n * sz) (hp:persL cs=true):Fin h (.hs id 0 n false) (.own sz cells m):=by
 subst hm hc
 refine .inr ⟨⟨rfl,rfl,cells,hid,by omega,?_,hp⟩,by simp [bW],by simp [bW,jD]⟩
 rw [cZ,aH (by omega)]
theorem aVq {α:Type} {l:List α} {n:Nat} (h:l.length≤n):l.take n=l:=aH h
attribute [go_sem] eH
def rH (h:List AObj) (a:AV):AV:=
 let L:=fun l=>if persL l then l else l.map (gH 8 h)
 match a with
 | .e0=>.sl [] 0
 | .hs id off n _=>match h[id]? with
   | some (.arr _ sz cells)=>if off+n * sz≤cells.length then .sl (L ((cells.drop off).take (n * sz))) n else .u
   | _=>.u
 | .ptr id off=>match h[id]? with
   | some (.box _ cells)=>.box (L cells) off
   | some (.arr _ _ cells)=>.box (L cells) off
   | _=>.u
 | .mp id=>match h[id]? with
   | some (.map _ ks vs)=>.mapv (L ks) (L vs)
   | _=>.u
 | .fn f a b=>.fn f (L a) (L b)
 | .agg cs=>.agg (L cs)
 | .tup vs=>.tup (L vs)
 | _=>.u
theorem fV {h:List AObj} {a:AV}:gH dep h a=if pers a then a else rH h a:=rfl
theorem jW {l:List (List UInt8)}:persL (l.map AV.s)=true:=by
 induction l with
 | nil=>rfl
 | cons x l ih=>simp [persL,pers,ih]
theorem eP {k:IntKind} {l:List Int}:persL (l.map (AV.i k))=true:=by
 induction l with
 | nil=>rfl
 | cons x l ih=>simp [persL,pers,ih]
theorem bF {P:Program} {G:fS} {dr:Option DR} {d:Option Nat} {os:List fZ} {K:List AV→List AObj→Prop} {env:List AV} {h:List AObj} {f:FuncId} {A A':List AV} {r:AV} (s:Ctr P G f A' r) (hA:A.map (gH dep h)=A')
   (k:dG P G dr os K (gN env d (mat r (gG r h A)).1) (mat r (gG r h A)).2):wS P G dr f A d os K env h:=aMl (hA ▸ s) k
theorem aVp {α β:Type} {f:α→β} {l:List α} {k:Nat}:(l.map f).take k=(l.take k).map f:=List.map_take.symm
theorem aZf {α β:Type} {f:α→β} {l:List α} {k:Nat}:(l.map f).drop k=(l.drop k).map f:=List.map_drop.symm
theorem aXx {α:Type} {l:List α} {k:Nat} (h:k≤l.length):(l.take k).length=k:=by simp; omega
attribute [go_sem] fV rH jW eP aVp aZf aXx oF Nat.sub_zero
attribute [go_sem] aVq
theorem bId {l:List (List UInt8)}:flatL (l.map AV.s)=true:=by
 induction l with
 | nil=>rfl
 | cons x l ih=>simp [flatL,flat,ih]
theorem bIe {k:IntKind} {l:List Int}:flatL (l.map (AV.i k))=true:=by
 induction l with
 | nil=>rfl
 | cons x l ih=>simp [flatL,flat,ih]
attribute [go_sem] aZ bId bIe jK jL dJ freeze AObj.fz
section
variable {P:Program} {G:fS} {N:DR} {env:List AV}
theorem bJh {T:TypeId} {x:Operand}:U3 G N (.load T x) env=lJ N (aev G env x):=by simp [U3,Op.operands,rW]
theorem bRu {x:Operand}:U3 G N (.nilCheck x) env=lJ N (aev G env x):=by simp [U3,Op.operands,rW]
theorem aCe {T:TypeId} {x:Operand} {f:Nat}:U3 G N (.fieldAddr T x f) env=lJ N (aev G env x):=by simp [U3,Op.operands,rW]
theorem aCd {T:TypeId} {x i:Operand}:U3 G N (.indexAddr T x i) env=(lJ N (aev G env x)∧lJ N (aev G env i)):=by simp [U3,Op.operands,rW]
theorem bRv {T:TypeId} {x:Operand}:U3 G N (.call ⟨.builtin .len,#[x],#[T]⟩) env=lJ N (aev G env x):=by simp [U3,Op.operands,Call.operands,rW]
theorem aTm {T:TypeId} {s x:Operand}:U3 G N (.call ⟨.builtin .append,#[s,x],#[T,T]⟩) env=yN N (aev G env s):=by simp [U3]
variable {P:Program} {d:Option Nat} {os:List fZ} {K:List AV→List AObj→Prop} {h:List AObj}
theorem bMq {T:TypeId} {x:Operand}:ckV P G N (.load T x) d os K env h=(lJ N (aev G env x)∧dW P G (some N) (.load T x) d os K env h):=by rw [← bJh (T:=T)]; rfl
theorem bHs {T:TypeId} {a x:Operand}:ckV P G N (.store T a x) d os K env h=(yN N (aev G env a)∧dW P G (some N) (.store T a x) d os K env h):=rfl
theorem bUl {x:Operand}:ckV P G N (.nilCheck x) d os K env h=(lJ N (aev G env x)∧dW P G (some N) (.nilCheck x) d os K env h):=by rw [← bRu]; rfl
theorem aEt {T:TypeId} {x:Operand} {f:Nat}:ckV P G N (.fieldAddr T x f) d os K env h=(lJ N (aev G env x)∧dW P G (some N) (.fieldAddr T x f) d os K env h):=by rw [← aCe (T:=T) (f:=f)]; rfl
theorem aEs {T:TypeId} {x i:Operand}:ckV P G N (.indexAddr T x i) d os K env h=((lJ N (aev G env x)∧lJ N (aev G env i))∧dW P G (some N) (.indexAddr T x i) d os K env h):=by rw [← aCd (T:=T)]; rfl
theorem bUm {T:TypeId} {x:Operand}:ckV P G N (.call ⟨.builtin .len,#[x],#[T]⟩) d os K env h=(lJ N (aev G env x)∧dW P G (some N) (.call ⟨.builtin .len,#[x],#[T]⟩) d os K env h):=by rw [← bRv (T:=T)]; rfl
theorem aYe {T:TypeId} {s x:Operand}:ckV P G N (.call ⟨.builtin .append,#[s,x],#[T,T]⟩) d os K env h=(yN N (aev G env s)∧dW P G (some N) (.call ⟨.builtin .append,#[s,x],#[T,T]⟩) d os K env h):=by rw [← aTm (T:=T) (x:=x)]; rfl
theorem bGw {n id:Nat}:DR.old ⟨n,[]⟩ id=(id < n):=rfl
theorem bGv {n x id:Nat}:DR.old ⟨n,[x]⟩ id=(id < n∧¬ id=x):=by simp [DR.old]
theorem bGu {n x y id:Nat}:DR.old ⟨n,[x,y]⟩ id=(id < n∧¬ id=x∧¬ id=y):=by simp [DR.old]
theorem bHk {n id:Nat}:DR.mut ⟨n,[]⟩ id=(n≤id):=rfl
theorem bHj {n x id:Nat}:DR.mut ⟨n,[x]⟩ id=(n≤id∨id=x):=by simp [DR.mut]
end
theorem bHy {α:Type} {l m:List α} {n:Nat}:(l++m)[l.length+n]? = m[n]? := by rw [aK (by omega)]; congr 1; omega
theorem S4 {α:Type} {l m:List α}:(l++m)[l.length]? = m[0]? := by rw [aK (by omega)]; congr 1; omega
theorem bFp {α:Type} {l m:List α} {n:Nat} {a:α}:(l++m).set (l.length+n) a=l++m.set n a:=by rw [tJ _ _ (by omega)]; congr 2; omega
theorem aWe {α:Type} {l m:List α} {a:α}:(l++m).set l.length a=l++m.set 0 a:=by rw [tJ _ _ (by omega)]; congr 2; omega
attribute [go_sem] bHy S4 bFp aWe bL aE
attribute [go_sem ↓] bMq bHs bUl aEt aEs bUm aYe
attribute [go_sem] lJ yN AV.refs bGw bGv bGu bHk bHj
def dV (sz N:Nat) (g:List AObj) (out:AV) (cells:List AV) (n:Nat):Prop:=
 (out=.e0∧cells=[]∧n=0)∨∃ i,out=.hs (i+N) 0 n false∧g[i]? = some (.arr false sz cells)∧cells.length=n * sz
theorem jC {sz N:Nat} {g:List AObj}:dV sz N g .e0 [] 0:=.inl ⟨rfl,rfl,rfl⟩
theorem dV.more {sz N:Nat} {g:List AObj} {out:AV} {cells:List AV} {n:Nat} (h:dV sz N g out cells n) (g':List AObj):dV sz N (g++g') out cells n:=by
 rcases h with h | ⟨i,h1,h2,h3⟩
 · exact .inl h
 · exact .inr ⟨i,h1,by rw [aD (aQ h2)]; exact h2,h3⟩
theorem dV.len {sz N:Nat} {g:List AObj} {out:AV} {cells:List AV} {n:Nat} (h:dV sz N g out cells n):cells.length=n * sz:=by
 rcases h with ⟨_,h2,h3⟩ | ⟨i,h1,h2,h3⟩
 · simp [h2,h3]
 · exact h3

section
variable {P:Program} {G:fS} {dr:Option DR} {d:Option Nat} {os:List fZ} {K:List AV→List AObj→Prop} {env:List AV}
theorem aUj {pre g:List AObj} {T e by_:Nat} {z:List AV} {out x:AV} {cells news:List AV} {n m:Nat} (ho:dV z.length pre.length g out cells n) (hT:eF P T=some e) (hz:zeroOf P e=some z) (hs:kH P e=some z.length) (hb:aFm P e=some by_)
   (hpos:0 < z.length) (hp:jU (pre++g) x=true) (hx:K9 (pre++g) z.length x=some (news,m)) (hbd:(n+m) * by_≤140737488355328∧n+m≤140737488355328)
   (k:∀ out' g',dV z.length pre.length g' out' (cells++news) (n+m)→(∀ (i:Nat) (o:AObj),g[i]? = some o→(∀ c:List AV,o ≠ .arr false z.length c)→g'[i]? = some o)→dG P G dr os K (gN env d out') (pre++g')):lK P G dr (uK P (pre++g) T out x) d os K env:=by
 have hm : news.length=m * z.length:=by
   cases x with
   | e0=>simp only [K9,aB,aP] at hx; obtain ⟨rfl,rfl⟩:=hx; simp
   | sl c q=>
     simp only [K9] at hx
     split at hx
     · simp only [aB,aP] at hx; obtain ⟨rfl,rfl⟩:=hx; assumption
     · cases hx
   | hs id off q t=>
     simp only [K9] at hx
     split at hx
     · split at hx
       · rename_i hc
         simp only [aB,aP] at hx; obtain ⟨rfl,rfl⟩:=hx
         rw [dS,oF]; omega
       · cases hx
     · cases hx
   | _=>simp [K9] at hx
 have e1:uK P (pre++g) T out x=gA P (pre++g) T out x:=by simp [uK,hp]
 rw [e1]
 rcases ho with ⟨rfl,rfl,rfl⟩ | ⟨i,rfl,hi,hl⟩
 · have e2:gA P (pre++g) T .e0 x=some (.hs (pre++g).length 0 m false,(pre++g)++[.arr false z.length news]):=by
     simp only [gA,hT,hz,hb,hpos,hs,hx,and_self,if_true,true_and]
     rw [if_pos (by simpa using hbd)]
   rw [e2]
   show dG P G dr os K _ _
   rw [bL]
   refine k _ _ (.inr ⟨g.length,?_,by simp,by simpa using hm⟩) (fun i o ho _=>by rw [aD (aQ ho)]; exact ho)
   simp [oQ]
 · have hlt:=aQ hi
   have hg:(pre++g)[i+pre.length]? = some (.arr false z.length cells):=by
     rw [aK (by omega)]; simpa using hi
   have e2:gA P (pre++g) T (.hs (i+pre.length) 0 n false) x=some (.hs (pre++g).length 0 (n+m) false,(pre++g).set (i+pre.length) .dead++[.arr false z.length (cells++news)]):=by
     simp only [gA,hT,hz,hb,hpos,hs,hx,hg,and_self,if_true,true_and,hl,cM,aZ,hbd,aM,if_false,cZ]
   rw [e2]
   show dG P G dr os K _ _
   rw [tJ _ _ (by omega),bL,Nat.add_sub_cancel]
   refine k _ _ (.inr ⟨g.length,?_,by simp,?_⟩) (fun j o hj hn=>?_)
   · simp [oQ]
   · rw [aE,hl,hm,Nat.add_mul]
   · have hne:i ≠ j:=by
       rintro rfl
       rw [hi] at hj; cases hj
       exact hn _ rfl
     rw [aD (by simpa using aQ hj),dA hne]
     exact hj
theorem dU {h pre g more:List AObj} {T e by_ sz N:Nat} {z:List AV} {out x:AV} {cells news:List AV} {n m:Nat} (ho:dV sz N g out cells n) (hN:pre.length=N) (hh:h=pre++(g++more)) (hT:eF P T=some e) (hz:zeroOf P e=some z) (hs:kH P e=some sz) (hb:aFm P e=some by_)
   (hzl:z.length=sz) (hpos:0 < sz) (hp:jU h x=true) (hx:K9 h sz x=some (news,m)) (hbd:(n+m) * by_≤140737488355328∧n+m≤140737488355328)
   (k:∀ out' g',dV sz N g' out' (cells++news) (n+m)→(∀ (i:Nat) (o:AObj),g[i]? = some o→(∀ c:List AV,o ≠ .arr false sz c)→g'[i]? = some o)→dG P G dr os K (gN env d out') (pre++g')):lK P G dr (uK P h T out x) d os K env:=by
 subst hh hzl hN
 exact aUj (ho.more more) hT hz hs hb hpos hp hx hbd (fun out' g' h1 h2=>k out' g' h1 (fun i o hi hn=>h2 i o (by rw [aD (aQ hi)]; exact hi) hn))
end
theorem xS {pre g:List AObj} {sz n:Nat} {out:AV} {cells:List AV} (ho:dV sz pre.length g out cells n) (hp:persL cells=true):Fin (pre++g) out (.own sz cells n):=by
 rcases ho with ⟨rfl,rfl,rfl⟩ | ⟨i,rfl,hi,hl⟩
 · exact .inr ⟨⟨rfl,rfl⟩,by simp [bW],by simp [bW]⟩
 · exact S8 (by rw [aK (by omega)]; simpa using hi) rfl rfl hl hp

def aOp (k:Nat) (h:List AObj) (a:AV):AV:=
 let L:=fun l=>if persL l then l else l.map (gH k h)
 match a with
 | .e0=>.sl [] 0
 | .hs id off n _=>match h[id]? with
   | some (.arr _ sz cells)=>if off+n * sz≤cells.length then .sl (L ((cells.drop off).take (n * sz))) n else .u
   | _=>.u
 | .ptr id off=>match h[id]? with
   | some (.box _ cells)=>.box (L cells) off
   | some (.arr _ _ cells)=>.box (L cells) off
   | _=>.u
 | .mp id=>match h[id]? with
   | some (.map _ ks vs)=>.mapv (L ks) (L vs)
   | _=>.u
 | .fn f a b=>.fn f (L a) (L b)
 | .agg cs=>.agg (L cs)
 | .tup vs=>.tup (L vs)
 | _=>.u
def D0 (k:Nat) (h:List AObj) (a:AV):List Nat:=
 let L:=fun l=>if persL l then [] else l.flatMap (dR k h)
 match a with
 | .hs id off n _=>match h[id]? with
   | some (.arr _ sz cells)=>id::L ((cells.drop off).take (n * sz))
   | _=>[]
 | .ptr id off=>match h[id]? with
   | some (.box _ cells)=>id::L cells
   | some (.arr _ _ cells)=>id::L cells
   | _=>[]
 | .mp id=>match h[id]? with
   | some (.map _ ks vs)=>id::(L ks++L vs)
   | _=>[]
 | .fn f a b=>L a++L b
 | .agg cs=>L cs
 | .tup vs=>L vs
 | _=>[]
theorem vG {h:List AObj} {a:AV}:dR dep h a=if pers a then [] else D0 8 h a:=rfl
theorem Z4 {h:List AObj} {a:AV}:gH 8 h a=if pers a then a else aOp 7 h a:=rfl
theorem aDr {h:List AObj} {a:AV}:dR 8 h a=if pers a then [] else D0 7 h a:=rfl
theorem cBl {a:AObj} {l:List AObj} {f:AObj→AObj}:(a::l).modify 0 f=f a::l:=rfl
theorem cBk {a:AObj} {l:List AObj} {n:Nat} {f:AObj→AObj}:(a::l).modify (n+1) f=a::l.modify n f:=rfl
theorem bCx {l m:List AObj} {n:Nat} {f:AObj→AObj}:(l++m).modify (l.length+n) f=l++m.modify n f:=by
 apply L4
 intro i
 rw [kE]
 by_cases h:i < l.length
 · rw [aD h,aD h]
   have:l.length+n ≠ i:=by omega
   simp [this]
 · rw [aK (by omega),aK (by omega),kE]
   by_cases e:l.length+n=i
   · subst e; simp
   · have:n ≠ i - l.length:=by omega
     simp [e,this]
theorem bIa {l m:List AObj} {f:AObj→AObj}:(l++m).modify l.length f=l++m.modify 0 f:=by
 have:=bCx (l:=l) (m:=m) (n:=0) (f:=f); simpa using this
attribute [go_sem] vG Z4 aDr aOp D0 cBl cBk bCx bIa
end Go.Vo
