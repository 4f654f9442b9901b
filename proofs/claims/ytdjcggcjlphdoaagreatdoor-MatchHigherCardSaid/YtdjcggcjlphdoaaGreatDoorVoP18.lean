/-
  The abstract layer, part Z: paths that meet again. It speaks of any program; no condition.
-/
import Derived.Test.YtdjcggcjlphdoaaGreatDoorVoP15
set_option linter.unusedVariables false
set_option linter.unusedSimpArgs false
namespace Go.Vo
section
variable {P:Program} {G:Md} {K K':AV→List AObj→Prop}
theorem oL {x:Option (AV × List AObj)} (hK:∀ r h,K r h→K' r h) (o:xQ x K):xQ x K':=by
 cases x with
 | none=>exact o
 | some p=>exact hK _ _ o
theorem aIl {pn:Value→List AObj→Prop} {dr:Bool} {f:FuncId} {A:List AV} {h:List AObj} (hK:∀ r h,K r h→K' r h) (k:xT P G pn dr f A h K):xT P G pn dr f A h K':=by
 cases dr with
 | true=>obtain ⟨r,s,k⟩:=k; exact ⟨r,s,hK _ _ k⟩
 | false=>exact k.imp (fun k=>ACalls.mono k hK) id
theorem J8 {c:AV} {A B A' B':Prop} (hA:A→A') (hB:B→B') (k:qL c A B):qL c A' B':=by
 cases c <;> simp only [qL] at k ⊢
 exact ⟨fun h=>hA (k.1 h),fun h=>hB (k.2 h)⟩
theorem aJp {dr:Bool} {env:List AV} {h:List AObj} {c:Call} (hK:∀ r h,K r h→K' r h) (a:mA P G dr env h c K):mA P G dr env h c K':=by
 unfold mA at a ⊢
 cases hc:c.callee with
 | builtin b=>
   rw [hc] at a
   cases b
   case append=>
     simp only at a ⊢
     split at a
     · split at a
       · rename_i hT
         rw [if_pos hT]
         split at a
         · rename_i hw; rw [if_pos hw]; exact oL hK a
         · rename_i hw; rw [if_neg hw]; exact oL hK a
       · rename_i hT
         rw [if_neg hT]
         split at a
         · exact oL hK a
         · exact a.elim
     · exact a.elim
   all_goals exact oL hK a
 | value fx=>
   rw [hc] at a
   simp only at a ⊢
   split at a
   · exact aIl hK a
   · exact a.elim
 | invoke=>rw [hc] at a; exact a.elim
theorem C9 {dr:Bool} {o:Op} {env:List AV} {h:List AObj} (hK:∀ r h,K r h→K' r h) (a:eZ P G dr o K env h):eZ P G dr o K' env h:=by
 cases o
 case call c=>exact aJp hK a
 case mapUpdate T m k x=>
   unfold eZ at a ⊢
   simp only at a ⊢
   split at a
   · rename_i hp
     rw [if_pos hp]
     split at a
     · exact hK _ _ a
     · exact a.elim
   · rename_i hp
     rw [if_neg hp]
     split at a
     · exact hK _ _ a
     · exact a.elim
 case range T x=>
   unfold eZ at a ⊢
   simp only at a ⊢
   split at a
   · exact a.elim
   · rename_i hd
     rw [if_neg hd]
     split at a
     · exact hK _ _ a
     · exact hK _ _ a
     · exact a.elim
 case next x b=>
   cases b
   · unfold eZ at a ⊢
     simp only at a ⊢
     split at a
     · exact a.elim
     · rename_i hd
       rw [if_neg hd]
       split at a
       · split at a
         · exact ⟨fun h=>hK _ _ (a.1 h),fun j k v h1 h2=>hK _ _ (a.2 j k v h1 h2)⟩
         · exact a.elim
       · exact a.elim
   · unfold eZ at a ⊢
     simp only at a ⊢
     split at a
     · exact a.elim
     · rename_i hd
       rw [if_neg hd]
       split at a
       · split at a
         · exact ⟨fun h=>hK _ _ (a.1 h),fun c h1=>⟨fun h2=>hK _ _ ((a.2 c h1).1 h2),fun rn k h2 h3 h4 h5=>hK _ _ ((a.2 c h1).2 rn k h2 h3 h4 h5)⟩⟩
         · exact a.elim
       · exact a.elim
 case entry x=>
   unfold eZ at a ⊢
   simp only at a ⊢
   split at a
   · exact a.elim
   · rename_i hd
     rw [if_neg hd]
     split at a
     · split at a
       · exact hK _ _ a
       · exact a.elim
     · exact a.elim
 case makeMap T r=>
   cases r with
   | none=>
     unfold eZ at a ⊢
     cases dr <;> exact hK _ _ a
   | some _=>exact False.elim a
 all_goals first | exact hK _ _ a | exact oL hK a | exact False.elim a | exact a
theorem aNd {T:TypeId} {v:AV} {K K':AV→Prop} (hK:∀ r,K r→K' r) (a:aYh P T v K):aYh P T v K':=by
 unfold aYh at a ⊢
 split at a
 · split at a
   · exact ⟨hK _ a.1,hK _ a.2⟩
   · exact ⟨fun h=>hK _ (a.1 h),hK _ a.2⟩
   · exact a.elim
 · exact a.elim
theorem aLp {dr:Option DR} {op:Op} {env:List AV} {h:List AObj} (hK:∀ r h,K r h→K' r h) (a:nM P G dr op K env h):nM P G dr op K' env h:=by
 unfold nM at a ⊢
 split at a
 · exact aNd (fun r=>hK r h) a
 · first
     | exact C9 hK a
     | (split at a
        · split at a
          · exact hK _ _ a
          · exact C9 hK a
        · exact C9 hK a)
theorem T7 {dr:Option DR} {ck:Bool} {op:Op} {env:List AV} {h:List AObj} (hK:∀ r h,K r h→K' r h) (a:aHr P G dr ck op K env h):aHr P G dr ck op K' env h:=by
 unfold aHr at a ⊢
 split
 · rename_i T len ps hv
   rw [hv] at a
   exact oL hK a
 · rename_i hv
   rw [hv] at a
   simp only at a ⊢
   split
   · rename_i c N hz
     rw [hz] at a
     obtain ⟨x,h',h1,h2,h3⟩:=a
     exact ⟨x,h',h1,h2,hK _ _ h3⟩
   · rename_i hz
     rw [hz] at a
     exact aLp hK a
theorem eJ {dr:Option DR} {K K':List AV→List AObj→Prop} (hK:∀ e h,K e h→K' e h):∀ {os:List fE} {env:List AV} {h:List AObj},cX P G dr os K env h→cX P G dr os K' env h
 | [],_,_,a=>hK _ _ a
 | o::os,env,h,a=>by
   rw [cX] at a ⊢
   split at a
   · exact ⟨a.1,T7 (fun r h'=>eJ hK) a.2⟩
   · exact J8 (fun a=>⟨a.1,T7 (fun r h'=>eJ hK) a.2⟩) (eJ hK) a
theorem bEy {c:Code} {Q Q':Exit→List AV→List AObj→Prop} {env:List AV} {h:List AObj} (hQ:∀ x e h,Q x e h→Q' x e h) (a:AW P G c Q env h):AW P G c Q' env h:=fun X w ac g r=>
 wp_mono (a X w ac g r) fun e a' w' ⟨env',h',X',k,g',r',t⟩=>⟨env',h',X',by cases e <;> first | exact hQ _ _ _ k | exact k,g',r',t⟩
theorem lR:∀ {c:jX} {Q Q':Exit→List AV→List AObj→Prop} {env:List AV} {h:List AObj},(∀ x e h,Q x e h→Q' x e h)→awx P G c Q env h→awx P G c Q' env h
 | .skip,_,_,_,_,hQ,a=>hQ _ _ _ a
 | .region ops,_,_,_,_,hQ,a=>eJ (hQ _) a
 | .draw th ops,_,_,_,_,hQ,a=>eJ (hQ _) a
 | .seq x y,_,_,_,_,hQ,a=>by
   rw [awx] at a ⊢
   refine lR (fun x e h k=>?_) a
   cases x
   case normal=>exact lR hQ k
   all_goals exact hQ _ _ _ k
 | .raw c,_,_,_,_,hQ,a=>bEy hQ a
 | .cond c x y,_,_,_,_,hQ,a=>J8 (lR hQ) (lR hQ) a
 | .block id c,Q,Q',_,_,hQ,a=>by
   rw [awx] at a ⊢
   refine lR (fun x e h k=>?_) a
   cases x
   case exit i=>
     simp only [xL] at k ⊢
     split at k
     · rename_i hi; rw [if_pos hi]; exact hQ _ _ _ k
     · rename_i hi; rw [if_neg hi]; exact hQ _ _ _ k
   all_goals exact hQ _ _ _ k
 | .loop c,_,_,_,_,hQ,a=>by
   obtain ⟨S,I,μ,s0,h0,r⟩:=a
   refine ⟨S,I,μ,s0,h0,fun s env h hI=>lR (fun x e h k=>?_) (r s env h hI)⟩
   cases x
   case normal=>exact k
   all_goals exact hQ _ _ _ k
 | .exit id,_,_,_,_,hQ,a=>hQ _ _ _ a
 | .ret,_,_,_,_,hQ,a=>hQ _ _ _ a
end
section
variable {P:Program} {G:Glob} {X:Ctx} {w:World} {h:List AObj}
end
def aKa:AV→Bool
 | .e0=>true
 | a=>pers a
def aXs (h:List AObj) (a:AV):List Nat:=dW dep h a
def hsQ (o:Option AObj) (id:Nat) (alt:List Nat):List Nat:=
 match o with
 | some (.arr _ _ cells)=>if cells.all aKa then [id] else alt
 | _=>alt
def bMq (cells:List AV) (alt:List Nat):List Nat:=if cells.all aKa then [] else alt
theorem vW {h:List AObj} {a:AV} {k:Nat} (e:aKa a=true):dW k h a=[]:=by
 cases k with
 | zero=>rfl
 | succ k=>
   rw [dW]
   by_cases hp:pers a=true
   · rw [if_pos hp]
   · rw [if_neg hp]
     cases a with
     | e0=>rfl
     | _=>exact absurd e hp
theorem yZ {h:List AObj} {l:List AV} {k:Nat} (e:l.all aKa=true):l.flatMap (dW k h)=[]:=by
 induction l with
 | nil=>rfl
 | cons a l ih=>
   rw [mV,aE] at e
   rw [List.flatMap_cons,vW e.1,ih e.2,List.append_nil]
theorem yA {h:List AObj} {id off n:Nat} {t:Bool}:dW dep h (.hs id off n t)=hsQ h[id]? id (aXs h (.hs id off n t)):=by
 cases ho:h[id]? with
 | none=>rfl
 | some o=>
   cases o with
   | arr fz sz cells=>
     simp only [hsQ]
     split
     · rename_i e
       have e2:((cells.drop off).take (n * sz)).all aKa=true:=bL.2 fun x hx=>bL.1 e x (jA (eL hx))
       rw [zC]
       simp only [pers,aG,if_false,aEk,ho,yZ e2,ite_self]
     · rfl
   | _=>rfl
theorem zD {h:List AObj} {cells:List AV}:dW dep h (.agg cells)=bMq cells (aXs h (.agg cells)):=by
 unfold bMq
 split
 · rename_i e
   rw [zC]
   by_cases hp:pers (.agg cells)=true
   · rw [if_pos hp]
   · rw [if_neg hp]
     simp only [aEk,yZ e,ite_self]
 · rfl
attribute [go_sem ↓] yA zD
attribute [go_sem] hsQ bMq aKa mV List.all_nil
end Go.Vo
