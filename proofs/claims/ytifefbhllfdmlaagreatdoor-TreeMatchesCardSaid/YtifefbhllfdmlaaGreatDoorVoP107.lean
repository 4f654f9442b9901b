/-
  The abstract layer, part Z: paths that meet again. It speaks of any program; no condition.
-/
import Derived.Test.YtifefbhllfdmlaaGreatDoorVoP104
set_option linter.unusedVariables false
set_option linter.unusedSimpArgs false
namespace Go.Vo
section
variable {P:Program} {G:Md} {K K':AV→List AObj→Prop}
theorem pI {x:Option (AV × List AObj)} (hK:∀ r h,K r h→K' r h) (o:yF x K):yF x K':=by
 cases x with
 | none=>exact o
 | some p=>exact hK _ _ o
theorem aJf {pn:Value→List AObj→Prop} {dr:Bool} {f:FuncId} {A:List AV} {h:List AObj} (hK:∀ r h,K r h→K' r h) (k:yI P G pn dr f A h K):yI P G pn dr f A h K':=by
 cases dr with
 | true=>obtain ⟨r,s,k⟩:=k; exact ⟨r,s,hK _ _ k⟩
 | false=>exact k.imp (fun k=>ACalls.mono k hK) id
theorem L4 {c:AV} {A B A' B':Prop} (hA:A→A') (hB:B→B') (k:oR c A B):oR c A' B':=by
 cases c <;> simp only [oR] at k ⊢
 exact ⟨fun h=>hA (k.1 h),fun h=>hB (k.2 h)⟩
theorem aKl {dr:Bool} {env:List AV} {h:List AObj} {c:Call} (hK:∀ r h,K r h→K' r h) (a:lX P G dr env h c K):lX P G dr env h c K':=by
 unfold lX at a ⊢
 cases hc:c.callee with
 | builtin b=>
   rw [hc] at a
   cases b
   case append=>
     simp only at a ⊢
     split at a
     · split at a
       · rename_i hT
         rw [if_pos hT]
         split at a
         · rename_i hw; rw [if_pos hw]; exact pI hK a
         · rename_i hw; rw [if_neg hw]; exact pI hK a
       · rename_i hT
         rw [if_neg hT]
         split at a
         · exact pI hK a
         · exact a.elim
     · exact a.elim
   all_goals exact pI hK a
 | value fx=>
   rw [hc] at a
   simp only at a ⊢
   split at a
   · exact aJf hK a
   · exact a.elim
 | invoke=>rw [hc] at a; exact a.elim
theorem F0 {dr:Bool} {o:Op} {env:List AV} {h:List AObj} (hK:∀ r h,K r h→K' r h) (a:eO P G dr o K env h):eO P G dr o K' env h:=by
 cases o
 case call c=>exact aKl hK a
 case mapUpdate T m k x=>
   unfold eO at a ⊢
   simp only at a ⊢
   split at a
   · rename_i hp
     rw [if_pos hp]
     split at a
     · exact hK _ _ a
     · exact a.elim
   · rename_i hp
     rw [if_neg hp]
     split at a
     · exact hK _ _ a
     · exact a.elim
 case range T x=>
   unfold eO at a ⊢
   simp only at a ⊢
   split at a
   · exact a.elim
   · rename_i hd
     rw [if_neg hd]
     split at a
     · exact hK _ _ a
     · exact hK _ _ a
     · exact a.elim
 case next x b=>
   cases b
   · unfold eO at a ⊢
     simp only at a ⊢
     split at a
     · exact a.elim
     · rename_i hd
       rw [if_neg hd]
       split at a
       · split at a
         · exact ⟨fun h=>hK _ _ (a.1 h),fun j k v h1 h2=>hK _ _ (a.2 j k v h1 h2)⟩
         · exact a.elim
       · exact a.elim
   · unfold eO at a ⊢
     simp only at a ⊢
     split at a
     · exact a.elim
     · rename_i hd
       rw [if_neg hd]
       split at a
       · split at a
         · exact ⟨fun h=>hK _ _ (a.1 h),fun c h1=>⟨fun h2=>hK _ _ ((a.2 c h1).1 h2),fun rn k h2 h3 h4 h5=>hK _ _ ((a.2 c h1).2 rn k h2 h3 h4 h5)⟩⟩
         · exact a.elim
       · exact a.elim
 case entry x=>
   unfold eO at a ⊢
   simp only at a ⊢
   split at a
   · exact a.elim
   · rename_i hd
     rw [if_neg hd]
     split at a
     · split at a
       · exact hK _ _ a
       · exact a.elim
     · exact a.elim
 all_goals first | exact hK _ _ a | exact pI hK a | exact False.elim a | exact a
theorem aNz {T:TypeId} {v:AV} {K K':AV→Prop} (hK:∀ r,K r→K' r) (a:aZk P T v K):aZk P T v K':=by
 unfold aZk at a ⊢
 split at a
 · split at a
   · exact ⟨hK _ a.1,hK _ a.2⟩
   · exact ⟨fun h=>hK _ (a.1 h),hK _ a.2⟩
   · exact a.elim
 · exact a.elim
theorem aMh {dr:Option DR} {op:Op} {env:List AV} {h:List AObj} (hK:∀ r h,K r h→K' r h) (a:oU P G dr op K env h):oU P G dr op K' env h:=by
 unfold oU at a ⊢
 split at a
 · exact aNz (fun r=>hK r h) a
 · first
     | exact F0 hK a
     | (split at a
        · split at a
          · exact hK _ _ a
          · exact F0 hK a
        · exact F0 hK a)
theorem U6 {dr:Option DR} {ck:Bool} {op:Op} {env:List AV} {h:List AObj} (hK:∀ r h,K r h→K' r h) (a:aIl P G dr ck op K env h):aIl P G dr ck op K' env h:=by
 unfold aIl at a ⊢
 split
 · rename_i T len ps hv
   rw [hv] at a
   exact pI hK a
 · rename_i hv
   rw [hv] at a
   simp only at a ⊢
   split
   · rename_i c N hz
     rw [hz] at a
     obtain ⟨x,h',h1,h2,h3⟩:=a
     exact ⟨x,h',h1,h2,hK _ _ h3⟩
   · rename_i hz
     rw [hz] at a
     exact aMh hK a
theorem pU {dr:Option DR} {K K':List AV→List AObj→Prop} (hK:∀ e h,K e h→K' e h):∀ {os:List fR} {env:List AV} {h:List AObj},dI P G dr os K env h→dI P G dr os K' env h
 | [],_,_,a=>hK _ _ a
 | o::os,env,h,a=>by
   rw [dI] at a ⊢
   split at a
   · exact ⟨a.1,U6 (fun r h'=>pU hK) a.2⟩
   · exact L4 (fun a=>⟨a.1,U6 (fun r h'=>pU hK) a.2⟩) (pU hK) a
theorem oI:∀ {c:kR} {Q Q':Exit→List AV→List AObj→Prop} {env:List AV} {h:List AObj},(∀ x e h,Q x e h→Q' x e h)→awx P G c Q env h→awx P G c Q' env h
 | .skip,_,_,_,_,hQ,a=>hQ _ _ _ a
 | .region ops,_,_,_,_,hQ,a=>pU (hQ _) a
 | .draw th ops,_,_,_,_,hQ,a=>pU (hQ _) a
 | .seq x y,_,_,_,_,hQ,a=>by
   rw [awx] at a ⊢
   refine oI (fun x e h k=>?_) a
   cases x
   case normal=>exact oI hQ k
   all_goals exact hQ _ _ _ k
 | .cond c x y,_,_,_,_,hQ,a=>L4 (oI hQ) (oI hQ) a
 | .block id c,Q,Q',_,_,hQ,a=>by
   rw [awx] at a ⊢
   refine oI (fun x e h k=>?_) a
   cases x
   case exit i=>
     simp only [yA] at k ⊢
     split at k
     · rename_i hi; rw [if_pos hi]; exact hQ _ _ _ k
     · rename_i hi; rw [if_neg hi]; exact hQ _ _ _ k
   all_goals exact hQ _ _ _ k
 | .loop c,_,_,_,_,hQ,a=>by
   obtain ⟨S,I,μ,s0,h0,r⟩:=a
   refine ⟨S,I,μ,s0,h0,fun s env h hI=>oI (fun x e h k=>?_) (r s env h hI)⟩
   cases x
   case normal=>exact k
   all_goals exact hQ _ _ _ k
 | .exit id,_,_,_,_,hQ,a=>hQ _ _ _ a
 | .ret,_,_,_,_,hQ,a=>hQ _ _ _ a
end
section
variable {P:Program} {G:Glob} {X:Ctx} {w:World} {h:List AObj}
end
def aJr:AV→Bool
 | .e0=>true
 | a=>pers a
def aYz (h:List AObj) (a:AV):List Nat:=dO dep h a
def hsQ (o:Option AObj) (id:Nat) (alt:List Nat):List Nat:=
 match o with
 | some (.arr _ _ cells)=>if cells.all aJr then [id] else alt
 | _=>alt
def bOz (cells:List AV) (alt:List Nat):List Nat:=if cells.all aJr then [] else alt
theorem wU {h:List AObj} {a:AV} {k:Nat} (e:aJr a=true):dO k h a=[]:=by
 cases k with
 | zero=>rfl
 | succ k=>
   rw [dO]
   by_cases hp:pers a=true
   · rw [if_pos hp]
   · rw [if_neg hp]
     cases a with
     | e0=>rfl
     | _=>exact absurd e hp
theorem A3 {h:List AObj} {l:List AV} {k:Nat} (e:l.all aJr=true):l.flatMap (dO k h)=[]:=by
 induction l with
 | nil=>rfl
 | cons a l ih=>
   rw [dH,aC] at e
   rw [cJ,wU e.1,ih e.2,List.append_nil]
theorem aEr {h:List AObj} {id off n:Nat} {t:Bool}:dO dep h (.hs id off n t)=hsQ h[id]? id (aYz h (.hs id off n t)):=by
 cases ho:h[id]? with
 | none=>rfl
 | some o=>
   cases o with
   | arr fz sz cells=>
     simp only [hsQ]
     split
     · rename_i e
       have e2:((cells.drop off).take (n * sz)).all aJr=true:=aR.2 fun x hx=>aR.1 e x (nO (fO hx))
       rw [rR]
       simp only [pers,aP,if_false,aEs,ho,A3 e2,ite_self]
     · rfl
   | _=>rfl
theorem A4 {h:List AObj} {cells:List AV}:dO dep h (.agg cells)=bOz cells (aYz h (.agg cells)):=by
 unfold bOz
 split
 · rename_i e
   rw [rR]
   by_cases hp:pers (.agg cells)=true
   · rw [if_pos hp]
   · rw [if_neg hp]
     simp only [aEs,A3 e,ite_self]
 · rfl
attribute [go_sem ↓] aEr A4
attribute [go_sem] hsQ bOz aJr dH aDx
end Go.Vo
