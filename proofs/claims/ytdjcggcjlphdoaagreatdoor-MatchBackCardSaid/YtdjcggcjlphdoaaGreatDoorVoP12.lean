/-
  The abstract layer, part J: every operation that calls no code is what the model does. It speaks of any program; no condition.
-/
import Derived.Test.YtdjcggcjlphdoaaGreatDoorVoP11
import Derived.Maps.RangeRun
import Derived.Laws.AppendOwn
import Derived.Laws.RangeAny
set_option linter.unusedVariables false
set_option linter.unusedSimpArgs false
namespace Go.Vo
inductive ORV (X:Ctx) (w:World) (h:List AObj):Option AV→Option Value→Prop
 |none:ORV X w h Option.none Option.none
 |some {a v}:RV X w h a v→ORV X w h (some a) (some v)
theorem lT(z:List AV)(n:Nat):(List.replicate n z).flatten.length=n*z.length:=by
 induction n with
 |zero=>simp
 |succ n ih=>simp[gV,ih,Nat.add_mul];omega
theorem sE(z:List AV):∀(n j:Nat),j<n*z.length→(List.replicate n z).flatten[j]? = z[j % z.length]?
 |0,j,h=>by simp at h
 |n + 1,j,h=>by
  rw[gV,fB];by_cases hj:j<z.length
  ·rw[aG hj,Nat.mod_eq_of_lt hj]
  ·rw[aR (by omega),sE z n _ (by rw[Nat.add_mul]at h;omega)];congr 1;exact(Nat.mod_eq_sub_mod (by omega)).symm
section
variable {P:Program} {G:Glob} {X:Ctx} {w:World} {h:List AObj}
theorem vH{z:Value}{zc:List AV}(hz:U8 z=some zc)(n:Nat) :
 (List.replicate n zc).flatten.length=((Array.range (n*zc.length)).map (z.cells[· % z.cells.size]!)).size∧kF ((Array.range (n*zc.length)).map (z.cells[· % z.cells.size]!)) ∧
 (∀(j:Nat) (a:AV) (v:Value),(List.replicate n zc).flatten[j]? = some a→((Array.range (n*zc.length)).map (z.cells[· % z.cells.size]!))[j]? = some v→RV X w h a v):=by
 obtain⟨h1,h2,h3⟩:=kS (X:=X) (w:=w) (h:=h) hz;have get:∀(j:Nat) (v:Value),((Array.range (n*zc.length)).map (z.cells[· % z.cells.size]!))[j]? = some v→j<n*zc.length∧z.cells[j % zc.length]? = some v:=by
  intro j v hv;have hj:=(aY.1 hv).1;simp at hj;refine⟨hj,?_⟩;have hpos:0<zc.length:=by
   rcases Nat.eq_zero_or_pos zc.length with h0|h0
   ·rw[h0]at hj;simp at hj
   ·exact h0
  have hm:j % zc.length<z.cells.size:=by rw[h1];exact Nat.mod_lt _ hpos
  simp[hj]at hv;rw[h1]at hv;rw[getElem!_pos z.cells _ hm]at hv;rw[bW hm,hv]
 refine⟨by simp[lT],?_,?_⟩
 ·intro j v hv;exact h2 _ _ (get j v hv).2
 ·intro j a v ha hv;obtain⟨hj,hv'⟩:=get j v hv;rw[sE _ _ _ hj]at ha;exact h3 _ _ _ ha hv'
theorem sW{v:Value}{k:IntKind}{n:Int}(r:RV X w h (.i k n) v):v=.int k n:=by
 cases r with
 |i=>rfl
 |dead hr _ _=>simp[AV.refs]at hr
theorem Y7{T:TypeId}{f fo ft:Nat}(e:lV P T f=some (fo,ft)):∃fs x,P.underlying T=some (.struct fs)∧fs[f]? = some x∧x.offset=fo∧x.type=ft:=by
 unfold lV at e;split at e
 ·rename_i fs hu;cases hx:fs[f]? with
  |none=>simp[hx]at e
  |some x=>simp[hx]at e;exact⟨fs,x,hu,hx,e.1,e.2⟩
 ·cases e
theorem R5{o:Option AV}{vo:Option Value}{d n:Nat}(ho:ORV X w h o vo)(e:zW o d=some n) :
 (o=Option.none∧vo=Option.none∧n=d)∨∃k i,o=some (.i k i)∧vo=some (.int k i)∧0≤i∧i.toNat=n:=by
 cases ho with
 |none=>simp only[zW,aB]at e;exact .inl ⟨rfl,rfl,e.symm⟩
 | @some a v r=>
   cases a with
   |i k i=>
    simp only[zW,dB,aB]at e;exact .inr ⟨k,i,rfl,by rw[sW r],e.1,e.2⟩
   |_=>simp[zW]at e
theorem lQ{k:IntKind}{i:Int}{y:Nat}{code:BoundsCode}(h0:0≤i)(h1:i.toNat≤y)(w:World):(Instr.sliceBound (.int k i) y code).run P w=.ok i.toNat w:=by
 have:0≤i∧i≤(y:Int):=by omega
 simp[Instr.sliceBound,asIntOf,this]
theorem V4{isSlice:Bool}{len cap a b:Nat}{lo hi:Option AV}{vlo vhi:Option Value}(hlo:ORV X w h lo vlo)
 (hhi:ORV X w h hi vhi) (eb:zW hi len=some b) (ea:zW lo 0=some a) (hab:a≤b) (hb:b≤len) (hlc:len≤cap) (w:World) :
 (Instr.sliceBounds isSlice len cap vlo vhi Option.none).run P w=.ok (a,b,cap) w:=by
 rcases R5 hhi eb with⟨rfl,rfl,rfl⟩|⟨k,i,rfl,rfl,hi0,rfl⟩<;>rcases R5 hlo ea with⟨rfl,rfl,rfl⟩|⟨k',i',rfl,rfl,hi0',rfl⟩
 ·simp[Instr.sliceBounds]
 ·simp[Instr.sliceBounds,lQ hi0' hab]
 ·simp[Instr.sliceBounds,lQ hi0 (jT hb hlc)]
 ·simp[Instr.sliceBounds,lQ hi0 (jT hb hlc),lQ hi0' hab]
theorem aHv{len cap a b c:Nat}{lo hi:Option AV}{mx:AV}{vlo vhi:Option Value}{vmx:Value}(hlo:ORV X w h lo vlo)
 (hhi:ORV X w h hi vhi) (hmx:RV X w h mx vmx) (eb:zW hi len=some b) (ea:zW lo 0=some a) (ec:zW (some mx) 0=some c)
 (hh:hi≠Option.none) (hab:a≤b) (hbc:b≤c) (hc:c≤cap) (w:World) :
 (Instr.sliceBounds true len cap vlo vhi (some vmx)).run P w=.ok (a,b,c) w:=by
 obtain⟨km,im,e1,e2,hm0,rfl⟩:∃k i,mx=.i k i∧vmx=.int k i∧0≤i∧i.toNat=c:=by
  rcases R5 (.some hmx) ec with⟨h1,_⟩|⟨k,i,h1,h2,h3,h4⟩
  ·cases h1
  ·exact⟨k,i,by simpa using h1,by simpa using h2,h3,h4⟩
 subst e1;subst e2;rcases R5 hhi eb with⟨rfl,rfl,rfl⟩|⟨k,i,rfl,rfl,hi0,rfl⟩
 ·exact absurd rfl hh
 rcases R5 hlo ea with⟨rfl,rfl,rfl⟩|⟨k',i',rfl,rfl,hi0',rfl⟩
 ·simp[Instr.sliceBounds,lQ hm0 hc,lQ hi0 hbc]
 ·simp[Instr.sliceBounds,lQ hm0 hc,lQ hi0 hbc,lQ hi0' hab]
theorem aQv(l:List UInt8)(a b:Nat):(⟨l.toArray⟩:ByteArray).extract a b=⟨((l.take b).drop a).toArray⟩:=by
 apply ByteArray.ext;rw[ByteArray.data_extract];apply oS;simp[List.drop_take]
theorem bCn{T : TypeId}{x y:AV}{v:Value}{lo hi mx:Option AV}{vlo vhi vmx:Option Value}(g:GH G X w h)(r:RV X w h x v)
 (hlo:ORV X w h lo vlo) (hhi:ORV X w h hi vhi) (hmx:ORV X w h mx vmx) (e:sY P h T x lo hi mx=some y) :
 ∃u,(Instr.sliceAt T v vlo vhi vmx).run P w=.ok u w∧RV X w h y u:=by
 unfold sY at e;split at e
 ·cases e
 rename_i hmh;split at e
 ·rename_i hu;split at e
  ·rename_i l;cases hmx;split at e
   ·rename_i b a eb ea;split at e
    ·rename_i hab;cases e;cases r with
     |dead hr _ _=>simp[AV.refs]at hr
     |s =>
      have hb:=V4 (P:=P) (isSlice:=false) (cap:=l.length) hlo hhi eb ea hab.1 hab.2 (bK _) w;refine⟨.string ((⟨l.toArray⟩:ByteArray).extract a b),?_,?_⟩
      ·simp only[Instr.sliceAt,cD,run_underlying hu,bO];simp only[Instr.slice,cD,run_underlying hu,bO,K8,I9,aE,if_false,hb,eE]
      ·rw[aQv];exact .s _
    ·cases e
   ·cases e
  ·cases e
 ·rename_i el hu
  cases hs:lP P el with
  |none=>simp[hs]at e
  |some sz=>
  simp only[hs]at e;have hrun:∀(a:Option Addr) (len cap lo' hi' m:Nat),v=.slice a len cap→(Instr.sliceBounds true len cap vlo vhi vmx).run P w=.ok (lo',hi',m) w →
   (Instr.sliceAt T v vlo vhi vmx).run P w=.ok (.slice (if m=lo' then a else a.map (·.add (lo'*sz))) (hi'-lo') (m-lo')) w:=by
   rintro a len cap lo' hi' m rfl hb;simp only[Instr.sliceAt,Instr.slice,cD,run_underlying hu,bO,hb,gL hs,eE]
  have hbounds:∀(len cap a b c:Nat),zW hi len=some b→zW lo 0=some a→(mx=Option.none→c=cap)→(∀m,mx=some m→zW (some m) 0=some c)→a≤b→b≤len→len≤cap→b≤c→c≤cap →
   (Instr.sliceBounds true len cap vlo vhi vmx).run P w=.ok (a,b,c) w:=by
   intro len cap a b c eb ea h1 h2 hab hbl hlc hbc hcc;cases hmx with
   |none=>rw[h1 rfl];exact V4 hlo hhi eb ea hab hbl hlc w
   | @some mx vmx rm=>
     have hhn:hi≠Option.none:=by rintro rfl;simp at hmh
     exact aHv hlo hhi rm eb ea (h2 mx rfl) hhn hab hbc hcc w
  have emx:∀c,zW mx 0=some c→∀m,mx=some m→zW (some m) 0=some c:=by rintro c hc m rfl;exact hc
  cases x with
  |e0=>
   simp only at e;split at e
   ·rename_i eb ea em;cases e;cases r with
    |dead hr _ _=>simp[AV.refs]at hr
    |e0 a=>
     refine⟨_,hrun a 0 0 0 0 0 rfl (hbounds 0 0 0 0 0 eb ea (fun _=>rfl) (emx 0 em) (bK _) (bK _) (bK _) (bK _) (bK _)),by simpa using .e0 _⟩
   ·cases e
  |sl cells n=>
   simp only at e;have hv:∃a cap,v=.slice a n cap∧n≤cap:=by
    cases r with
    |dead hr _ _=>simp[AV.refs]at hr
    |sl0 a cap=>exact⟨_,_,rfl,bJ _⟩
    |sl hF hb hl hc h1 hr=>exact⟨_,_,rfl,hc⟩
   cases mx with
   |none=>
    simp only at e;split at e
    ·rename_i b a eb ea;split at e
     ·rename_i hab;obtain⟨hab,hbn,hcl⟩:=hab;cases e;obtain⟨ad,cap,rfl,hnc⟩:=hv;refine⟨_,hrun ad n cap a b cap rfl (hbounds n cap a b cap eb ea (fun _=>rfl) (fun m h=>by cases h) hab hbn hnc (by omega) (bK _)),?_⟩;by_cases hca:cap=a
      ·have hb':b=a:=by omega
       subst hb';subst hca;simp only[if_true,wO];have:(cells.take (cap*sz)).drop (cap*sz)=[]:=tQ (by simp;omega);rw[this];exact .sl0 _ _
      ·simp only[if_neg hca];cases r with
       |dead hr _ _=>simp[AV.refs]at hr
       |sl0=>
        simp;have:b-a=0:=by omega
        rw[this];exact .sl0 _ _
       | @sl _ _ bb o _ cs T' fr hF hb hl hc h1 hr=>
         simp only[dO,add_lit];have hmb:=cN sz hbn;have hma:=cN sz hab;have hlen:((cells.take (b*sz)).drop (a*sz)).length=b*sz-a*sz:=by simp;omega
         refine .sl hF hb (by rw[hlen];omega) (by omega) ?_ ?_
         ·intro j u hj hu;rw[hlen]at hj;exact h1 (a*sz+j) u (by omega) (by rw[← eK];exact hu)
         ·intro j y u hy hu;have hj:=bP hy;rw[hlen]at hj;rw[eL,dY,if_pos (by omega)]at hy;exact hr (a*sz+j) y u hy (by rw[← eK];exact hu)
     ·cases e
    ·cases e
   |some mx =>
    simp only at e;split at e
    ·rename_i eb ea em;cases e;obtain⟨ad,cap,rfl,hnc⟩:=hv;refine⟨_,hrun ad n cap 0 0 0 rfl (hbounds n cap 0 0 0 eb ea (fun h=>by cases h) (fun m h=>by cases h;exact em) (bK _) (bJ _) hnc (bK _) (bJ _)),by simpa using .e0 _⟩
    ·rename_i b a c _ eb ea em;split at e
     ·rename_i hab;obtain⟨hab,hbc,hcn,hcl⟩:=hab;cases e;obtain⟨ad,cap,rfl,hnc⟩:=hv;refine⟨_,hrun ad n cap a b c rfl (hbounds n cap a b c eb ea (fun h=>by cases h) (fun m h=>by cases h;exact em) hab (by omega) hnc hbc (by omega)),?_⟩;by_cases hca:c=a
      ·have hb':b=a:=by omega
       subst hb';subst hca;simp only[if_true,wO];have:(cells.take (c*sz)).drop (c*sz)=[]:=tQ (by simp;omega);rw[this];exact .sl0 _ _
      ·simp only[if_neg hca];have hbn:b≤n:=by omega
       cases r with
       |dead hr _ _=>simp[AV.refs]at hr
       |sl0=>
        simp;have:b-a=0:=by omega
        rw[this];exact .sl0 _ _
       | @sl _ _ bb o _ cs T' fr hF hb hl hc h1 hr=>
         simp only[dO,add_lit];have hmb:=cN sz hbn;have hma:=cN sz hab;have hlen:((cells.take (b*sz)).drop (a*sz)).length=b*sz-a*sz:=by simp;omega
         refine .sl hF hb (by rw[hlen];omega) (by omega) ?_ ?_
         ·intro j u hj hu;rw[hlen]at hj;exact h1 (a*sz+j) u (by omega) (by rw[← eK];exact hu)
         ·intro j y u hy hu;have hj:=bP hy;rw[hlen]at hj;rw[eL,dY,if_pos (by omega)]at hy;exact hr (a*sz+j) y u hy (by rw[← eK];exact hu)
     ·cases e
    ·cases e
  |hs id off n t=>
   simp only at e;cases hid:h[id]? with
   |none=>simp[hid]at e
   |some ob=>
   simp only[hid]at e;cases ob with
   |arr fz s cells=>
    simp only at e;split at e
    ·rename_i b a eb ea;split at e;case isFalse=>cases e
     rename_i hc;obtain⟨rfl,hab,hbn,hle⟩:=hc;have hmb:=cN s hbn;have hma:=cN s hab;have hsub:off+a*s+(b-a)*s=off+b*s:=by rw[Nat.sub_mul];omega
     have cut:∀(c:Nat) (t':Bool),b≤c→(∀cap,v=.slice (match v with| .slice a _ _=>a|_=>Option.none) n cap→c≤cap∧(t'=true→c=b)∧(t'=false→t=false∧c=cap)) →
      ∃ad cap,v=.slice ad n cap∧n≤cap∧RV X w h (.hs id (off+a*s) (b-a) t') (.slice (if c=a then ad else ad.map (·.add (a*s))) (b-a) (c-a)):=by
      intro c t' hbc hcap;cases r with
      |dead hr hd _=>simp[AV.refs]at hr;subst hr;rw[hid]at hd;cases hd
      | @hs0 _ _ _ fz' s' cells' ad hid' hf ho=>
        rw[hid]at hid';cases hid';obtain⟨h1,h2,h3⟩:=hcap 0 rfl;have ha0:a=0:=by omega
        have hb0:b=0:=by omega
        have hc0:c=0:=by omega
        subst ha0;subst hb0;subst hc0;refine⟨ad,0,rfl,bK _,?_⟩;simp only[nV,Nat.add_zero,wO,if_true];exact .hs0 hid (fun ht=>hf (h3 ht).1) ho
      | @hs _ _ _ _ fz' s' cells' bb o cap T' N hid' hι hsh hn hcc hN htt hff=>
        rw[hid]at hid';cases hid';obtain⟨h1,h2,h3⟩:=hcap cap rfl;refine⟨_,cap,rfl,hcc,?_⟩;have hmc:=cN s h1;have hsubc:off+a*s+(c-a)*s=off+c*s:=by rw[Nat.sub_mul];have:=cN s (show a≤c by omega);omega
        by_cases hca:c=a
        ·have hba:b=a:=by omega
         subst hba;subst hca;simp only[wO,if_true];exact .hs0 hid (fun ht=>by have h4:=hff (h3 ht).1;have h5:=(h3 ht).2;subst h5;exact h4) (by omega)
        ·simp only[if_neg hca,dO,add_lit,eK];refine .hs hid hι hsh (by omega) (by omega) (by omega) (fun ht=>by have:=h2 ht;omega) (fun ht=>?_);have h4:=hff (h3 ht).1;have h5:=(h3 ht).2;subst h5;omega
     cases hm:mx with
     |none=>
      subst hm;simp only at e;split at e
      ·cases e
      rename_i htn;cases e;have hv:∃ad cap,v=.slice ad n cap∧n≤cap∧(t=true→cap=n):=by
       cases r with
       |dead hr hd _=>simp[AV.refs]at hr;subst hr;rw[hid]at hd;cases hd
       |hs0=>exact⟨_,0,rfl,bK _,fun _=>rfl⟩
       |hs _ _ _ _ hcc _ htt _=>exact⟨_,_,rfl,hcc,htt⟩
      obtain⟨ad,cap,rfl,hnc,htc⟩:=hv;obtain⟨ad',cap',hv',hnc',rr⟩:=cut cap t (by omega) (fun cap' hc=>by
       simp only[U4,true_and]at hc;subst hc;exact⟨bK _,fun ht=>by have:=htc ht;simp[ht]at htn;omega,fun ht=>⟨ht,rfl⟩⟩)
      simp only[U4,true_and]at hv';obtain⟨rfl,rfl⟩:=hv';exact⟨_,hrun ad n cap a b cap rfl (hbounds n cap a b cap eb ea (fun _=>rfl) (fun m h=>by cases h) hab hbn hnc (by omega) (bK _)),rr⟩
     |some m=>
      subst hm;simp only at e;split at e
      ·rename_i c em;split at e;case isFalse=>cases e
       rename_i hcb;subst hcb;cases e;have hv:∃ad cap,v=.slice ad n cap∧n≤cap:=by
        cases r with
        |dead hr hd _=>simp[AV.refs]at hr;subst hr;rw[hid]at hd;cases hd
        |hs0=>exact⟨_,0,rfl,bK _⟩
        |hs _ _ _ _ hcc _ _ _=>exact⟨_,_,rfl,hcc⟩
       obtain⟨ad,cap,rfl,hnc⟩:=hv;obtain⟨ad',cap',hv',hnc',rr⟩:=cut c true (bK _) (fun cap' hc=>by
        simp only[U4,true_and]at hc;subst hc;exact⟨by omega,fun _=>rfl,fun ht=>by cases ht⟩)
       simp only[U4,true_and]at hv';obtain⟨rfl,rfl⟩:=hv';exact⟨_,hrun ad n cap a c c rfl (hbounds n cap a c c eb ea (fun h=>by cases h) (fun m' h=>by cases h;exact em) hab hbn hnc (bK _) (by omega)),rr⟩
      ·cases e
    ·cases e
   |_=>simp at e
  |_=>simp at e
 ·rename_i n el hu;split at e;case h_2=>cases e
  rename_i sz hs;cases hlo;cases hhi;cases hmx;split at e;case h_2=>cases e
  rename_i id;split at e;case h_2=>cases e
  rename_i fz s cells hid;split at e;case isFalse=>cases e
  rename_i hc;obtain⟨rfl,hl⟩:=hc;cases e;cases r with
  |dead hr hd _=>simp[AV.refs]at hr;subst hr;rw[hid]at hd;cases hd
  | @ptr _ _ ob b o hid2 hnd hι=>
    have ho:=g.objs id _ hid;cases ho with
    |absent h0=>rw[hι]at h0;cases h0
    | @arr _ _ _ b' o' cs T' fr h0 h1 h2 h3 h4 h5 h6=>
      rw[hι]at h0;simp only[aB,bH]at h0;obtain⟨rfl,rfl⟩:=h0;have hsh:w.shape? b=some (T',cs.size):=by simp only[World.shape?,h1]
      refine⟨.slice (some ⟨b,o+0,Option.none⟩) n n,?_,.hs hid hι hsh (by omega) (bK _) (by omega) (by simp) (fun _=>by omega)⟩;have hb:(Instr.sliceBounds false n n Option.none Option.none Option.none).run P w=.ok (0,n,n) w:=by simp[Instr.sliceBounds]
      simp only[Instr.sliceAt,cD,run_underlying hu,bO];simp only[Instr.sureAddr,cD,eE,bO,hb,gL hs];by_cases hn:n=0
      ·subst hn;simp
      ·simp[hn,add_lit]
 ·cases e
end
section
variable {P:Program} {G:Glob} {D:List Deferred} {X:Ctx} {w:World} {h:List AObj} {env:List AV} {a:Act}
theorem aVy(g:GH G X w h)(r:EnvOK D X w h env a)(xs:Array Operand) :
 (xs.toList.map (aev G env)).length=(xs.map a.eval).size∧∀(j:Nat) (x:AV) (v:Value),(xs.toList.map (aev G env))[j]? = some x→(xs.map a.eval)[j]? = some v→RV X w h x v:=by
 refine⟨by simp,?_⟩;intro j x v hx hv;simp only[eV,iR,dG,Array.getElem?_map]at hx hv;obtain⟨o,ho,rfl⟩:=hx;obtain⟨o',ho',rfl⟩:=hv;rw[ho]at ho';cases ho';exact jG g r o
theorem aJx{t:Bool}{v:Value}(r:RV X w h (.b t) v):v=.bool t:=by
 cases r with
 |b=>rfl
 |dead hr _ _=>simp[AV.refs]at hr
theorem aVg(g:GH G X w h)(r:EnvOK D X w h env a)(o:Option Operand):ORV X w h (o.map (aev G env)) (o.map a.eval):=by
 cases o with
 |none=>exact .none
 |some o=>exact .some (jG g r o)
theorem H6(g:GH G X w h)(r:EnvOK D X w h env a)(ps:Array (Nat×Operand)) :
 (ps.toList.map fun(i,x)=>(i,aev G env x)).map (·.1)=((ps.map fun(i,x)=>(i,a.eval x)).toList).map (·.1) ∧
 ∀(j:Nat) (p:Nat×AV) (q:Nat×Value),(ps.toList.map fun(i,x)=>(i,aev G env x))[j]? = some p→((ps.map fun(i,x)=>(i,a.eval x)).toList)[j]? = some q→RV X w h p.2 q.2:=by
 refine⟨by simp,?_⟩;intro j p q hp hq;simp only[Array.toList_map,eV,dG]at hp hq;obtain⟨o,ho,rfl⟩:=hp;obtain⟨o',ho',rfl⟩:=hq;rw[ho]at ho';cases ho';exact jG g r o.2
theorem aFq{f g:Nat→Option (Nat×Nat)}(h:∀i p,f i=some p→g i=some p):∀(parts:List (Nat×Value)) (z v:Array Value),Instr.fill f z parts=some v→Instr.fill g z parts=some v
 | [],_,_,e=>e
 |(i,x)::rest,z,v,e=>by
  unfold Instr.fill at e ⊢;cases hf:f i with
  |none=>simp[hf]at e
  |some p=>
   obtain⟨off,size⟩:=p;rw[h i _ hf];simp only[hf]at e;simp only;split at e
   ·cases e
   ·rename_i hc;rw[if_neg hc];exact aFq h rest _ _ e
theorem aZk(g:GH G X w h){cells:List AV}{cs:Array Value}(T:TypeId)(hl:cs.size=cells.length)(h1:kF cs)(hr:∀(j:Nat) (x:AV) (u:Value),cells[j]? = some x→cs[j]? = some u→RV X w h x u) :
 ∃X' w',(newRow T cs).run P w=.ok ⟨w.heap.size,0,Option.none⟩ w'∧RV X' w' (h++[.box false cells]) (.ptr h.length 0) (.pointer (some ⟨w.heap.size,0,Option.none⟩))∧GH G X' w' (h++[.box false cells])∧Tr X w h X' w' (h++[.box false cells]):=by
 have hp:=iD.alloc w (.cells cs T (0,0));obtain⟨g',t⟩:=qP g hp _ (nB g hp cells (by omega) (fun j v _ hv=>h1 j v hv) hr).1;refine⟨_,_,rfl,?_,g',t⟩;have:=RV.ptr (X:=X.upd h.length (some (w.heap.size,0))) (w:=w.alloc (.cells cs T (0,0))) (h:=h++[.box false cells]) (id:=h.length) (off:=0) (ob:=.box false cells) (b:=w.heap.size) (o:=0) (by simp) (by simp) (Ctx.upd_same _ _ _);simpa using this
theorem bAf(g:GH G X w h){cells:List AV}{cs:Array Value}(T:TypeId){sz n cap:Nat}(hl:cells.length≤cs.size)(h1:kF cs)(hr:∀(j:Nat) (x:AV) (u:Value),cells[j]? = some x→cs[j]? = some u→RV X w h x u)
 (hn:cells.length=n*sz) (hnc:n≤cap) (hcap:cap*sz≤cs.size) :
 ∃X' w',(newRow T cs).run P w=.ok ⟨w.heap.size,0,Option.none⟩ w'∧RV X' w' (h++[.arr false sz cells]) (.hs h.length 0 n false) (.slice (some ⟨w.heap.size,0,Option.none⟩) n cap) ∧
  GH G X' w' (h++[.arr false sz cells])∧Tr X w h X' w' (h++[.arr false sz cells]):=by
 have hp:=iD.alloc w (.cells cs T (0,0));obtain⟨g',t⟩:=qP g hp _ ((nB g hp cells hl (fun j v _ hv=>h1 j v hv) hr).2 h1 sz);refine⟨_,_,rfl,?_,g',t⟩;have hsh:(w.alloc (.cells cs T (0,0))).shape? w.heap.size=some (T,cs.size):=by simp only[World.shape?,hp.at]
 have:=RV.hs (X:=X.upd h.length (some (w.heap.size,0))) (w:=w.alloc (.cells cs T (0,0))) (h:=h++[.arr false sz cells]) (id:=h.length) (off:=0) (n:=n) (t:=false) (cap:=cap) (fz:=false) (sz:=sz) (cells:=cells) (by simp) (Ctx.upd_same _ _ _) hsh (by omega) hnc (by omega) (by simp) (fun _=>by
  have:=cN sz hnc;omega)
 simpa using this
theorem bVp{x:AV}{v:Value}{n:Nat}{T ty:TypeId}(g:GH G X w h)(r:RV X w h x v)(e:bAu P h T x=some n):(Builtin.len_ #[T] ty #[v]).run P w=.ok (.int .i64 n) w:=by
 unfold bAu at e;cases hd:P.underlying T with
 |none=>simp[hd]at e
 |some d=>
  rw[hd]at e;cases d with
  |string=>
   cases x<;>simp at e;subst e;cases r with
   |s l=>simp[Builtin.len_,run_underlying hd,K8,goInt]
   |dead hr _ _=>simp[AV.refs]at hr
  |slice el=>
   cases x with
   |e0=>
    simp at e;subst e;cases r with
    |e0=>simp[Builtin.len_,run_underlying hd,goInt]
    |dead hr _ _=>simp[AV.refs]at hr
   |sl cells m=>
    simp at e;subst e;cases r with
    |sl0=>simp[Builtin.len_,run_underlying hd,goInt]
    |sl=>simp[Builtin.len_,run_underlying hd,goInt]
    |dead hr _ _=>simp[AV.refs]at hr
   |hs id off m t=>
    cases r with
    |hs hid=>simp[hid]at e;subst e;simp[Builtin.len_,run_underlying hd,goInt]
    |hs0 hid=>simp[hid]at e;subst e;simp[Builtin.len_,run_underlying hd,goInt]
    |dead hr hd' _=>simp[AV.refs]at hr;subst hr;simp[hd']at e
   |_=>simp at e
  |map K E=>
   cases x with
   |mapv ks vs=>
    simp at e;subst e;cases r with
    |mapv hF hb hk hv=>simp[Builtin.len_,run_underlying hd,goInt,getObj,Sem.run,hb,hk]
    |dead hr _ _=>simp[AV.refs]at hr
   |mp id=>
    cases r with
    |mp hid hι=>
     simp[hid]at e;subst e;have ok:=g.objs _ _ hid;cases ok with
     |absent h0=>rw[h0]at hι;cases hι
     |map h0 h1 h2 h3 h4=>
     rw[h0]at hι;cases hι;simp[Builtin.len_,run_underlying hd,goInt,getObj,Sem.run,h1,h4]
    |dead hr hd' _=>simp[AV.refs]at hr;subst hr;simp[hd']at e
   |p u=>
    simp only at e;split at e<;>first|(cases e;done)|skip
    all_goals(first|(rename_i he;cases he;done)|skip)
    rename_i he;cases he;cases e;cases r with
    |p=>simp[Builtin.len_,run_underlying hd,goInt]
    |dead hr _ _=>simp[AV.refs]at hr
   |_=>simp at e
  |_=>simp at e
theorem aFg{T:TypeId}{x i y:AV}{v iv:Value}(g:GH G X w h)(r:RV X w h x v)(ri:RV X w h i iv)(e:kE P h T x i=some y):∃u,(Instr.indexAt T v iv).run P w=.ok u w∧RV X w h y u:=by
 unfold kE at e;cases i with
 |i k n =>
  rw[sW ri];simp only at e;cases hu:P.underlying T with
  |none=>simp[hu]at e
  |some d=>
  rw[hu]at e;cases d with
  |slice el=>
   simp only at e;cases hs:lP P el with
   |none=>simp[hs]at e
   |some sz=>
   simp only[hs]at e;cases x with
   |sl cells len=>
    simp only[dB,aB]at e;obtain⟨⟨h0,h1⟩,rfl⟩:=e;cases r with
    |sl0=>simp at h1;omega
    |sl hF hb hl hc h2 hr=>
     refine⟨_,?_,.box hF hb hl h2 hr⟩;simp only[Instr.indexAt,asIntOf,cD,eE,bO,run_underlying hu,gL hs,add_lit];rw[if_pos ⟨h0,h1⟩];simp[gL hs,add_lit]
    |dead hr _ _=>simp[AV.refs]at hr
   |hs id off len t=>
    cases r with
    |hs0 hid=>
     simp only[hid,dB,aB]at e;obtain⟨⟨h0,h1⟩,rfl⟩:=e;simp at h1;omega
    |hs hid hι hsh hn hc hN ht hf=>
     simp only[hid,dB,aB]at e;obtain⟨⟨h0,h1⟩,rfl⟩:=e;refine⟨_,?_,.ptr hid (by simp) hι⟩;simp only[Instr.indexAt,asIntOf,cD,eE,bO,run_underlying hu,gL hs,add_lit];rw[if_pos ⟨h0,h1⟩];simp[gL hs,add_lit,eK]
    |dead hr hd hv=>simp[AV.refs]at hr;subst hr;simp[hd]at e
   |_=>simp at e
  |array len el=>
   simp only at e;cases hs:lP P el with
   |none=>simp[hs]at e
   |some sz=>
   simp only[hs]at e;split at e;case isFalse=>cases e
   rename_i hc;obtain⟨h0,h1⟩:=hc;cases x with
   |ptr id off=>
    cases r with
    | @ptr _ _ ob _ _ hid hnd hι=>
      have e':y=.ptr id (off+n.toNat*sz):=by simp only[hid]at e;cases ob<;>simp at e<;>exact e.symm
      subst e';refine⟨_,?_,.ptr hid hnd hι⟩;simp only[Instr.indexAt,asIntOf,cD,eE,bO,run_underlying hu,gL hs,add_lit,Instr.sureAddr];rw[if_pos ⟨h0,h1⟩];simp[gL hs,add_lit,eK]
    |dead hr hd hv=>simp[AV.refs]at hr;subst hr;simp[hd]at e
   |box cells off=>
    simp only[aB]at e;subst e;cases r with
    |box hF hb hl h2 hr=>
     refine⟨_,?_,.box hF hb hl h2 hr⟩;simp only[Instr.indexAt,asIntOf,cD,eE,bO,run_underlying hu,gL hs,add_lit,Instr.sureAddr];rw[if_pos ⟨h0,h1⟩];simp[gL hs,add_lit,eK]
    |dead hr _ _=>simp[AV.refs]at hr
   |_=>simp at e
  |_=>simp at e
 |_=>simp at e
theorem bFh{T:TypeId}{x i y:AV}{v iv:Value}(g:GH G X w h)(r:RV X w h x v)(ri:RV X w h i iv)(e:R9 P T x i=some y):∃u,(Instr.index T v iv).run P w=.ok u w∧RV X w h y u:=by
 unfold R9 at e;cases i with
 |i k n =>
  rw[sW ri];simp only at e;split at e
  ·rename_i l hu;simp only[dB,aB]at e;obtain⟨⟨h0,h1⟩,rfl⟩:=e;cases r with
   |dead hr _ _=>simp[AV.refs]at hr
   |s =>
    have hlt:n.toNat<l.length:=by omega
    refine⟨.int .u8 (l.getD n.toNat 0).toNat,?_,.i _ _⟩;have hsz:n.toNat<(⟨l.toArray⟩:ByteArray).size:=by rw[K8];exact hlt
    have hg:(⟨l.toArray⟩:ByteArray)[n.toNat]? = some (l.getD n.toNat 0):=by
     rw[getElem?_pos (⟨l.toArray⟩:ByteArray) n.toNat hsz];simp[ByteArray.getElem_eq_getElem_data,hlt]
    simp only[Instr.index,asIntOf,cD,eE,bO,run_underlying hu,if_pos h0,hg]
  ·rename_i len el cs hu;cases hs:lP P el with
   |none=>simp[hs]at e
   |some sz=>
   simp only[hs,dB]at e;obtain⟨⟨h0,h1⟩,e⟩:=e;cases r with
   |dead hr _ _=>simp[AV.refs]at hr
   |agg hl hc1 hr=>
    obtain⟨u,hu',ru⟩:=aLi (X:=X) (h:=h) (w:=w) e hl hc1 hr;refine⟨u,?_,ru⟩;simp only[Instr.index,asIntOf,cD,eE,bO,run_underlying hu];rw[if_pos ⟨h0,h1⟩];simp[gL hs,hu']
  ·cases e
 |_=>simp at e
theorem cAs(g:GH G X w h)(r:EnvOK D X w h env a)(o:Oper){x:AV}{h':List AObj}(e:aop P G env h o.op=some (x,h')):vG G X w h ((execOp a.eval o).run P w) x h':=by
 have ev:=fun y=>jG g r y;unfold execOp;cases ho:o.op with
 |move y=>
  simp only[ho,aop,aB,bH]at e ⊢;obtain⟨rfl,rfl⟩:=e;exact .pure g rfl (ev y)
 |assign y=>
  simp only[ho,aop,aB,bH]at e ⊢;obtain⟨rfl,rfl⟩:=e;exact .pure g rfl (ev y)
 |pick c y z=>
  simp only[ho,aop]at e ⊢;cases hc:aev G env c with
  |b t=>
   have rc:=ev c;rw[hc]at rc;have hcv:a.eval c=.bool t:=aJx rc;simp only[hc,aB,bH]at e;obtain⟨rfl,rfl⟩:=e;refine .pure (v:=if t then a.eval y else a.eval z) g (by simp[hcv,asBool]) ?_;cases t
   ·exact ev z
   ·exact ev y
  |_=>simp[hc]at e
 |alloc T=>
  simp only[ho,aop]at e ⊢;cases hz:zeroOf P T with
  |none=>simp[hz]at e
  |some cells=>
   simp only[hz,aB,bH]at e;obtain⟨rfl,rfl⟩:=e;obtain⟨i,zv,hi,hiz,hzc⟩:=jD hz;obtain⟨h1,h2,h3⟩:=kS (X:=X) (w:=w) (h:=h) hzc;obtain⟨X',w',hrun,rr,g',t⟩:=aZk (P:=P) g T h1 h2 h3;exact⟨X',w',_,_,by simp[Instr.alloc,rU hi hiz,newVar,hrun],.inl rfl,rr,g',t⟩
 |box T y=>
  simp only[ho,aop]at e ⊢;cases hc:kY (aev G env y)with
  |none=>simp[hc]at e
  |some cells=>
   simp only[hc,aB,bH]at e;obtain⟨rfl,rfl⟩:=e;obtain⟨h1,h2,h3⟩:=(ev y).cells hc;obtain⟨X',w',hrun,rr,g',t⟩:=aZk (P:=P) g T h1 h2 h3;exact⟨X',w',_,_,by simp[Instr.box,newVar,hrun],.inl rfl,rr,g',t⟩
 |build T parts=>
  simp only[ho,aop]at e ⊢;cases hpl:jP P T with
  |none=>simp[hpl]at e
  |some pl=>
  cases hz:zeroOf P T with
  |none=>simp[hpl,hz]at e
  |some z=>
  simp only[hpl,hz]at e;obtain⟨i,zv,hi,hiz,hzc⟩:=jD hz;obtain⟨h1,h2,h3⟩:=kS (X:=X) (w:=w) (h:=h) hzc;cases hf:nU (fun i=>pl[i]?) z (parts.toList.map fun(i,x)=>(i,aev G env x))with
  |none=>simp[hf]at e
  |some cells=>
  simp only[hf,aB,bH]at e;obtain⟨rfl,rfl⟩:=e;obtain⟨p1,p2⟩:=H6 g r parts;obtain⟨vout,f1,f2,f3,f4,f5⟩:=P3 (fun i=>pl[i]?) _ _ z zv.cells cells p1 p2 h1.symm h2 h3 hf;refine .pure (v:=.agg vout) g ?_ (.agg f2 f3 f4)
  have hb : P.built T (parts.map fun(i,x)=>(i,a.eval x)).toList=some vout:=by
   unfold jP at hpl;unfold Program.built;cases hu:P.underlying T with
   |none=>simp[hu]at hpl
   |some d=>
    cases d with
    |struct fs=>
     simp only[hu]at hpl;simp only[hi,hiz,hpl];rw[← f1];congr 1;funext k;simp
    |array n e=>
     simp only[hu]at hpl;cases hie:P.info? e with
     |none=>simp[hie]at hpl
     |some ie=>
      simp only[hie,dO,aB]at hpl;subst hpl;simp only[hi,hiz,hie];refine aFq (fun k p hp=>?_) _ _ _ f1;simp only[eV,dG]at hp;obtain⟨q,hq,rfl⟩:=hp;obtain⟨hlt,hq⟩:=gO.1 hq;rw[List.getElem_range]at hq;rw[hq]
    |_=>simp[hu]at hpl
  simp only[cD,run_build w T _ vout hb,bO,eE]
 |load T y=>
  simp only[ho,aop]at e ⊢;cases hl:zX P T h (aev G env y)with
  |none=>simp[hl]at e
  |some v=>
   simp only[hl,aB,bH]at e;obtain⟨rfl,rfl⟩:=e;obtain⟨u,hu,ru⟩:=aWf g (ev y) hl;exact .pure g (by simp[hu]) ru
 |store T y z=>
  simp only[ho,aop]at e ⊢;cases hs:uV P h T (aev G env y) (aev G env z)with
  |none=>simp[hs]at e
  |some h''=>
   simp only[hs,aB,bH]at e;obtain⟨rfl,rfl⟩:=e;obtain⟨w',hrun,g',t⟩:=aLb g (ev y) (ev z) hs;exact⟨X,w',_,_,by simp[hrun],.inr ⟨rfl,rfl⟩,.u _,g',t⟩
 |nilCheck y=>
  simp only[ho,aop]at e ⊢;have ry:=ev y;generalize a.eval y=vy at ry ⊢;cases hy:aev G env y with
  |ptr id off=>
   rw[hy]at e ry;cases ry with
   | @ptr _ _ ob _ _ hid hnd hι=>
     have e':x=.ptr id off∧h'=h:=by simp only[hid]at e;split at e<;>simp at e<;>exact⟨e.1.symm,e.2.symm⟩
     obtain⟨rfl,rfl⟩:=e';exact .pure g (by rfl) (.ptr hid hnd hι)
   |dead hr hd _=>simp[AV.refs]at hr;subst hr;simp[hd]at e
  |box cells off=>
   rw[hy]at e ry;simp only[aB,bH]at e;obtain⟨rfl,rfl⟩:=e;cases ry with
   |box h1 h2 h3 h4 h5=>exact .pure g (by rfl) (.box h1 h2 h3 h4 h5)
   |dead hr _ _=>simp[AV.refs]at hr
  |fn f b c=>
   rw[hy]at e ry;simp only[aB,bH]at e;obtain⟨rfl,rfl⟩:=e;cases ry with
   |fn h1 h2 h3 h4=>exact .pure g (by rfl) (.fn h1 h2 h3 h4)
   |dead hr _ _=>simp[AV.refs]at hr
  |_=>rw[hy]at e;simp at e
 |binOp op T y z t=>
  simp only[ho,aop]at e ⊢;cases hb:bIf P op T (aev G env y) (aev G env z)with
  |none=>simp[hb]at e
  |some v=>
   simp only[hb,aB,bH]at e;obtain⟨rfl,rfl⟩:=e;obtain⟨u,hu,ru⟩:=bRz y z (ev y) (ev z) hb;refine .pure g ?_ ru;rw[cD,hu];rfl
 |unOp op T y=>
  simp only[ho,aop]at e ⊢;cases hb:aUn op (aev G env y)with
  |none=>simp[hb]at e
  |some v=>
   simp only[hb,aB,bH]at e;obtain⟨rfl,rfl⟩:=e;obtain⟨u,hu,ru⟩:=cAz (P:=P) (ev y) hb;exact .pure g (by simp[hu]) ru
 |convert s d y=>
  simp only[ho,aop]at e ⊢;cases hb:aKh P s d (aev G env y)with
  |none=>simp[hb]at e
  |some v=>
   simp only[hb,aB,bH]at e;obtain⟨rfl,rfl⟩:=e;obtain⟨u,hu,ru⟩:=bIb (P:=P) (ev y) hb;exact .pure g (by simp[hu]) ru
 |makeFunc fn first capt=>
  cases fn with
  |func f=>
   simp only[ho,aop,aB,bH]at e ⊢;obtain⟨rfl,rfl⟩:=e;obtain⟨a1,a2⟩:=aVy g r first
   obtain⟨b1,b2⟩:=aVy g r capt;exact .pure g (by simp[Instr.makeFunc]) (.fn a1 b1 a2 b2)
  |_=>simp[ho,aop]at e
 |makeMap T res=>
  cases res with
  |none=>
   simp only[ho,aop,aB,bH]at e ⊢;obtain⟨rfl,rfl⟩:=e;have hp:=iD.alloc w (.map #[] 0);have hnF:¬X.F w.heap.size:=fun f=>by have:=g.fbnd _ f;omega
   obtain⟨g',t⟩:=qP g hp (.map false [] []) (.map (Ctx.upd_same _ _ _) hp.at (fun f=>by cases f) (fun _=>hnF) rfl rfl (by simp) (by simp) (by simp) (by simp));exact⟨_,_,_,_,by simp[Instr.makeMap],.inl rfl,.mp (fz:=false) (ks:=[]) (vs:=[]) (by simp) (Ctx.upd_same _ _ _),g',t⟩
  |some _=>simp[ho,aop]at e
 |slice T y l hi m=>
  simp only[ho,aop]at e ⊢;cases hs:sY P h T (aev G env y) (l.map (aev G env)) (hi.map (aev G env)) (m.map (aev G env))with
  |none=>simp[hs]at e
  |some v=>
   simp only[hs,aB,bH]at e;obtain⟨rfl,rfl⟩:=e;obtain⟨u,hu,ru⟩:=bCn g (ev y) (aVg g r l) (aVg g r hi) (aVg g r m) hs;exact .pure g (by simp[hu]) ru
 |field T y f=>
  simp only[ho,aop]at e ⊢;have ry:=ev y;generalize a.eval y=vy at ry ⊢;cases hy:aev G env y with
  |agg cs=>
   rw[hy]at e ry;cases hf:lV P T f with
   |none=>simp[hf]at e
   |some q=>
   obtain⟨fo,ft⟩:=q;simp only[hf]at e;cases hp:apart P ft cs fo with
   |none=>simp[hp]at e
   |some v=>
   simp only[hp,aB,bH]at e;obtain⟨rfl,rfl⟩:=e;obtain⟨fs,fd,hu,hfd,rfl,rfl⟩:=Y7 hf;cases ry with
   |dead hr _ _=>simp[AV.refs]at hr
   |agg hl h1 hr=>
    obtain⟨u,hu',ru⟩:=aLi (X:=X) (h:=h) (w:=w) hp hl h1 hr;refine .pure g ?_ ru;simp[Instr.field,run_underlying hu,hfd,asAgg,hu']
  |_=>rw[hy]at e;simp at e
 |indexAddr T y i=>
  simp only[ho,aop]at e ⊢;cases hs:kE P h T (aev G env y) (aev G env i)with
  |none=>simp[hs]at e
  |some v=>
   simp only[hs,aB,bH]at e;obtain⟨rfl,rfl⟩:=e;obtain⟨u,hu,ru⟩:=aFg g (ev y) (ev i) hs;exact .pure g (by simp[hu]) ru
 |index T y i=>
  simp only[ho,aop]at e ⊢;cases hs:R9 P T (aev G env y) (aev G env i)with
  |none=>simp[hs]at e
  |some v=>
   simp only[hs,aB,bH]at e;obtain⟨rfl,rfl⟩:=e;obtain⟨u,hu,ru⟩:=bFh g (ev y) (ev i) hs;exact .pure g (by simp[hu]) ru
 |lookup T y k ok=>
  simp only[ho,aop]at e ⊢;cases hs:pO P h T (aev G env y) (aev G env k) ok with
  |none=>simp[hs]at e
  |some v=>
   simp only[hs,aB,bH]at e;obtain⟨rfl,rfl⟩:=e;obtain⟨u,hu,ru⟩:=aWe g (ev y) (ev k) hs;exact .pure g (by simp[hu]) ru
 |mapUpdate T y k z=>
  simp only[ho,aop]at e ⊢;cases hs:gP P h T (aev G env y) (aev G env k) (aev G env z)with
  |none=>simp[hs]at e
  |some h''=>
   simp only[hs,aB,bH]at e;obtain⟨rfl,rfl⟩:=e;obtain⟨w',hrun,g',t⟩:=uL g (ev y) (ev k) (ev z) hs;exact⟨X,w',_,_,by simp[hrun],.inr ⟨rfl,rfl⟩,.u _,g',t⟩
 |extract y i=>
  simp only[ho,aop]at e ⊢;have ry:=ev y;generalize a.eval y=vy at ry ⊢;cases hy:aev G env y with
  |tup vs=>
   rw[hy]at e ry;cases hi:vs[i]? with
   |none=>simp[hi]at e
   |some v=>
   simp only[hi,aB,bH]at e;obtain⟨rfl,rfl⟩:=e;cases ry with
   |dead hr _ _=>simp[AV.refs]at hr
   | @tup _ us hl hr=>
     have hlt:i<us.size:=hl▸bP hi;refine .pure (v:=us[i]) g ?_ (hr i _ _ hi (by simp[hlt]));simp[Instr.extract,hlt]
  |_=>rw[hy]at e;simp at e
 |buildSlice T len parts=>
  simp only[ho,aop]at e ⊢;cases he:fV P T with
  |none=>simp[he]at e
  |some el=>
  have hu:=pK he;cases hz:zeroOf P el with
  |none=>simp[he,hz]at e
  |some z=>
  simp only[he,hz]at e;split at e;case isFalse=>cases e
  rename_i hc;obtain⟨hsz,hz0,hbig⟩:=hc;obtain⟨i,zv,hi,hiz,hzc⟩:=jD hz;split at e;case isTrue h00=>
   obtain⟨rfl,hp0⟩:=h00;cases e;have hp0:parts = #[]:=by cases parts;simpa using hp0
   subst hp0;obtain⟨g',t⟩:=bFq g (iD.alloc w (.cells #[] el (0,0))).grew;refine⟨X,w.alloc (.cells #[] el (0,0)),_,_,?_,.inl rfl,.e0 (some ⟨w.heap.size,0,Option.none⟩),g',t⟩;have hnb:¬(0*z.length>2^24):=by omega
   have hf0:Instr.fill (fun i=>some (i*z.length,z.length)) (Array.map (fun x=>(#[]:Array Value)[x % (#[]:Array Value).size]!) (Array.range (0*z.length))) (Array.map (fun x:Nat×Operand=>(x.1,a.eval x.2)) #[]).toList=some #[]:=by
    simp[Instr.fill]
   have hr0:(newRow el #[]).run P w=.ok ⟨w.heap.size,0,Option.none⟩ (w.alloc (.cells #[] el (0,0))):=rfl;simp only[Instr.buildSlice,cD,run_underlying hu,bO,gL hsz,if_neg hnb,eE,if_pos (nV _),hf0,hr0]
  obtain⟨z1,z2,z3⟩:=vH (X:=X) (w:=w) (h:=h) hzc len;cases hf:nU (fun i=>some (i*z.length,z.length)) (List.replicate len z).flatten (parts.toList.map fun(i,x)=>(i,aev G env x))with
  |none=>simp[hf]at e
  |some cells=>
  simp only[hf,aB,bH]at e;obtain⟨rfl,rfl⟩:=e;obtain⟨p1,p2⟩:=H6 g r parts;obtain⟨vout,f1,f2,f3,f4,f5⟩:=P3 (fun i=>some (i*z.length,z.length)) _ _ _ _ cells p1 p2 z1 z2 z3 hf;have hvs:vout.size=len*z.length:=by rw[f5];simp
  obtain⟨X',w',hrun,rr,g',t⟩:=bAf (P:=P) g el (sz:=z.length) (n:=len) (cap:=len) (by omega) f3 f4 (by omega) (bK _) (by omega);refine⟨X',w',_,_,?_,.inl rfl,rr,g',t⟩;have hnb:¬(len*z.length>2^24):=by omega
  have f1':Instr.fill (fun i=>some (i*z.length,z.length)) ((Array.range (len*z.length)).map (zv.cells[· % zv.cells.size]!)) (parts.map fun x=>(x.1,a.eval x.2)).toList=some vout:=f1;by_cases h0:len*z.length=0
  ·have f1'':Instr.fill (fun i=>some (i*z.length,z.length)) ((Array.range (len*z.length)).map ((#[]:Array Value)[· % (#[]:Array Value).size]!)) (parts.map fun x=>(x.1,a.eval x.2)).toList=some vout:=by
    rw[← f1'];congr 1;simp[h0]
   simp only[Instr.buildSlice,cD,run_underlying hu,bO,gL hsz,if_neg hnb,eE,if_pos h0,f1'',hrun]
  ·simp only[Instr.buildSlice,cD,run_underlying hu,bO,gL hsz,if_neg hnb,eE,if_neg h0,rU hi hiz,f1',hrun]
 |makeSlice T l c=>
  simp only[ho,aop]at e ⊢;unfold nH at e;cases he:fV P T with
  |none=>simp[he]at e
  |some el=>
  have hu:=pK he;have rl:=ev l;have rc:=ev c;cases hl:aev G env l with
  |i kl nl=>
   cases hc:aev G env c with
   |i kc nc=>
    rw[hl]at rl;rw[hc]at rc;have el1:=sW rl;have ec1:=sW rc;cases hz:zeroOf P el with
    |none=>simp[he,hl,hc,hz]at e
    |some z=>
    cases hby:aCo P el with
    |none=>simp[he,hl,hc,hz,hby]at e
    |some by_=>
    simp only[he,hl,hc,hz,hby]at e;split at e;case isFalse=>cases e
    rename_i hcond;obtain⟨h0,hlc,hbytes,hbig,hsz,hz0⟩:=hcond;simp only[aB,bH]at e;obtain⟨rfl,rfl⟩:=e;obtain⟨i,zv,hi,hiz,hzc⟩:=jD hz;have hiby:i.bytes=by_:=zS hi hby
    obtain⟨z1,z2,z3⟩:=vH (X:=X) (w:=w) (h:=h) hzc nc.toNat;have hln:(List.replicate nl.toNat z).flatten.length=nl.toNat*z.length:=lT _ _;have hmul:=cN z.length (show nl.toNat≤nc.toNat by omega);have hcs:((Array.range (nc.toNat*z.length)).map (zv.cells[· % zv.cells.size]!)).size=nc.toNat*z.length:=by simp
    obtain⟨X',w',hrun,rr,g',t⟩:=bAf (P:=P) g el (cells:=(List.replicate nl.toNat z).flatten) (cs:=(Array.range (nc.toNat*z.length)).map (zv.cells[· % zv.cells.size]!)) (sz:=z.length) (n:=nl.toNat) (cap:=nc.toNat) (by omega) z2 (by
     intro j y u hy hu;have hj:=bP hy;rw[hln]at hj;refine z3 j y u ?_ hu;rw[sE _ _ _ (by omega)];rw[sE _ _ _ hj]at hy;exact hy) hln (by omega) (by omega)
    refine⟨X',w',_,_,?_,.inl rfl,rr,g',t⟩;have w1:IntKind.i64.wrap nl=nl:=IntWalk.i64_in _ (by omega);have w2:IntKind.i64.wrap nc=nc:=IntWalk.i64_in _ (by omega);have hb1:¬((by_:Int)*nc>281474976710656):=by rw[Int.mul_comm];omega
    have hcnd:((decide (nc<0)||decide ((by_:Int)*nc>2^48))||decide (nl<0)||decide (nl>nc))=false:=by
     simp;omega
    by_cases hz00:nc.toNat*z.length=0
    ·have hrun':(newRow el ((Array.range (nc.toNat*z.length)).map ((#[]:Array Value)[· % (#[]:Array Value).size]!))).run P w=.ok ⟨w.heap.size,0,Option.none⟩ w':=by
      rw[← hrun];congr 2;simp[hz00]
     simp only[Instr.makeSlice,cD,run_underlying hu,bO,el1,ec1,asInt,asIntOf,eE,typeInfo,run_program,hi,hiby,w1,w2,hcnd,aE,if_false,run_askRoom,gL hsz,if_pos hz00,hrun']
    ·simp only[Instr.makeSlice,cD,run_underlying hu,bO,el1,ec1,asInt,asIntOf,eE,typeInfo,run_program,hi,hiby,w1,w2,hcnd,aE,if_false,run_askRoom,gL hsz,if_neg hz00,rU hi hiz,hrun]
   |_=>simp[he,hl,hc]at e
  |_=>simp[he,hl]at e
 |fieldAddr S y f=>
  simp only[ho,aop]at e ⊢;have ry:=ev y;generalize a.eval y=vy at ry ⊢;cases hf:lV P S f with
  |none=>simp[hf]at e
  |some q=>
  obtain⟨fo,ft⟩:=q;simp only[hf]at e;obtain⟨fs,fd,hu,hfd,rfl,rfl⟩:=Y7 hf;cases hs:lP P fd.type with
  |none=>simp[hs]at e
  |some sz=>
  cases sz with
  |zero=>simp[hs]at e
  |succ sz=>
  simp only[hs]at e;have hfp:∀b o:Nat,(fieldPlace ⟨b,o,Option.none⟩ fd).run P w=.ok ⟨b,o+fd.offset,Option.none⟩ w:=by
   intro b o;simp[fieldPlace,gL hs,add_lit]
  cases hy:aev G env y with
  |ptr id off=>
   rw[hy]at e ry;cases ry with
   | @ptr _ _ ob b o hid hnd hι=>
     have e':x=.ptr id (off+fd.offset)∧h'=h:=by simp only[hid]at e;split at e<;>simp at e<;>exact⟨e.1.symm,e.2.symm⟩
     obtain⟨rfl,rfl⟩:=e';refine .pure g ?_ (.ptr hid hnd hι);simp[Instr.fieldAt,run_underlying hu,hfd,Instr.sureAddr,hfp,eK]
   |dead hr hd _=>simp[AV.refs]at hr;subst hr;simp[hd]at e
  |box cells off=>
   rw[hy]at e ry;simp only[aB,bH]at e;obtain⟨rfl,rfl⟩:=e;cases ry with
   |box h1 h2 h3 h4 h5=>
    refine .pure g ?_ (.box h1 h2 h3 h4 h5);simp[Instr.fieldAt,run_underlying hu,hfd,Instr.sureAddr,hfp,eK]
   |dead hr _ _=>simp[AV.refs]at hr
  |_=>rw[hy]at e;simp at e
 |call c=>
  simp only[ho,aop]at e ⊢;cases hcal:c.callee with
  |builtin b=>
   simp only[hcal]at e;unfold jZ at e;split at e
   ·rename_i T y hty harg;cases hl:bAu P h T y with
    |none=>simp[hl]at e
    |some n=>
    simp only[hl,aB,bH]at e;obtain⟨rfl,rfl⟩:=e;obtain⟨o1,ho1⟩:∃o1,c.args = #[o1]:=by
     have:c.args.toList.length=1:=by have:=congrArg List.length harg;simpa using this
     match hc:c.args with
     |⟨[o1]⟩=>exact⟨o1,rfl⟩
     |⟨[]⟩=>simp[hc]at this
     |⟨_::_::_⟩=>simp[hc]at this
    have htys:c.argTypes = #[T]:=by rw[← jC (xs:=c.argTypes),hty]
    simp only[ho1,aK,aZ,iK,and_true]at harg;subst harg;have:=bVp (ty:=o.type) g (ev o1) hl;refine .pure (v:=.int .i64 n) g ?_ (.i _ _);simp[resolve,hcal,ho1,htys,invoke,builtin,this]
   ·rename_i T U y z hty harg;split at e;case isFalse=>cases e
    rename_i hTU;subst hTU;obtain⟨o1,o2,ho1⟩:∃o1 o2,c.args = #[o1,o2]:=by
     have:c.args.toList.length=2:=by have:=congrArg List.length harg;simpa using this
     match hc:c.args with
     |⟨[o1,o2]⟩=>exact⟨o1,o2,rfl⟩
     |⟨[]⟩=>simp[hc]at this
     |⟨[_]⟩=>simp[hc]at this
     |⟨_::_::_::_⟩=>simp[hc]at this
    have htys:c.argTypes = #[T,T]:=by rw[← jC (xs:=c.argTypes),hty]
    simp only[ho1,aK,aZ,iK,and_true]at harg;obtain⟨rfl,rfl⟩:=harg;obtain⟨X',w',y',hrun,rr,g',t⟩:=zV (ty:=o.type) g (ev o1) (ev o2) e;refine⟨X',w',_,_,?_,.inl rfl,rr,g',t⟩;simp[resolve,hcal,ho1,htys,invoke,builtin,hrun]
   ·rename_i T U id off n tt y hty harg;split at e;case h_2=>cases e
    rename_i el hT;split at e;case h_2=>cases e
    rename_i sz s cells hs hid;split at e;case h_2=>cases e
    rename_i win m hw;split at e;case isFalse=>cases e
    rename_i hc;obtain⟨rfl,hle⟩:=hc;simp only[aB,bH]at e;obtain⟨rfl,rfl⟩:=e;obtain⟨o1,o2,ho1⟩:∃o1 o2,c.args = #[o1,o2]:=by
     have:c.args.toList.length=2:=by have:=congrArg List.length harg;simpa using this
     match hc:c.args with
     |⟨[o1,o2]⟩=>exact⟨o1,o2,rfl⟩
     |⟨[]⟩=>simp[hc]at this
     |⟨[_]⟩=>simp[hc]at this
     |⟨_::_::_::_⟩=>simp[hc]at this
    have htys:c.argTypes = #[T,U]:=by rw[← jC (xs:=c.argTypes),hty]
    simp only[ho1,aK,aZ,iK,and_true]at harg;have r1:=ev o1;have r2:=ev o2;rw[harg.1]at r1;rw[harg.2]at r2;obtain⟨w',hrun,g',t⟩:=bQx (P:=P) (T:=T) (U:=U) (ty:=o.type) g r1 r2 hT hs hid hw hle;refine⟨X,w',_,_,?_,.inl rfl,.i _ _,g',t⟩;simp[resolve,hcal,ho1,htys,invoke,builtin,hrun]
   ·rename_i T hty harg;split at e;case h_2=>cases e
    rename_i el hT;simp only[aB,bH]at e;obtain⟨rfl,rfl⟩:=e;obtain⟨o1,ho1⟩:∃o1,c.args = #[o1]:=by
     have:c.args.toList.length=1:=by have:=congrArg List.length harg;simpa using this
     match hc:c.args with
     |⟨[o1]⟩=>exact⟨o1,rfl⟩
     |⟨[]⟩=>simp[hc]at this
     |⟨_::_::_⟩=>simp[hc]at this
    have htys:c.argTypes = #[T]:=by rw[← jC (xs:=c.argTypes),hty]
    simp only[ho1,aK,aZ,iK,and_true]at harg;have r1:=ev o1;rw[harg]at r1;obtain⟨ad,had⟩:∃ad,a.eval o1=.slice ad 0 0:=by
     generalize a.eval o1=v1 at r1;cases r1 with
     |e0 ad=>exact⟨ad,rfl⟩
     |dead hr _ _=>simp[AV.refs]at hr
    refine .pure (v:=.int .i64 0) g ?_ (.i _ _);simp[resolve,hcal,ho1,htys,invoke,builtin,Builtin.cap_,run_underlying hT,had,goInt]
   ·rename_i k x k' y harg;split at e;case isFalse=>cases e
    rename_i hk;subst hk;simp only[aB,bH]at e;obtain⟨rfl,rfl⟩:=e;obtain⟨o1,o2,ho1⟩:∃o1 o2,c.args = #[o1,o2]:=by
     have:c.args.toList.length=2:=by have:=congrArg List.length harg;simpa using this
     match hc:c.args with
     |⟨[o1,o2]⟩=>exact⟨o1,o2,rfl⟩
     |⟨[]⟩=>simp[hc]at this
     |⟨[_]⟩=>simp[hc]at this
     |⟨_::_::_::_⟩=>simp[hc]at this
    simp only[ho1,aK,aZ,iK,and_true]at harg;have r1:=ev o1;have r2:=ev o2;rw[harg.1]at r1;rw[harg.2]at r2;have e1:a.eval o1=.int k x:=by
     generalize a.eval o1=v1 at r1;cases r1 with
     |i _ _=>rfl
     |dead hr _ _=>simp[AV.refs]at hr
    have e2:a.eval o2=.int k y:=by
     generalize a.eval o2=v1 at r2;cases r2 with
     |i _ _=>rfl
     |dead hr _ _=>simp[AV.refs]at hr
    refine .pure (v:=.int k (if y>x then y else x)) g ?_ (.i _ _);simp[resolve,hcal,ho1,invoke,builtin,Builtin.max_,Builtin.max2,e1,e2]
   ·rename_i k x k' y harg;split at e;case isFalse=>cases e
    rename_i hk;subst hk;simp only[aB,bH]at e;obtain⟨rfl,rfl⟩:=e;obtain⟨o1,o2,ho1⟩:∃o1 o2,c.args = #[o1,o2]:=by
     have:c.args.toList.length=2:=by have:=congrArg List.length harg;simpa using this
     match hc:c.args with
     |⟨[o1,o2]⟩=>exact⟨o1,o2,rfl⟩
     |⟨[]⟩=>simp[hc]at this
     |⟨[_]⟩=>simp[hc]at this
     |⟨_::_::_::_⟩=>simp[hc]at this
    simp only[ho1,aK,aZ,iK,and_true]at harg;have r1:=ev o1;have r2:=ev o2;rw[harg.1]at r1;rw[harg.2]at r2;have e1:a.eval o1=.int k x:=by
     generalize a.eval o1=v1 at r1;cases r1 with
     |i _ _=>rfl
     |dead hr _ _=>simp[AV.refs]at hr
    have e2:a.eval o2=.int k y:=by
     generalize a.eval o2=v1 at r2;cases r2 with
     |i _ _=>rfl
     |dead hr _ _=>simp[AV.refs]at hr
    refine .pure (v:=.int k (if y<x then y else x)) g ?_ (.i _ _);simp[resolve,hcal,ho1,invoke,builtin,Builtin.min_,Builtin.min2,e1,e2]
   ·rename_i x y z u harg;simp only[aB,bH]at e;obtain⟨rfl,rfl⟩:=e;obtain⟨o1,o2,o3,o4,ho1⟩:∃o1 o2 o3 o4,c.args = #[o1,o2,o3,o4]:=by
     have:c.args.toList.length=4:=by have:=congrArg List.length harg;simpa using this
     match hc:c.args with
     |⟨[o1,o2,o3,o4]⟩=>exact⟨o1,o2,o3,o4,rfl⟩
     |⟨[]⟩=>simp[hc]at this
     |⟨[_]⟩=>simp[hc]at this
     |⟨[_,_]⟩=>simp[hc]at this
     |⟨[_,_,_]⟩=>simp[hc]at this
     |⟨_::_::_::_::_::_⟩=>simp[hc]at this
    simp only[ho1,aK,aZ,iK,and_true]at harg;have one:∀(o:Operand) (n:Int),aev G env o=.i .i64 n→a.eval o=.int .i64 n:=fun o n h=>by
     have r1:=ev o;rw[h]at r1;generalize a.eval o=v1 at r1;cases r1 with
     |i _ _=>rfl
     |dead hr _ _=>simp[AV.refs]at hr
    refine .pure (v:=.int .i64 (if u>(if z>(if y>x then y else x)then z else(if y>x then y else x))then u else(if z>(if y>x then y else x)then z else(if y>x then y else x)))) g ?_ (.i _ _);simp[resolve,hcal,ho1,invoke,builtin,Builtin.max_,Builtin.max2,one _ _ harg.1,one _ _ harg.2.1,one _ _ harg.2.2.1,one _ _ harg.2.2.2]
   ·cases e
  |_=>simp[hcal]at e
 |makeInterface T y=>
  simp only[ho,aop]at e ⊢;cases hu:P.underlying T with
  |none=>simp[hu]at e
  |some d=>
   have hd:∃v,toV (aev G env y)=some v∧(∀ms,d ≠ .interface ms)∧x=.p (.iface T v)∧h'=h:=by
    cases hv:toV (aev G env y)with
    |none=>cases d<;>simp[hu,hv]at e
    |some v=>
     refine⟨v,rfl,?_⟩;cases d<;>simp[hu,hv]at e<;>exact⟨(fun ms hm=>by cases hm),e.1.symm,e.2.symm⟩
   obtain⟨v,hv,hn,rfl,rfl⟩:=hd;have hx:=bTu (ev y) hv;refine .pure (v:=.iface T v) g ?_ (.p _ rfl);rw[hx];unfold Instr.makeInterface;cases d<;>first|exact absurd rfl (hn _)|simp[run_underlying hu]
 |_=>simp[ho,aop]at e
end
mutual
def pers:AV→Bool
 | .u| .b _| .i _ _| .s _| .p _=>true
 | .sl cells _=>persL cells
 | .box cells _=>persL cells
 | .mapv ks vs=>persL ks&&persL vs
 | .fn _ first capt=>persL first&&persL capt
 | .agg cells=>persL cells
 | .tup vs=>persL vs
 | .e0| .own .. | .hs .. | .ptr .. | .mp _=>false
def persL:List AV→Bool
 | []=>true
 |a::l=>pers a&&persL l
end
mutual
def flat:AV→Bool
 | .u| .b _| .i _ _| .s _| .p _| .e0=>true
 | .sl cells n=>cells.isEmpty&&n == 0
 | .own _ cells _=>flatL cells
 | .fn _ first capt=>flatL first&&flatL capt
 | .agg cells=>flatL cells
 | .tup vs=>flatL vs
 |_=>false
def flatL:List AV→Bool
 | []=>true
 |a::l=>flat a&&flatL l
end
theorem iN:∀{l:List AV},persL l=true→∀(j:Nat) (a:AV),l[j]? = some a→pers a=true
 | [],_,_,_,h=>by simp at h
 |x::l,e,0,a,h=>by simp[persL]at e;simp at h;exact h▸e.1
 |x::l,e,j+1,a,h=>by simp[persL]at e;exact iN e.2 j a (by simpa using h)
theorem rE:∀{l:List AV},flatL l=true→∀(j:Nat) (a:AV),l[j]? = some a→flat a=true
 | [],_,_,_,h=>by simp at h
 |x::l,e,0,a,h=>by simp[flatL]at e;simp at h;exact h▸e.1
 |x::l,e,j+1,a,h=>by simp[flatL]at e;exact rE e.2 j a (by simpa using h)
theorem RV.pers{X X':Ctx}{w w':World}{h h':List AObj}{a:AV}{v:Value}(r:RV X w h a v)(hp:pers a=true)(hF:∀b,X.F b→X'.F b)(hk:∀b,X.F b→w'.heap[b]? = w.heap[b]?):RV X' w' h' a v:=by
 induction r with
 |u v=>exact .u v
 |b x=>exact .b x
 |i k n=>exact .i k n
 |s l=>exact .s l
 |p v hv=>exact .p v hv
 |sl0 a cap=>exact .sl0 a cap
 |sl h1 h2 h3 h4 h5 _ ih=>simp only[Vo.pers]at hp;exact .sl (hF _ h1) ((hk _ h1).trans h2) h3 h4 h5 (fun j a v ha hv=>ih j a v ha hv (iN hp j a ha))
 |box h1 h2 h3 h5 _ ih=>simp only[Vo.pers]at hp;exact .box (hF _ h1) ((hk _ h1).trans h2) h3 h5 (fun j a v ha hv=>ih j a v ha hv (iN hp j a ha))
 |mapv h1 h2 h3 h4 _ _ h5 h6 ih1 ih2=>
  simp only[Vo.pers,aA]at hp;exact .mapv (hF _ h1) ((hk _ h1).trans h2) h3 h4 (fun j a v ha hv=>ih1 j a v ha hv (iN hp.1 j a ha)) (fun j a v ha hv=>ih2 j a v ha hv (iN hp.2 j a ha)) h5 h6
 |fn h1 h2 _ _ ih1 ih2=>
  simp only[Vo.pers,aA]at hp;exact .fn h1 h2 (fun j a v ha hv=>ih1 j a v ha hv (iN hp.1 j a ha)) (fun j a v ha hv=>ih2 j a v ha hv (iN hp.2 j a ha))
 |agg h1 h2 _ ih=>simp only[Vo.pers]at hp;exact .agg h1 h2 (fun j a v ha hv=>ih j a v ha hv (iN hp j a ha))
 |tup h1 _ ih=>simp only[Vo.pers]at hp;exact .tup h1 (fun j a v ha hv=>ih j a v ha hv (iN hp j a ha))
 |dead hr _ _=>rename_i a id v _ _;cases a<;>simp[AV.refs]at hr<;>simp[Vo.pers]at hp
 |_=>simp[Vo.pers]at hp
theorem GRel.pers{X X':Ctx}{w w':World}{h h':List AObj}{k:Nat}{a:AV}(r:GRel X w h k a)(hp:Vo.pers a=true)(hF:∀b,X.F b→X'.F b)(hk:∀b,X.F b→w'.heap[b]? = w.heap[b]?):GRel X' w' h' k a:=
 ⟨r.1.pers hp hF hk,fun cells off ha=>have ⟨h1,cs,T,fr,h2,h3⟩:=r.2 cells off ha;⟨hF _ h1,cs,T,fr,(hk _ h1).trans h2,h3⟩⟩
theorem RV.flat{X X':Ctx}{w w':World}{h h':List AObj}{a:AV}{v:Value}(r:RV X w h a v)(hp:flat a=true):RV X' w' h' a v:=by
 induction r with
 |u v=>exact .u v
 |b x=>exact .b x
 |i k n=>exact .i k n
 |s l=>exact .s l
 |p v hv=>exact .p v hv
 |e0 a=>exact .e0 a
 |sl0 a cap=>exact .sl0 a cap
 |sl h1 h2 h3 h4 h5 _ ih=>
  simp only[Vo.flat,aA,List.isEmpty_iff,beq_iff_eq]at hp;obtain⟨rfl,rfl⟩:=hp;exact .sl0 _ _
 |fn h1 h2 _ _ ih1 ih2=>
  simp only[Vo.flat,aA]at hp;exact .fn h1 h2 (fun j a v ha hv=>ih1 j a v ha hv (rE hp.1 j a ha)) (fun j a v ha hv=>ih2 j a v ha hv (rE hp.2 j a ha))
 |agg h1 h2 _ ih=>simp only[Vo.flat]at hp;exact .agg h1 h2 (fun j a v ha hv=>ih j a v ha hv (rE hp j a ha))
 |tup h1 _ ih=>simp only[Vo.flat]at hp;exact .tup h1 (fun j a v ha hv=>ih j a v ha hv (rE hp j a ha))
 |dead hr _ _=>rename_i a id v _ _;cases a<;>simp[AV.refs]at hr<;>simp[Vo.flat]at hp
 |_=>simp[Vo.flat]at hp
def gZ:Nat→List AObj→AV→AV
 |0,h,a=>if pers a then a else .u
 |k + 1,h,a=>if pers a then a else
  let L:=fun l=>if persL l then l else l.map (gZ k h);match a with
  | .e0=>.sl [] 0
  | .hs id off n _=>match h[id]? with
    |some (.arr _ sz cells)=>if off+n*sz≤cells.length then .sl (L ((cells.drop off).take (n*sz))) n else .u
    |_=>.u
  | .ptr id off=>match h[id]? with
    |some (.box _ cells)=>.box (L cells) off
    |some (.arr _ _ cells)=>.box (L cells) off
    |_=>.u
  | .mp id=>match h[id]? with
    |some (.map _ ks vs)=>.mapv (L ks) (L vs)
    |_=>.u
  | .fn f a b=>.fn f (L a) (L b)
  | .agg cs=>.agg (L cs)
  | .tup vs=>.tup (L vs)
  |_=>.u
def eH:Nat→List AObj→AV→List Nat
 |0,h,a=>[]
 |k + 1,h,a=>if pers a then []else
  let L:=fun l=>if persL l then []else l.flatMap (eH k h);match a with
  | .hs id off n _=>match h[id]? with
    |some (.arr _ sz cells)=>id::L ((cells.drop off).take (n*sz))
    |_=>[]
  | .ptr id off=>match h[id]? with
    |some (.box _ cells)=>id::L cells
    |some (.arr _ _ cells)=>id::L cells
    |_=>[]
  | .mp id=>match h[id]? with
    |some (.map _ ks vs)=>id::(L ks++L vs)
    |_=>[]
  | .fn f a b=>L a++L b
  | .agg cs=>L cs
  | .tup vs=>L vs
  |_=>[]
def FR(X:Ctx)(ids:List Nat)(b:Nat):Prop:=X.F b∨∃id∈ids,∃o,X.ι id=some (b,o)
theorem FR.mono{X:Ctx}{l l':List Nat}(hl:∀i∈l,i∈l')(b:Nat)(h:FR X l b):FR X l' b:=by
 rcases h with h|⟨id,hi,o,ho⟩
 ·exact .inl h
 ·exact .inr ⟨id,hl _ hi,o,ho⟩
theorem RV.monoF{F F':Nat→Prop}{w:World}{a:AV}{v:Value}(r:RV (.none F) w [] a v)(hF:∀b,F b→F' b):RV (.none F') w [] a v:=
 r.mono ⟨hF,fun _ _=>rfl,fun _ _ h=>h,fun id o ho=>by simp at ho⟩
section
variable {G:Glob} {X:Ctx} {w:World} {h:List AObj}
theorem K7(g:GH G X w h):∀(k:Nat) (a:AV) (v:Value),RV X w h a v→RV (.none (FR X (eH k h a))) w [] (gZ k h a) v
 |0,a,v,r=>by
  simp only[gZ];split
  ·rename_i hp;exact r.pers hp (fun b hb=>.inl hb) (fun _ _=>rfl)
  ·exact .u _
 |k + 1,a,v,r=>by
  simp only[gZ,eH];split
  ·rename_i hp;exact r.pers hp (fun b hb=>.inl hb) (fun _ _=>rfl)
  ·rename_i hp;have L:∀(l:List AV) (get:Nat→Option Value),(∀(j:Nat) (a:AV) (v:Value),l[j]? = some a→get j=some v→RV X w h a v) →
    ((if persL l then l else l.map (gZ k h)).length=l.length)∧∀(ids:List Nat),(∀i∈(if persL l then []else l.flatMap (eH k h)),i∈ids) →
    ∀(j:Nat) (a:AV) (v:Value),(if persL l then l else l.map (gZ k h))[j]? = some a→get j=some v→RV (.none (FR X ids)) w [] a v:=by
    intro l get hl;by_cases hpl:persL l=true
    ·simp only[hpl,if_true,true_and];intro ids _ j a v ha hv;exact(hl j a v ha hv).pers (iN hpl j a ha) (fun b hb=>.inl hb) (fun _ _=>rfl)
    ·simp only[hpl,if_false,aE];refine⟨by simp,?_⟩;intro ids hids j a v ha hv;simp only[eV,dG]at ha;obtain⟨x,hx,rfl⟩:=ha;refine(K7 g k x v (hl j x v hx hv)).monoF (FR.mono ?_);intro i hi;exact hids i (dV.2 ⟨x,eD hx,hi⟩)
   cases r with
   |e0 a=>exact .sl0 _ _
   | @hs id off n t fz sz cells b o cap T N hid hι hsh hn hc hN ht hf=>
     simp only[hid,if_pos hn];have ok:=g.objs _ _ hid;cases ok with
     |absent h0=>rw[h0]at hι;cases hι
     | @arr _ _ _ b' o' cs T' fr h0 h1 h2 h3 h4 h5 h6=>
     rw[h0]at hι;cases hι;obtain⟨L1,L2⟩:=L ((cells.drop off).take (n*sz)) (fun j=>cs[o+off+j]?) (by
      intro j a v ha hv;rw[dY]at ha;split at ha
      ·rw[eL]at ha;exact h6 (off+j) a v ha (by rw[← eK];exact hv)
      ·cases ha)
     refine .sl (.inr ⟨id,by simp,o,h0⟩) h1 (by rw[L1];simp;omega) hc ?_ (L2 _ (fun i hi=>cJ _ hi));intro j v hj hv;rw[L1]at hj;simp at hj;exact h5 (off+j) v (by omega) (by rw[← eK];exact hv)
   | @hs0 id off t fz sz cells a hid hf ho=>
     have hle:off+0≤cells.length:=by omega
     simp only[hid,nV,if_pos hle,bR];simp only[persL,if_true];exact .sl0 _ _
   | @ptr id off ob b o hid hnd hι=>
     simp only[hid];have ok:=g.objs _ _ hid;cases ok with
     |box h0 h1 h2 h3 h4 h5 h6=>
      rw[h0]at hι;cases hι;obtain⟨L1,L2⟩:=L _ _ h6;exact .box (.inr ⟨id,by simp,_,h0⟩) h1 (by rw[L1];exact h4) (by rw[L1];exact h5) (L2 _ (fun i hi=>cJ _ hi))
     |arr h0 h1 h2 h3 h4 h5 h6=>
      rw[h0]at hι;cases hι;obtain⟨L1,L2⟩:=L _ _ h6;exact .box (.inr ⟨id,by simp,_,h0⟩) h1 (by rw[L1];exact h4) (by rw[L1];exact h5) (L2 _ (fun i hi=>cJ _ hi))
     |absent h0=>rw[h0]at hι;cases hι
     |_=>exact .u _
   | @mp id fz ks vs b hid hι=>
     simp only[hid];have ok:=g.objs _ _ hid;cases ok with
     |absent h0=>rw[h0]at hι;cases hι
     | @map _ _ _ b' es clock h0 h1 h2 h3 h4 h5 h6 h7 h8 h9=>
       rw[h0]at hι;simp only[aB,bH,and_true]at hι;subst hι;obtain⟨K1,K2⟩:=L ks (fun j=>(es[j]?).map (·.key)) (by
        intro j a v ha hv;simp only[dG]at hv;obtain⟨e,he,rfl⟩:=hv;exact h6 j a e ha he)
       obtain⟨V1,V2⟩:=L vs (fun j=>(es[j]?).map (·.val)) (by
        intro j a v ha hv;simp only[dG]at hv;obtain⟨e,he,rfl⟩:=hv;exact h7 j a e ha he)
       refine .mapv (.inr ⟨id,by simp,_,h0⟩) h1 (by rw[K1];exact h4) (by rw[V1];exact h5) ?_ ?_ h8 h9
       ·intro j a e ha he;exact K2 _ (fun i hi=>cJ _ (dK _ hi)) j a e.key ha (by simp[he])
       ·intro j a e ha he;exact V2 _ (fun i hi=>cJ _ (eO _ hi)) j a e.val ha (by simp[he])
   | @fn f first capt first' capt' h1 h2 h3 h4=>
     obtain⟨A1,A2⟩:=L first (fun j=>first'[j]?) h3
     obtain⟨B1,B2⟩:=L capt (fun j=>capt'[j]?) h4;exact .fn (by rw[A1];exact h1) (by rw[B1];exact h2) (A2 _ (fun i hi=>dK _ hi)) (B2 _ (fun i hi=>eO _ hi))
   | @agg cells vs h1 h2 h3=>
     obtain⟨A1,A2⟩:=L cells (fun j=>vs[j]?) h3;exact .agg (by rw[A1];exact h1) h2 (A2 _ (fun i hi=>hi))
   | @tup cells vs h1 h3=>
     obtain⟨A1,A2⟩:=L cells (fun j=>vs[j]?) h3;exact .tup (by rw[A1];exact h1) (A2 _ (fun i hi=>hi))
   |dead hr hd _=>cases a<;>simp[AV.refs]at hr<;>subst hr<;>simp only[hd]<;>exact .u _
   |_=>first|(simp[Vo.pers]at hp;done)|exact .u _
end
def iC(P:Program)(f:FuncId):Bool:=
 match P.funcs[f]? with
 |some fn => !(fn.name == "runtime.NumGoroutine")&&fn.body.isSome
 |Option.none=>false
theorem qE{P:Program}{f:FuncId}(h:iC P f=true)(args:Array Value)(w:World):(callFunc f args).run P w=.ok (.enter f args) w:=by
 unfold iC at h;cases hf:P.funcs[f]? with
 |none=>simp[hf]at h
 |some fn=>
  simp only[hf,aA,eF]at h;have hb:fn.body.isNone=false:=by cases hb:fn.body<;>simp[hb]at h ⊢
  simp only[callFunc,cD,run_program,bO,hf,h.1,hb,aE,if_false,eE]
mutual
def RR(F:Nat→Prop)(w:World):AV→Value→List Nat→Prop
 | .own sz cells n,v,bs=>
   (∃b o cs T cap,bs=[b]∧v=.slice (some ⟨b,o,Option.none⟩) n cap∧w.heap[b]? = some (.cells cs T (0,0))∧cells.length=n*sz∧n≤cap∧o+cap*sz≤cs.size ∧
    kF cs∧∀(j:Nat) (a:AV) (v:Value),cells[j]? = some a→cs[o+j]? = some v→RV (.none F) w [] a v) ∨
   (cells=[]∧n=0∧∃a,v=.slice a 0 0)
 | .agg cells,v,bs=>∃vs,v=.agg vs∧kF vs∧RRs F w cells vs.toList bs
 | .tup cells,v,bs=>∃vs,v=.tuple vs∧RRs F w cells vs.toList bs
 |a,v,bs=>bs=[]∧RV (.none F) w [] a v
def RRs(F:Nat→Prop)(w:World):List AV→List Value→List Nat→Prop
 | [],[],bs=>bs=[]
 |a::as,v::vs,bs=>∃b1 b2,bs=b1++b2∧RR F w a v b1∧RRs F w as vs b2
 |_,_,_=>False
end
theorem aKi{F:Nat→Prop}{w:World}:∀(as:List AV) (vs:List Value),as.length=vs.length→(∀(j:Nat) (a:AV) (v:Value),as[j]? = some a→vs[j]? = some v→RR F w a v [])→RRs F w as vs []
 | [],[],_,_=>rfl
 |a::as,v::vs,hl,hr=>⟨[],[],rfl,hr 0 a v rfl rfl,aKi as vs (by simpa using hl) (fun j a' v' ha hv=>hr (j+1) a' v' (by simpa using ha) (by simpa using hv))⟩
 | [],_::_,hl,_=>by simp at hl
 |_::_,[],hl,_=>by simp at hl
theorem RR.val{F:Nat→Prop}{w:World}{a:AV}{v:Value}(r:RV (.none F) w [] a v):RR F w a v []:=by
 induction r with
 | @agg cells vs h1 h2 h3 ih=>exact⟨vs,rfl,h2,aKi _ _ (by simpa using h1) (fun j a v ha hv=>ih j a v ha (by simpa using hv))⟩
 | @tup cells vs h1 h3 ih=>exact⟨vs,rfl,aKi _ _ (by simpa using h1) (fun j a v ha hv=>ih j a v ha (by simpa using hv))⟩
 |u v=>exact⟨rfl,.u v⟩
 |b x=>exact⟨rfl,.b x⟩
 |i k n=>exact⟨rfl,.i k n⟩
 |s l=>exact⟨rfl,.s l⟩
 |p v hv=>exact⟨rfl,.p v hv⟩
 |e0 a=>exact⟨rfl,.e0 a⟩
 |sl0 a c=>exact⟨rfl,.sl0 a c⟩
 |sl h1 h2 h3 h4 h5 h6 _=>exact⟨rfl,.sl h1 h2 h3 h4 h5 h6⟩
 |hs hid=>simp at hid
 |hs0 hid=>simp at hid
 |ptr hid=>simp at hid
 |mp hid=>simp at hid
 |dead _ hid=>simp at hid
 |box h1 h2 h3 h4 h5 _=>exact⟨rfl,.box h1 h2 h3 h4 h5⟩
 |mapv h1 h2 h3 h4 h5 h6 h7 h8 _ _=>exact⟨rfl,.mapv h1 h2 h3 h4 h5 h6 h7 h8⟩
 |fn h1 h2 h3 h4 _ _=>exact⟨rfl,.fn h1 h2 h3 h4⟩
mutual
theorem RR.flat{F F':Nat→Prop}{w:World}:∀(a:AV) (v:Value) (bs:List Nat),RR F w a v bs→flat a=true→RR F' w a v bs
 | .own sz cells n,v,bs,r,hf=>by
   simp only[Vo.flat]at hf;rcases r with⟨b,o,cs,T,cap,h1,h2,h3,h4,h5,h6,h7,h8⟩|h
   ·exact .inl ⟨b,o,cs,T,cap,h1,h2,h3,h4,h5,h6,h7,fun j a v ha hv=>(h8 j a v ha hv).flat (rE hf j a ha)⟩
   ·exact .inr h
 | .agg cells,v,bs,r,hf=>by
   simp only[Vo.flat]at hf;obtain⟨vs,h1,h2,h3⟩:=r;exact⟨vs,h1,h2,RRs.flat cells vs.toList bs h3 hf⟩
 | .tup cells,v,bs,r,hf=>by
   simp only[Vo.flat]at hf;obtain⟨vs,h1,h3⟩:=r;exact⟨vs,h1,RRs.flat cells vs.toList bs h3 hf⟩
 | .u,v,bs,r,hf=>⟨r.1,r.2.flat hf⟩
 | .b _,v,bs,r,hf=>⟨r.1,r.2.flat hf⟩
 | .i _ _,v,bs,r,hf=>⟨r.1,r.2.flat hf⟩
 | .s _,v,bs,r,hf=>⟨r.1,r.2.flat hf⟩
 | .p _,v,bs,r,hf=>⟨r.1,r.2.flat hf⟩
 | .e0,v,bs,r,hf=>⟨r.1,r.2.flat hf⟩
 | .sl _ _,v,bs,r,hf=>⟨r.1,r.2.flat hf⟩
 | .hs _ _ _ _,v,bs,r,hf=>⟨r.1,r.2.flat hf⟩
 | .ptr _ _,v,bs,r,hf=>⟨r.1,r.2.flat hf⟩
 | .box _ _,v,bs,r,hf=>⟨r.1,r.2.flat hf⟩
 | .mp _,v,bs,r,hf=>⟨r.1,r.2.flat hf⟩
 | .mapv _ _,v,bs,r,hf=>⟨r.1,r.2.flat hf⟩
 | .fn _ _ _,v,bs,r,hf=>⟨r.1,r.2.flat hf⟩
theorem RRs.flat{F F':Nat→Prop}{w:World}:∀(as:List AV) (vs:List Value) (bs:List Nat),RRs F w as vs bs→flatL as=true→RRs F' w as vs bs
 | [],[],bs,r,_=>r
 |a::as,v::vs,bs,r,hf=>by
  simp only[flatL,aA]at hf;obtain⟨b1,b2,h1,h2,h3⟩:=r;exact⟨b1,b2,h1,RR.flat a v b1 h2 hf.1,RRs.flat as vs b2 h3 hf.2⟩
 | [],_::_,_,r,_=>r.elim
 |_::_,[],_,r,_=>r.elim
end
mutual
def mat:AV→List AObj→AV×List AObj
 | .own sz cells n,h=>(.hs h.length 0 n false,h++[.arr false sz cells])
 | .agg cells,h=>(.agg (matL cells h).1,(matL cells h).2)
 | .tup cells,h=>(.tup (matL cells h).1,(matL cells h).2)
 |a,h=>(a,h)
def matL:List AV→List AObj→List AV×List AObj
 | [],h=>([],h)
 |a::as,h=>((mat a h).1::(matL as (mat a h).2).1,(matL as (mat a h).2).2)
end
section
variable {G:Glob} {w:World}
structure Mat(G:Glob)(X:Ctx)(w:World)(h:List AObj)(bs:List Nat)(X':Ctx)(h':List AObj):Prop where
 gh:GH G X' w h'
 ext:Ext X w h X' w h'
 F:X'.F=X.F
 ι:∀id b o,X'.ι id=some (b,o)→X.ι id=some (b,o)∨b∈bs
 abs:Abs X h h'
theorem bFr{X:Ctx}{h:List AObj}(g:GH G X w h){b o sz:Nat}{cells:List AV}{cs:Array Value}{T:TypeId}(hb:w.heap[b]? = some (.cells cs T (0,0)))(hF:¬X.F b)(hι:∀id o,X.ι id≠some (b,o))
 (hl:o+cells.length≤cs.size) (h1:kF cs)
 (hr:∀(j:Nat) (a:AV) (v:Value),cells[j]? = some a→cs[o+j]? = some v→RV X w h a v):Mat G X w h [b] (X.upd h.length (some (b,o))) (h++[.arr false sz cells]):=by
 have e:=rG g (J2.refl w) (.arr false sz cells) (some (b,o));refine⟨⟨?_,?_,?_,?_,g.fbnd,fun k a hk=>(g.gl k a hk).mono e⟩,e,rfl,?_,?_⟩
 ·intro id ob' hid;by_cases hlt:id<h.length
  ·rw[aG hlt]at hid;exact(g.objs id ob' hid).mono e (Ctx.upd_other _ _ (by omega)) (fun _ _ _=>rfl) (fun _ _ _ f=>f)
  ·have hll:=bP hid;simp at hll;obtain rfl:id=h.length:=by omega
   simp at hid;subst hid;exact .arr (Ctx.upd_same _ _ _) hb (fun f=>by cases f) (fun _=>⟨hF,rfl⟩) hl (fun j v _ hv=>h1 _ v hv) (fun j a v ha hv=>(hr j a v ha hv).mono e) h1
 ·intro id bo hbo;by_cases hid:id=h.length
  ·subst hid;exact⟨.arr false sz cells,by simp⟩
  ·rw[Ctx.upd_other _ _ hid]at hbo;obtain⟨ob',ho⟩:=g.dom _ _ hbo;exact⟨ob',by rw[aG (bP ho)];exact ho⟩
 ·intro id id' c d d' e1 e2;by_cases h1:id=h.length
  ·by_cases h2:id'=h.length
   ·omega
   ·subst h1;rw[Ctx.upd_same]at e1;rw[Ctx.upd_other _ _ h2]at e2;cases e1;exact absurd e2 (hι _ _)
  ·rw[Ctx.upd_other _ _ h1]at e1;by_cases h2:id'=h.length
   ·subst h2;rw[Ctx.upd_same]at e2;cases e2;exact absurd e1 (hι _ _)
   ·rw[Ctx.upd_other _ _ h2]at e2;exact g.inj _ _ _ _ _ e1 e2
 ·intro id c d e1;by_cases h1:id=h.length
  ·subst h1;rw[Ctx.upd_same]at e1;cases e1;exact lt_of_block hb
  ·rw[Ctx.upd_other _ _ h1]at e1;exact g.bnd _ _ _ e1
 ·intro id c d e1;by_cases h1:id=h.length
  ·subst h1;rw[Ctx.upd_same]at e1;cases e1;exact .inr (by simp)
  ·rw[Ctx.upd_other _ _ h1]at e1;exact .inl e1
 ·intro id z hid _;rw[aG (bP hid)];exact hid
theorem Mat.refl{X:Ctx}{h:List AObj}(g:GH G X w h):Mat G X w h [] X h:=⟨g,.refl _ _ _,rfl,fun _ _ _ h=>.inl h,fun _ _ h _=>h⟩
theorem Mat.trans{X X1 X2:Ctx}{h h1 h2:List AObj}{b1 b2:List Nat}(a:Mat G X w h b1 X1 h1)(b:Mat G X1 w h1 b2 X2 h2):Mat G X w h (b1++b2) X2 h2:=by
 refine⟨b.gh,a.ext.trans b.ext,b.F.trans a.F,?_,Abs.trans a.ext a.abs b.abs⟩;intro id k o hk;rcases b.ι id k o hk with h|h
 ·rcases a.ι id k o h with h|h
  ·exact .inl h
  ·exact .inr (dK _ h)
 ·exact .inr (eO _ h)
theorem RV.lift{F:Nat→Prop}{X:Ctx}{h:List AObj}{a:AV}{v:Value}(r:RV (.none F) w [] a v)(hF:∀b,F b→X.F b):RV X w h a v:=
 r.mono ⟨hF,fun _ _=>rfl,fun _ _ h=>h,fun id o ho=>by simp at ho⟩
mutual
theorem bJj{F:Nat→Prop}:∀(a:AV) (v:Value) (bs:List Nat),RR F w a v bs→∀(X:Ctx) (h:List AObj),GH G X w h→(∀b,F b→X.F b)→bs.Nodup→(∀b∈bs,¬X.F b∧∀id o,X.ι id≠some (b,o)) →
 ∃X',Mat G X w h bs X' (mat a h).2∧RV X' w (mat a h).2 (mat a h).1 v
 | .own sz cells n,v,bs,r,X,h,g,hF,hnd,hbs=>by
   simp only[mat];rcases r with⟨b,o,cs,T,cap,rfl,rfl,hb,hl,hn,hcap,h1,hr⟩|⟨rfl,rfl,a,rfl⟩
   ·obtain⟨hbF,hbι⟩:=hbs b (by simp);have hm:=cN sz hn;have hM:=bFr (sz:=sz) (cells:=cells) (o:=o) g hb hbF hbι (by omega) h1 (fun j a v ha hv=>(hr j a v ha hv).lift hF);refine⟨_,hM,?_⟩;have hsh:w.shape? b=some (T,cs.size):=by simp[World.shape?,hb]
    have:=RV.hs (X:=X.upd h.length (some (b,o))) (w:=w) (h:=h++[.arr false sz cells]) (id:=h.length) (off:=0) (n:=n) (t:=false) (cap:=cap) (fz:=false) (sz:=sz) (cells:=cells) (by simp) (Ctx.upd_same _ _ _) hsh (by omega) hn (by omega) (by simp) (fun _=>by omega);simpa using this
   ·have hA:=aBb g (J2.refl w) (.arr false sz []) Option.none (fun _ _ e=>by cases e) (.absent (Ctx.upd_same _ _ _) rfl);refine⟨_,⟨hA.1,hA.2.ext,rfl,?_,hA.2.abs⟩,.hs0 (fz:=false) (sz:=sz) (cells:=[]) (by simp) (by simp) (by simp)⟩;intro id b o hb;by_cases hid:id=h.length
    ·subst hid;rw[Ctx.upd_same]at hb;cases hb
    ·rw[Ctx.upd_other _ _ hid]at hb;exact .inl hb
 | .agg cells,v,bs,r,X,h,g,hF,hnd,hbs=>by
   obtain⟨vs,rfl,h1,h2⟩:=r;obtain⟨X',hM,hl,hr⟩:=matL_ok cells vs.toList bs h2 X h g hF hnd hbs;refine⟨X',hM,.agg (by simpa using hl) h1 (fun j a v ha hv=>hr j a v ha (by simpa using hv))⟩
 | .tup cells,v,bs,r,X,h,g,hF,hnd,hbs=>by
   obtain⟨vs,rfl,h2⟩:=r;obtain⟨X',hM,hl,hr⟩:=matL_ok cells vs.toList bs h2 X h g hF hnd hbs;refine⟨X',hM,.tup (by simpa using hl) (fun j a v ha hv=>hr j a v ha (by simpa using hv))⟩
 | .u,v,bs,r,X,h,g,hF,hnd,hbs=>by obtain⟨rfl,r⟩:=r;exact⟨X,.refl g,r.lift hF⟩
 | .b _,v,bs,r,X,h,g,hF,hnd,hbs=>by obtain⟨rfl,r⟩:=r;exact⟨X,.refl g,r.lift hF⟩
 | .i _ _,v,bs,r,X,h,g,hF,hnd,hbs=>by obtain⟨rfl,r⟩:=r;exact⟨X,.refl g,r.lift hF⟩
 | .s _,v,bs,r,X,h,g,hF,hnd,hbs=>by obtain⟨rfl,r⟩:=r;exact⟨X,.refl g,r.lift hF⟩
 | .p _,v,bs,r,X,h,g,hF,hnd,hbs=>by obtain⟨rfl,r⟩:=r;exact⟨X,.refl g,r.lift hF⟩
 | .e0,v,bs,r,X,h,g,hF,hnd,hbs=>by obtain⟨rfl,r⟩:=r;exact⟨X,.refl g,r.lift hF⟩
 | .sl _ _,v,bs,r,X,h,g,hF,hnd,hbs=>by obtain⟨rfl,r⟩:=r;exact⟨X,.refl g,r.lift hF⟩
 | .hs _ _ _ _,v,bs,r,X,h,g,hF,hnd,hbs=>by obtain⟨rfl,r⟩:=r;exact⟨X,.refl g,r.lift hF⟩
 | .ptr _ _,v,bs,r,X,h,g,hF,hnd,hbs=>by obtain⟨rfl,r⟩:=r;exact⟨X,.refl g,r.lift hF⟩
 | .box _ _,v,bs,r,X,h,g,hF,hnd,hbs=>by obtain⟨rfl,r⟩:=r;exact⟨X,.refl g,r.lift hF⟩
 | .mp _,v,bs,r,X,h,g,hF,hnd,hbs=>by obtain⟨rfl,r⟩:=r;exact⟨X,.refl g,r.lift hF⟩
 | .mapv _ _,v,bs,r,X,h,g,hF,hnd,hbs=>by obtain⟨rfl,r⟩:=r;exact⟨X,.refl g,r.lift hF⟩
 | .fn _ _ _,v,bs,r,X,h,g,hF,hnd,hbs=>by obtain⟨rfl,r⟩:=r;exact⟨X,.refl g,r.lift hF⟩
theorem matL_ok{F:Nat→Prop}:∀(as:List AV) (vs:List Value) (bs:List Nat),RRs F w as vs bs→∀(X:Ctx) (h:List AObj),GH G X w h→(∀b,F b→X.F b)→bs.Nodup→(∀b∈bs,¬X.F b∧∀id o,X.ι id≠some (b,o)) →
 ∃X',Mat G X w h bs X' (matL as h).2∧(matL as h).1.length=vs.length∧∀(j:Nat) (a:AV) (v:Value),(matL as h).1[j]? = some a→vs[j]? = some v→RV X' w (matL as h).2 a v
 | [],[],bs,r,X,h,g,hF,hnd,hbs=>by
   obtain rfl:bs=[]:=r;exact⟨X,.refl g,rfl,fun j a v ha _=>by simp[matL]at ha⟩
 |a :: as,v::vs,bs,r,X,h,g,hF,hnd,hbs=>by
  obtain⟨b1,b2,rfl,r1,r2⟩:=r;rw[mB]at hnd;obtain⟨X1,M1,R1⟩:=bJj a v b1 r1 X h g hF hnd.1 (fun b hb=>hbs b (dK _ hb));obtain⟨X2,M2,hl,R2⟩:=matL_ok as vs b2 r2 X1 (mat a h).2 M1.gh (fun b hb=>by rw[M1.F];exact hF b hb) hnd.2.1 (fun b hb=>by
   obtain⟨h1,h2⟩:=hbs b (eO _ hb);refine⟨by rw[M1.F];exact h1,fun id o e=>?_⟩;rcases M1.ι id b o e with h|h
   ·exact h2 _ _ h
   ·exact hnd.2.2 b h b hb rfl)
  refine⟨X2,M1.trans M2,by simp[matL,hl],?_⟩;intro j x u hx hu;cases j with
  |zero=>simp[matL]at hx hu;exact hx▸hu▸R1.mono M2.ext
  |succ j=>simp only[matL,bZ]at hx hu;exact R2 j x u hx hu
 | [],_::_,bs,r,X,h,g,hF,hnd,hbs=>r.elim
 |_::_,[],bs,r,X,h,g,hF,hnd,hbs=>r.elim
end
end
def AObj.fz:AObj→AObj
 | .box _ c=>.box true c
 | .arr _ s c=>.arr true s c
 | .map _ k v=>.map true k v
 |o=>o
def AObj.fzable:AObj→Bool
 | .box .. | .arr .. | .map .. => true
 |_=>false
theorem AObj.like_fz(o:AObj):o.like o.fz:=by cases o<;>simp[AObj.fz,AObj.like]
def freeze:List Nat→List AObj→List AObj
 | [],h=>h
 |id::ids,h=>freeze ids (h.modify id AObj.fz)
theorem nE:∀(ids:List Nat) (h:List AObj) (j:Nat),(freeze ids h)[j]? = (h[j]?).map fun o=>if j∈ids then o.fz else o
 | [],h,j=>by simp[freeze]
 |id::ids,h,j=>by
  simp only[freeze];rw[nE ids,gQ];cases h[j]? with
  |none=>simp
  |some o=>
   simp only[dO,Option.map_eq_map,cH];by_cases h1:id=j
   ·subst h1;simp only[if_true,true_or];congr 1;split
    ·cases o<;>rfl
    ·rfl
   ·have h1':¬j=id:=fun e=>h1 e.symm;simp[h1,h1']
section
variable {G:Glob} {X:Ctx} {w w':World} {h:List AObj}
theorem zE(g:GH G X w h)(p:J2 w w')(ids:List Nat)(F':Nat→Prop)(h1:∀b,X.F b→F' b)(h2:∀id∈ids,∀b o,X.ι id=some (b,o)→F' b)(h3:∀b,b<w.heap.size→F' b→FR X ids b)(h4:∀b,F' b→b<w'.heap.size)
 (h5:∀id∈ids,∀ob,h[id]? = some ob→ob.fzable=true) (h6:∀id∈ids,X.ι id=Option.none→∀z,h[id]?≠some (.box false z)):GH G ⟨F',X.ι⟩ w' (freeze ids h)∧Tr X w h ⟨F',X.ι⟩ w' (freeze ids h):=by
 have e:Ext X w h ⟨F',X.ι⟩ w' (freeze ids h):=by
  refine⟨h1,fun b hb=>p.old b (g.fbnd b hb),fun b s hs=>?_,fun id o ho=>?_⟩
  ·rw[nL (p.old _ (rT hs))];exact hs
  ·refine⟨if id∈ids then o.fz else o,by rw[nE,ho];rfl,.inr ⟨?_,.inl rfl⟩⟩;split
   ·exact AObj.like_fz o
   ·exact AObj.like_refl o
 have hs:=p.size;refine⟨⟨?_,?_,g.inj,?_,h4,fun k a hk=>(g.gl k a hk).mono e⟩,⟨⟨hs,p.os,p.tape,p.output,fun b hb _=>p.old b hb,fun id b o hb=>.inr ⟨id,o,hb⟩,?_⟩,e,fun id z hid hι=>by
  rw[nE,hid,dO,if_neg (fun hm=>h6 id hm hι z hid)]⟩⟩
 ·intro id ob hob;rw[nE]at hob;cases ho:h[id]? with
  |none=>simp[ho]at hob
  |some o=>
   simp only[ho,dO,aB]at hob;subst hob;have ok:=g.objs id o ho;by_cases hid:id∈ids
   ·rw[if_pos hid];have hfz:=h5 id hid o ho;cases ok with
    |box i0 i1 i2 i3 i4 i5 i6=>exact .box (X:=⟨F',X.ι⟩) i0 ((p.old _ (g.bnd _ _ _ i0)).trans i1) (fun _=>h2 id hid _ _ i0) (fun f=>by cases f) i4 i5 (fun j a v ha hv=>(i6 j a v ha hv).mono e)
    |arr i0 i1 i2 i3 i4 i5 i6 i7=>exact .arr (X:=⟨F',X.ι⟩) i0 ((p.old _ (g.bnd _ _ _ i0)).trans i1) (fun _=>h2 id hid _ _ i0) (fun f=>by cases f) i4 i5 (fun j a v ha hv=>(i6 j a v ha hv).mono e) i7
    |absent i0 i1=>exact .absent (X:=⟨F',X.ι⟩) i0 (by cases o<;>simp[AObj.fzable]at hfz<;>rfl)
    |map i0 i1 i2 i3 i4 i5 i6 i7 i8 i9=>exact .map (X:=⟨F',X.ι⟩) i0 ((p.old _ (g.bnd _ _ _ i0)).trans i1) (fun _=>h2 id hid _ _ i0) (fun f=>by cases f) i4 i5 (fun j a v ha hv=>(i6 j a v ha hv).mono e) (fun j a v ha hv=>(i7 j a v ha hv).mono e) i8 i9
    |_=>simp[AObj.fzable]at hfz
   ·rw[if_neg hid];refine ok.mono e rfl (fun b o hb=>p.old _ (g.bnd _ _ _ hb)) (fun b o hb hf=>?_);rcases h3 b (g.bnd _ _ _ hb) hf with h|⟨id',hi',o',ho'⟩
    ·exact h
    ·exact absurd (g.inj _ _ _ _ _ hb ho'▸hi') hid
 ·intro id bo hbo;obtain⟨ob,hob⟩:=g.dom id bo hbo;exact⟨_,by rw[nE,hob];rfl⟩
 ·intro id b o hb;have:=g.bnd id b o hb;omega
 ·intro b hb;by_cases hlt:b<w.heap.size
  ·rcases h3 b hlt hb with h|⟨id',hi',o',ho'⟩
   ·exact .inl h
   ·exact .inr (.inr ⟨id',o',ho'⟩)
  ·exact .inr (.inl (by omega))
theorem uD : ∀(k:Nat) (a:AV),∀id∈eH k h a,∃ob,h[id]? = some ob∧ob.fzable=true
 |0,a,id,hi=>by simp[eH]at hi
 |k + 1,a,id,hi=>by
  simp only[eH]at hi;split at hi
  ·simp at hi
  ·have L:∀l:List AV,id∈(if persL l then []else l.flatMap (eH k h))→∃ob,h[id]? = some ob∧ob.fzable=true:=by
    intro l hl;split at hl
    ·simp at hl
    ·obtain⟨x,_,hx⟩:=dV.1 hl;exact uD k x id hx
   split at hi
   ·split at hi
    ·rename_i ho;rcases cH.1 hi with rfl|hi
     ·exact⟨_,ho,rfl⟩
     ·exact L _ hi
    ·simp at hi
   ·split at hi
    ·rename_i ho;rcases cH.1 hi with rfl|hi
     ·exact⟨_,ho,rfl⟩
     ·exact L _ hi
    ·rename_i ho;rcases cH.1 hi with rfl|hi
     ·exact⟨_,ho,rfl⟩
     ·exact L _ hi
    ·simp at hi
   ·split at hi
    ·rename_i ho;rcases cH.1 hi with rfl|hi
     ·exact⟨_,ho,rfl⟩
     ·rcases bM.1 hi with hi|hi
      ·exact L _ hi
      ·exact L _ hi
    ·simp at hi
   ·rcases bM.1 hi with hi|hi
    ·exact L _ hi
    ·exact L _ hi
   ·exact L _ hi
   ·exact L _ hi
   ·simp at hi
end
theorem M0{G:Glob}{X:Ctx}{w:World}{h:List AObj}(g:GH G X w h):∀(k:Nat) (a:AV) (v:Value),RV X w h a v→∀id∈eH k h a,X.ι id=Option.none→∀z,h[id]?≠some (.box false z)
 |0,a,v,r,id,hi,_,_=>by simp[eH]at hi
 |k + 1,a,v,r,id,hi,hι,z=>by
  simp only[eH]at hi;split at hi
  ·simp at hi
  ·have L:∀(l:List AV) (get:Nat→Option Value),(∀j,j<l.length→∃v,get j=some v)→(∀(j:Nat) (a:AV) (v:Value),l[j]? = some a→get j=some v→RV X w h a v)→id∈(if persL l then []else l.flatMap (eH k h))→h[id]?≠some (.box false z):=by
    intro l get hg hl hm;split at hm
    ·simp at hm
    ·obtain⟨x,hx,hi'⟩:=dV.1 hm;obtain⟨j,hj⟩:=cW.1 hx;obtain⟨u,hu⟩:=hg j (bP hj);exact M0 g k x u (hl j x u hj hu) id hi' hι z
   cases r with
   | @hs id' off n t fz sz cells b o cap T N hid hι' hsh hn hc hN ht hf=>
     simp only[hid]at hi;rcases cH.1 hi with rfl|hi
     ·rw[hι']at hι;cases hι
     ·have ok:=g.objs _ _ hid;cases ok with
      |absent h0=>rw[h0]at hι';cases hι'
      | @arr _ _ _ b' o' cs T' fr h0 h1 h2 h3 h4 h5 h6=>
      refine L _ (fun j=>cs[o'+off+j]?) (fun j hj=>?_) (fun j a v ha hv=>?_) hi
      ·simp at hj;exact⟨_,bW (by omega)⟩
      ·rw[dY]at ha;split at ha
       ·rw[eL]at ha;exact h6 (off+j) a v ha (by rw[← eK];exact hv)
       ·cases ha
   |hs0 hid=>simp only[hid,nV,bR,persL,if_true,aV]at hi;subst hi;rw[hid];simp
   | @ptr id' off ob b o hid hnd hι'=>
     simp only[hid]at hi;have ok:=g.objs _ _ hid;cases ok with
     |absent h0=>rw[h0]at hι';cases hι'
     | @box _ cells b' o' cs T' fr h0 h1 h2 h3 h4 h5 h6=>
       rcases cH.1 hi with rfl|hi
       ·rw[hι']at hι;cases hι
       ·exact L _ (fun j=>cs[o'+j]?) (fun j hj=>⟨_,bW (by omega)⟩) h6 hi
     | @arr _ _ cells b' o' cs T' fr h0 h1 h2 h3 h4 h5 h6=>
       rcases cH.1 hi with rfl|hi
       ·rw[hι']at hι;cases hι
       ·exact L _ (fun j=>cs[o'+j]?) (fun j hj=>⟨_,bW (by omega)⟩) h6 hi
     |_=>simp at hi
   | @mp id' fz ks vs b hid hι'=>
     simp only[hid]at hi;have ok:=g.objs _ _ hid;cases ok with
     |absent h0=>rw[h0]at hι';cases hι'
     | @map _ _ _ b' es clock h0 h1 h2 h3 h4 h5 h6 h7 h8 h9=>
       rcases cH.1 hi with rfl|hi
       ·rw[hι']at hι;cases hι
       ·rcases bM.1 hi with hi|hi
        ·exact L _ (fun j=>(es[j]?).map (·.key)) (fun j hj=>⟨_,by rw[bW (by omega)];rfl⟩) (fun j a v ha hv=>by
          simp only[dG]at hv;obtain⟨e,he,rfl⟩:=hv;exact h6 j a e ha he) hi
        ·exact L _ (fun j=>(es[j]?).map (·.val)) (fun j hj=>⟨_,by rw[bW (by omega)];rfl⟩) (fun j a v ha hv=>by
          simp only[dG]at hv;obtain⟨e,he,rfl⟩:=hv;exact h7 j a e ha he) hi
   | @fn f first capt first' capt' h1 h2 h3 h4=>
     rcases bM.1 hi with hi|hi
     ·exact L _ (fun j=>first'[j]?) (fun j hj=>⟨_,bW (by omega)⟩) h3 hi
     ·exact L _ (fun j=>capt'[j]?) (fun j hj=>⟨_,bW (by omega)⟩) h4 hi
   | @agg cells vs h1 h2 h3=>exact L _ (fun j=>vs[j]?) (fun j hj=>⟨_,bW (by omega)⟩) h3 hi
   | @tup cells vs h1 h3=>exact L _ (fun j=>vs[j]?) (fun j hj=>⟨_,bW (by omega)⟩) h3 hi
   |dead hr hd _=>cases a<;>simp[AV.refs]at hr<;>subst hr<;>simp[hd]at hi
   |_=>simp at hi
def oR(G:Glob):Prop:=∀k a,G k=some a→pers a=true
def Ctr(P:Program)(G:Glob)(f:FuncId)(args:List AV)(r:AV):Prop:=
 iC P f=true∧oR G∧∀(F:Nat→Prop) (w:World) (vs:Array Value),(∀b,F b→b<w.heap.size)→(∀k a,G k=some a→GRel (.none F) w [] k a) →
  args.length=vs.size→(∀(j:Nat) (a:AV) (v:Value),args[j]? = some a→vs[j]? = some v→RV (.none F) w [] a v) →
  Calls P f vs w fun e w'=>∃v F' bs,e=.returned v∧J2 w w'∧(∀b,F b→F' b)∧(∀b,F' b→F b∨w.heap.size≤b)∧(∀b,F' b→b<w'.heap.size)∧RR F' w' r v bs∧bs.Nodup∧∀b∈bs,¬F' b∧w.heap.size≤b
def dep:Nat:=9
def gU(r:AV)(h:List AObj)(A:List AV):List AObj:=if flat r then h else freeze (A.flatMap (eH dep h)) h
section
variable {P:Program} {G:Glob} {X:Ctx} {w:World} {h:List AObj}
theorem aDi{f:FuncId}{A A':List AV}{r:AV}(s:Ctr P G f A' r)(hA:A'.length=A.length)(hs:∀(j:Nat) (a a':AV),A[j]? = some a→A'[j]? = some a'→a'=gZ dep h a∨(a=.e0∧a'=.e0))(g:GH G X w h){vs:Array Value}(hl:A.length=vs.size)(hr:∀(j:Nat) (a:AV) (v:Value),A[j]? = some a→vs[j]? = some v→RV X w h a v) :
 Calls P f vs w fun e w'=>∃v X',e=.returned v∧GH G X' w' (mat r (gU r h A)).2∧RV X' w' (mat r (gU r h A)).2 (mat r (gU r h A)).1 v∧Tr X w h X' w' (mat r (gU r h A)).2:=by
 obtain⟨_,hG,s⟩:=s;have hFc:∀b,FR X (A.flatMap (eH dep h)) b→b<w.heap.size:=by
  rintro b (hb|⟨id,_,o,ho⟩)
  ·exact g.fbnd b hb
  ·exact g.bnd _ _ _ ho
 refine(s (FR X (A.flatMap (eH dep h))) w vs hFc ?_ (hA.trans hl) ?_).mono ?_
 ·intro k a hk;exact(g.gl k a hk).pers (hG k a hk) (fun b hb=>.inl hb) (fun _ _=>rfl)
 ·intro j a v ha hv;obtain⟨x,hx⟩:∃x,A[j]? = some x:=⟨_,bL (by have:=bP ha;omega)⟩;rcases hs j x a hx ha with rfl|⟨rfl,rfl⟩
  ·refine(K7 g dep x v (hr j x v hx hv)).monoF (FR.mono ?_);intro i hi;exact dV.2 ⟨x,eD hx,hi⟩
  ·cases hr j _ v hx hv with
   |e0 ad=>exact .e0 ad
   |dead hr _ _=>simp[AV.refs]at hr
 ·rintro e w' ⟨v,F',bs,rfl,hgr,hF1,hF2,hF3,hRR,hnd,hbs⟩;have close:∀(X1:Ctx) (h1:List AObj) (F1:Nat→Prop),GH G X1 w' h1→Tr X w h X1 w' h1→X1.ι=X.ι→(∀b,X1.F b→F' b)→RR F1 w' r v bs→(∀b,F1 b→X1.F b) →
   ∃v' X',Ending.returned v=.returned v'∧GH G X' w' (mat r h1).2∧RV X' w' (mat r h1).2 (mat r h1).1 v'∧Tr X w h X' w' (mat r h1).2:=by
   intro X1 h1 F1 g1 t1 hι hX1 hRR1 hF11;obtain⟨X',M,R⟩:=bJj r v bs hRR1 X1 h1 g1 hF11 hnd (fun b hb=>⟨fun f=>(hbs b hb).1 (hX1 b f),fun id o e=>by
    rw[hι]at e;have:=g.bnd _ _ _ e;have:=(hbs b hb).2;omega⟩)
   refine⟨v,X',rfl,M.gh,R,⟨⟨hgr.size,hgr.os,hgr.tape,hgr.output,fun b hb _=>hgr.old b hb,?_,?_⟩,t1.ext.trans M.ext,Abs.trans t1.ext t1.abs M.abs⟩⟩
   ·intro id b o hb;rcases M.ι id b o hb with h|h
    ·rw[hι]at h;exact .inr ⟨id,o,h⟩
    ·exact .inl (hbs b h).2
   ·intro b hb;rw[M.F]at hb;exact t1.step.fnew b hb
  unfold gU;by_cases hf:flat r=true
  ·rw[if_pos hf];have ga:=zE g hgr [] X.F (fun _ h=>h) (by simp) (fun b _ hb=>.inl hb) (fun b hb=>fS (g.fbnd b hb) hgr.size) (by simp) (by simp);exact close X h X.F ga.1 ga.2 rfl (fun b hb=>hF1 b (.inl hb)) (RR.flat r v bs hRR hf) (fun _ h=>h)
  ·rw[if_neg hf]
   have ga:=zE g hgr (A.flatMap (eH dep h)) F' (fun b hb=>hF1 b (.inl hb)) (fun id hi b o ho=>hF1 b (.inr ⟨id,hi,o,ho⟩)) (fun b hlt hb=>by
    rcases hF2 b hb with h|h
    ·exact h
    ·omega) hF3 (fun id hi ob hob=>by
     obtain⟨x,hx,hi'⟩:=dV.1 hi;obtain⟨ob',h1,h2⟩:=uD dep x id hi';rw[hob]at h1;cases h1;exact h2) (fun id hi hι z hz=>by
     obtain⟨x,hx,hi'⟩:=dV.1 hi;obtain⟨j,hj⟩:=cW.1 hx;have hjv:j<vs.size:=hl▸bP hj;exact M0 g dep x vs[j] (hr j x vs[j] hj (by simp[hjv])) id hi' hι z hz)
   exact close ⟨F',X.ι⟩ _ F' ga.1 ga.2 rfl (fun _ h=>h) hRR (fun _ h=>h)
theorem bCq{f:FuncId}{A:List AV}{r:AV}(s:Ctr P G f (A.map (gZ dep h)) r)(g:GH G X w h){vs:Array Value}(hl:A.length=vs.size)(hr:∀(j:Nat) (a:AV) (v:Value),A[j]? = some a→vs[j]? = some v→RV X w h a v) :
 Calls P f vs w fun e w'=>∃v X',e=.returned v∧GH G X' w' (mat r (gU r h A)).2∧RV X' w' (mat r (gU r h A)).2 (mat r (gU r h A)).1 v∧Tr X w h X' w' (mat r (gU r h A)).2:=
 aDi s (by simp) (fun j a a' h1 h2=>by rw[eV,h1]at h2;simp at h2;exact .inl h2.symm) g hl hr
theorem pH(g:GH G X w h){a:AV}{v:Value}(r:RV X w h a v) :
 ∃X',GH G X' w (freeze (eH dep h a) h)∧RV X' w (freeze (eH dep h a) h) (gZ dep h a) v∧Tr X w h X' w (freeze (eH dep h a) h):=by
 have ga:=zE g (J2.refl w) (eH dep h a) (FR X (eH dep h a)) (fun b hb=>.inl hb) (fun id hi b o ho=>.inr ⟨id,hi,o,ho⟩) (fun b _ hb=>hb) (by
  rintro b (hb|⟨id,_,o,ho⟩)
  ·exact g.fbnd b hb
  ·exact g.bnd _ _ _ ho) (fun id hi ob hob=>by
   obtain⟨ob',h1,h2⟩:=uD dep a id hi;rw[hob]at h1;cases h1;exact h2) (fun id hi hι z hz=>M0 g dep a v r id hi hι z hz)
 exact⟨⟨FR X (eH dep h a),X.ι⟩,ga.1,(K7 g dep a v r).lift (fun _ h=>h),ga.2⟩
end
def ACalls(P:Program)(G:Glob)(f:FuncId)(A:List AV)(h:List AObj)(K:AV→List AObj→Prop):Prop:=
 iC P f=true∧∀(X:Ctx) (w:World) (vs:Array Value),GH G X w h→A.length=vs.size→(∀(j:Nat) (a:AV) (v:Value),A[j]? = some a→vs[j]? = some v→RV X w h a v) →
  Calls P f vs w fun e w'=>∃v r h' X',e=.returned v∧K r h'∧GH G X' w' h'∧RV X' w' h' r v∧Tr X w h X' w' h'
theorem ACalls.mono{P:Program}{G:Glob}{f:FuncId}{A:List AV}{h:List AObj}{K K':AV→List AObj→Prop}(a:ACalls P G f A h K)(hK:∀r h',K r h'→K' r h'):ACalls P G f A h K':=
 ⟨a.1,fun X w vs g hl hr=>(a.2 X w vs g hl hr).mono fun e w' ⟨v,r,h',X',h1,h2,h3⟩=>⟨v,r,h',X',h1,hK _ _ h2,h3⟩⟩
theorem ACalls.sem{P:Program}{G:Glob}{f:FuncId}{A:List AV}{h:List AObj}{K:AV→List AObj→Prop}{r:AV}(s:Ctr P G f (A.map (gZ dep h)) r)(hK:K (mat r (gU r h A)).1 (mat r (gU r h A)).2) :
 ACalls P G f A h K:=
 ⟨s.1,fun X w vs g hl hr=>(bCq s g hl hr).mono fun e w' ⟨v,X',h1,h2,h3,h4⟩=>⟨v,_,_,X',h1,hK,h2,h3,h4⟩⟩
theorem ACalls.sem0{P:Program}{G:Glob}{f:FuncId}{A A':List AV}{h:List AObj}{K:AV→List AObj→Prop}{r:AV}(s:Ctr P G f A' r)(hA:A'.length=A.length)(hs:∀(j:Nat) (a a':AV),A[j]? = some a→A'[j]? = some a'→a'=gZ dep h a∨(a=.e0∧a'=.e0))
 (hK:K (mat r (gU r h A)).1 (mat r (gU r h A)).2):ACalls P G f A h K:=
 ⟨s.1,fun X w vs g hl hr=>(aDi s hA hs g hl hr).mono fun e w' ⟨v,X',h1,h2,h3,h4⟩=>⟨v,_,_,X',h1,hK,h2,h3,h4⟩⟩
def cBg(P:Program)(G:Glob)(f:FuncId)(args:List AV)(v:Value):Prop:=
 iC P f=true∧oR G∧∀(F:Nat→Prop) (w:World) (vs:Array Value),(∀b,F b→b<w.heap.size)→(∀k a,G k=some a→GRel (.none F) w [] k a) →
  args.length=vs.size→(∀(j:Nat) (a:AV) (v:Value),args[j]? = some a→vs[j]? = some v→RV (.none F) w [] a v) →
  Calls P f vs w fun e w'=>e=.panicked [{v:=v,recovered:=false}]∧J2 w w'
def rI(P:Program)(G:Glob)(f:FuncId)(A:List AV)(h:List AObj)(K:Value→List AObj→Prop):Prop:=
 iC P f=true∧∀(X:Ctx) (w:World) (vs:Array Value),GH G X w h→A.length=vs.size→(∀(j:Nat) (a:AV) (v:Value),A[j]? = some a→vs[j]? = some v→RV X w h a v) →
  Calls P f vs w fun e w'=>∃v h' X',e=.panicked [{v:=v,recovered:=false}]∧K v h'∧GH G X' w' h'∧Tr X w h X' w' h'
theorem rI.none{P:Program}{G:Glob}{f:FuncId}{A:List AV}{h:List AObj}{K:AV→List AObj→Prop}(a:rI P G f A h fun _ _=>False):ACalls P G f A h K:=
 ⟨a.1,fun X w vs g hl hr=>(a.2 X w vs g hl hr).mono fun e w' ⟨v,h',X',h1,h2,h3⟩=>h2.elim⟩
theorem rI.sem0{P:Program}{G:Glob}{f:FuncId}{A A':List AV}{h:List AObj}{K:Value→List AObj→Prop}{v:Value}(s:cBg P G f A' v)(hA:A'.length=A.length)(hs:∀(j:Nat) (a a':AV),A[j]? = some a→A'[j]? = some a'→a'=gZ dep h a∨(a=.e0∧a'=.e0))
 (hK:K v h):rI P G f A h K:=by
 obtain⟨hc,hG,s⟩:=s;refine⟨hc,fun X w vs g hl hr=>?_⟩;have hFc:∀b,FR X (A.flatMap (eH dep h)) b→b<w.heap.size:=by
  rintro b (hb|⟨id,_,o,ho⟩)
  ·exact g.fbnd b hb
  ·exact g.bnd _ _ _ ho
 refine(s (FR X (A.flatMap (eH dep h))) w vs hFc ?_ (hA.trans hl) ?_).mono ?_
 ·intro k a hk;exact(g.gl k a hk).pers (hG k a hk) (fun b hb=>.inl hb) (fun _ _=>rfl)
 ·intro j a v ha hv;obtain⟨x,hx⟩:∃x,A[j]? = some x:=⟨_,bL (by have:=bP ha;omega)⟩;rcases hs j x a hx ha with rfl|⟨rfl,rfl⟩
  ·refine(K7 g dep x v (hr j x v hx hv)).monoF (FR.mono ?_);intro i hi;exact dV.2 ⟨x,eD hx,hi⟩
  ·cases hr j _ v hx hv with
   |e0 ad=>exact .e0 ad
   |dead hr _ _=>simp[AV.refs]at hr
 ·rintro e w' ⟨rfl,hgr⟩;have ga:=zE g hgr [] X.F (fun _ h=>h) (by simp) (fun b _ hb=>.inl hb) (fun b hb=>fS (g.fbnd b hb) hgr.size) (by simp) (by simp);exact⟨v,h,X,rfl,hK,ga.1,ga.2⟩
theorem rI.sem{P:Program}{G:Glob}{f:FuncId}{A:List AV}{h:List AObj}{K:Value→List AObj→Prop}{v:Value}(s:cBg P G f (A.map (gZ dep h)) v)(hK:K v h):rI P G f A h K:=
 rI.sem0 s (by simp) (fun j a a' h1 h2=>by rw[eV,h1]at h2;simp at h2;exact .inl h2.symm) hK
theorem Y6{es:List MapEntry}{b:Nat}:∀(l:List MapEntry) (j:Nat) (e:MapEntry),l[j]? = some e→(∀(i k:Nat) (x y:MapEntry),l[i]? = some x→l[k]? = some y→x.born=y.born→i=k)→l.filter (fun x=>x.born != e.born)=l.eraseIdx j
 | [],j,e,h,_=>by simp at h
 |x::l,0,e,h,hd=>by
  simp only[bT,aB]at h;subst h;rw[List.filter_cons_of_neg (by simp),List.eraseIdx_cons_zero,bBe];intro y hy;obtain⟨i,hi⟩:=cW.1 hy;have:=hd 0 (i+1) x y rfl (by simpa using hi);simp only[bne_iff_ne,ne_eq];intro he;have:=this he.symm;omega
 |x :: l,j+1,e,h,hd=>by
  simp only[bZ]at h;have hne:x.born≠e.born:=fun he=>by
   have:=hd 0 (j+1) x e rfl (by simpa using h) he;omega
  rw[List.filter_cons_of_pos (by simpa using hne),List.eraseIdx_cons_succ];rw[Y6 (es:=es) (b:=b) l j e h (fun i k y z hy hz he=>by
   have:=hd (i+1) (k+1) y z (by simpa using hy) (by simpa using hz) he;omega)]
theorem P7{l:List MapEntry}(p:MapEntry→Bool)(hd:∀(i k:Nat) (x y:MapEntry),l[i]? = some x→l[k]? = some y→x.born=y.born→i=k) :
 ∀(i k:Nat) (x y:MapEntry),(l.filter p)[i]? = some x→(l.filter p)[k]? = some y→x.born=y.born→i=k:=by
 have h1:l.Pairwise (fun a b=>a.born≠b.born):=by
  rw[dQ];intro i j hi hj hij he;have:=hd i j l[i] l[j] (by simp[hi]) (by simp[hj]) he;omega
 have h2:=h1.filter p;rw[dQ]at h2;intro i k x y hx hy he;obtain⟨hi,rfl⟩:=gO.1 hx;obtain⟨hk,rfl⟩:=gO.1 hy;rcases U5 i k with h|h|h
 ·exact absurd he (h2 i k hi hk h)
 ·exact h
 ·exact absurd he.symm (h2 k i hk hi h)
theorem aQr{es:Array MapEntry}{e:MapEntry}(h4:∀(j k:Nat) (e e':MapEntry),es[j]? = some e→es[k]? = some e'→e.born=e'.born→j=k)(he:e∈es.toList):es.find? (·.born == e.born)=some e:=by
 obtain⟨i,hi⟩:=cW.1 he;have hi:es[i]? = some e:=by simpa using hi
 cases hf:es.find? (·.born == e.born)with
 |none=>
  have:=(Array.find?_eq_none.1 hf) e (by simpa using he);simp at this
 |some e'=>
  have h1:=Array.find?_some hf;have h2:=Array.mem_of_find?_eq_some hf;obtain⟨k,hk⟩:=Array.mem_iff_getElem?.1 h2;have:=h4 k i e' e hk hi (by simpa using h1);subst this;rw[hi]at hk;exact hk.symm
section
variable {P:Program} {G:Glob} {X:Ctx} {w:World} {h:List AObj}
theorem bDb{T K E:TypeId}{ks vs:List AV}{v:Value}(hT:P.underlying T=some (.map K E))(g:GH G X w h)(r:RV X w h (.mapv ks vs) v) :
 ∃X' w' u,(Instr.range T v).run P w=.ok u w'∧RV X' w' (h++[.mit none ks vs]) (.ptr h.length 0) u∧GH G X' w' (h++[.mit none ks vs])∧Tr X w h X' w' (h++[.mit none ks vs]):=by
 cases r with
 |dead hr _ _=>simp[AV.refs]at hr
 | @mapv _ _ b es clock hF hb hk hv h1 h2 h3 h4=>
   have hp:=iD.alloc w (.mapIter (some b) clock #[] clock);have hnF:¬X.F w.heap.size:=fun f=>by have:=g.fbnd _ f;omega
   have hfl:(es.filter fun e => !(#[]:Array Nat).contains e.born)=es:=by simp
   have e:=rG g hp.grew (.mit none ks vs) (some (w.heap.size,0));obtain⟨g',t⟩:=qP g hp (.mit none ks vs) (.mit (b:=w.heap.size) (m:=b) (seen := #[]) (es:=es) (clock:=clock) (Ctx.upd_same _ _ _) hnF hp.at hF ((hp.old (g.fbnd _ hF)).trans hb) h3 h4 (by rw[hfl];exact hk) (by rw[hfl];exact hv)
    (fun j a e' ha he=>by rw[hfl]at he;exact(h1 j a e' ha he).mono e) (fun j a e' ha he=>by rw[hfl]at he;exact(h2 j a e' ha he).mono e) (fun k v hc=>by cases hc))
   refine⟨_,_,.pointer (some ⟨w.heap.size,0,Option.none⟩),?_,?_,g',t⟩
   ·have hgo:(getObj b).run P w=.ok (.map es clock) w:=by simp[getObj,Sem.run,hb]
    simp only[Instr.range,cD,run_underlying hT,bO,hgo];rfl
   ·have:=RV.ptr (X:=X.upd h.length (some (w.heap.size,0))) (w:=w.alloc (.mapIter (some b) clock #[] clock)) (h:=h++[.mit none ks vs]) (id:=h.length) (off:=0) (ob:=.mit none ks vs) (b:=w.heap.size) (o:=0) (by simp) (by simp) (Ctx.upd_same _ _ _);simpa using this
def sX(P:Program)(h:List AObj)(T:TypeId)(s x:AV):Option (AV×List AObj):=
 match fV P T,s,x with
 |some e,.e0,.i .i64 l=>match zeroOf P e,aCo P e with
  |some z,some by_=>if 0≤l∧l*by_≤140737488355328∧l≤140737488355328∧lP P e=some z.length∧0<z.length then
   (if l=0 then some (.e0,h)else some (.hs h.length 0 l.toNat false,h++[.arr false z.length (List.replicate l.toNat z).flatten]))else Option.none
  |_,_=>Option.none
 |_,_,_=>Option.none
theorem aTt{T U ty e:TypeId}{kn:IntKind}{i:TypeInfo}{z:Value}(ht:P.underlying T=some (.slice e))(hu:P.underlying U=some (.int kn))(hi:P.info? e=some i)(hz:i.zero=some z)(a:Option Addr)(n:Nat)(h0:0<n)(hs:0<i.size)
 (h63:(n:Int)≤9223372036854775807) (h48:n*i.bytes≤281474976710656) :
 (Builtin.append_ #[T,U] ty #[.slice a 0 0,.int .i64 n]).run P w =
  .ok (.slice (some ⟨w.heap.size,0,Option.none⟩) n (grownCap w n 0 e)) (w.drew.alloc (.cells (Builtin.zeroCells z.cells n++Builtin.zeroCells z.cells (grownCap w n 0 e-n)) e)):=by
 have hn:n≠0:=by omega
 have hw:IntKind.i64.wrap (n:Int)=n:=by rw[IntKind.wrap_i64];omega
 have h63':¬(9223372036854775807<(n:Int)):=by omega
 have h48':¬(281474976710656<Builtin.nextslicecap n 0*i.bytes):=by rw[nextslicecap_zero h0];omega
 have h48i:¬(281474976710656<(n:Int)*(i.bytes:Int)):=by
  rw[← Int.natCast_mul];omega
 have hneg:¬((n:Int)<0):=by omega
 have hns:¬(n*i.size=0):=Nat.mul_ne_zero hn (by omega);have hf:∀w1:World,(Builtin.firstCells i.size 0 (.slice a 0 0)).run P w1=.ok #[] w1:=by intro w1;cases a<;>simp[Builtin.firstCells,loadCells,loadCellsFrom]
 simp[Builtin.append_,run_underlying ht,run_underlying hu,sizeOf,typeInfo,zeroValue,hi,hz,asInt,asIntOf,hw,hn,hneg,hns,h63',h48',h48i,Question.forced,hf,newRow,grownCap]
theorem aPo{T U ty e:TypeId}{kn:IntKind}{i:TypeInfo}{z:Value}(ht:P.underlying T=some (.slice e))(hu:P.underlying U=some (.int kn))(hi:P.info? e=some i)(hz:i.zero=some z)(a:Option Addr) :
 (Builtin.append_ #[T,U] ty #[.slice a 0 0,.int .i64 0]).run P w=.ok (.slice a 0 0) w:=by
 have hw:IntKind.i64.wrap 0=0:=by rw[IntKind.wrap_i64];omega
 cases a<;>simp[Builtin.append_,run_underlying ht,run_underlying hu,sizeOf,typeInfo,zeroValue,hi,hz,asInt,asIntOf,hw,storeCells]
theorem aCr{T U ty:TypeId}{kn:IntKind}{s x y:AV}{u v:Value}{h':List AObj}(hu:P.underlying U=some (.int kn))(g:GH G X w h)(rs:RV X w h s u)(rx:RV X w h x v)(e:sX P h T s x=some (y,h')) :
 ∃X' w' y',(Builtin.append_ #[T,U] ty #[u,v]).run P w=.ok y' w'∧RV X' w' h' y y'∧GH G X' w' h'∧Tr X w h X' w' h':=by
 unfold sX at e;split at e;case h_2=>cases e
 rename_i el l he;have ht:=pK he;split at e;case h_2=>cases e
 rename_i z by_ hz hby
 split at e;case isFalse=>cases e
 rename_i hc;obtain⟨hl0,hlb,hlm,hsz,hz0⟩:=hc;obtain⟨i,zv,hi,hiz,hzc⟩:=jD hz;have hzs:=wY hzc;have hisz:i.size=z.length:=by obtain⟨i',h1,h2⟩:=K0 hsz;rw[hi]at h1;cases h1;exact h2
 have hiby:i.bytes=by_:=zS hi hby
 have hv:=sW rx;subst hv;obtain⟨a,rfl⟩:∃a,u=.slice a 0 0:=by
  cases rs with
  |e0 a=>exact⟨a,rfl⟩
  |dead hr _ _=>simp[AV.refs]at hr
 split at e
 ·rename_i hl;subst hl;cases e;exact⟨X,w,_,aPo ht hu hi hiz a,.e0 a,g,.refl _ _ _⟩
 ·rename_i hl;cases e;obtain⟨n,rfl⟩:∃n:Nat,l=n:=⟨l.toNat,by omega⟩;have h0:0<n:=by omega
  have hb48:n*i.bytes≤281474976710656:=by
   rw[hiby];have:((n*by_:Nat):Int)≤140737488355328:=by simpa using hlb
   omega
  have hrun:=aTt (w:=w) (ty:=ty) ht hu hi hiz a n h0 (by omega) (by omega) hb48;have hge:=grownCap_ge w n 0 el;have hzk:=vH (X:=X) (w:=w) (h:=h) hzc n;have hzeq:(Array.range (n*z.length)).map (zv.cells[· % zv.cells.size]!)=Builtin.zeroCells zv.cells n:=by rw[Builtin.zeroCells,hzs]
  rw[hzeq]at hzk;obtain⟨k1,k2,k3⟩:=hzk;have hp:=iD.drew w (.cells (Builtin.zeroCells zv.cells n++Builtin.zeroCells zv.cells (grownCap w n 0 el-n)) el (0,0));have hsize:(Builtin.zeroCells zv.cells n++Builtin.zeroCells zv.cells (grownCap w n 0 el-n)).size=grownCap w n 0 el*z.length:=by
   simp only[kP,size_zeroCells,hzs,← Nat.add_mul];congr 1;omega
  have hlen:(List.replicate n z).flatten.length=n*z.length:=lT z n;have hzn:(Builtin.zeroCells zv.cells n).size=n*z.length:=by rw[size_zeroCells,hzs]
  have hle:=cN z.length hge;have get:∀(j:Nat) (v:Value),j<(List.replicate n z).flatten.length→(Builtin.zeroCells zv.cells n++Builtin.zeroCells zv.cells (grownCap w n 0 el-n))[j]? = some v→(Builtin.zeroCells zv.cells n)[j]? = some v:=by
   intro j v hj hv;rw[dU (by omega)]at hv;exact hv
  obtain⟨g',t⟩:=qP g hp _ ((nB g hp (List.replicate n z).flatten (by omega) (fun j v hj hv=>k2 j v (get j v hj hv)) (fun j a v ha hv=>k3 j a v ha (get j v (bP ha) hv))).2 (fun j v hv=>by
   rcases qL.1 (gX hv)with h1|h1<;>exact aAc (kS (X:=X) (w:=w) (h:=h) hzc).2.1 _ h1) z.length)
  refine⟨_,_,_,hrun,?_,g',t⟩;have hsh:(w.drew.alloc (.cells (Builtin.zeroCells zv.cells n++Builtin.zeroCells zv.cells (grownCap w n 0 el-n)) el)).shape? w.heap.size=some (el,(Builtin.zeroCells zv.cells n++Builtin.zeroCells zv.cells (grownCap w n 0 el-n)).size):=by simp only[World.shape?,hp.at]
  have:=RV.hs (X:=X.upd h.length (some (w.heap.size,0))) (w:=w.drew.alloc (.cells (Builtin.zeroCells zv.cells n++Builtin.zeroCells zv.cells (grownCap w n 0 el-n)) el)) (h:=h++[.arr false z.length (List.replicate n z).flatten]) (id:=h.length) (off:=0) (n:=n) (t:=false) (cap:=grownCap w n 0 el) (fz:=false) (sz:=z.length) (cells:=(List.replicate n z).flatten) (by simp) (Ctx.upd_same _ _ _) hsh (by omega) hge (by omega) (by simp) (fun _=>by omega);simpa using this
theorem bOu{cur:Option (AV×AV)}{ks vs:List AV}{v:Value}{id:Nat}{ty:TypeId}(hid:h[id]? = some (.mit cur ks vs))(g:GH G X w h)(r:RV X w h (.ptr id 0) v) :
 (ks=[]∧(Instr.next v false ty).run P w=.ok (.tuple #[.bool false]) w) ∨
 ∃j k x,ks[j]? = some k∧vs[j]? = some x∧∃w' kv xv,(Instr.next v false ty).run P w=.ok (.tuple #[.bool true,kv,xv]) w'∧RV X w' (h.set id (.mit (some (k,x)) (ks.eraseIdx j) (vs.eraseIdx j))) k kv ∧
  RV X w' (h.set id (.mit (some (k,x)) (ks.eraseIdx j) (vs.eraseIdx j))) x xv∧GH G X w' (h.set id (.mit (some (k,x)) (ks.eraseIdx j) (vs.eraseIdx j)))∧Tr X w h X w' (h.set id (.mit (some (k,x)) (ks.eraseIdx j) (vs.eraseIdx j))):=by
 cases r with
 |dead hr hd _=>simp[AV.refs]at hr;subst hr;rw[hid]at hd;cases hd
 |ptr hid' hnd hι=>
 rw[hid]at hid';cases hid';have ok:=g.objs _ _ hid;cases ok with
 |absent h0=>rw[h0]at hι;cases hι
 | @mit _ _ _ b m seen es clock h0 hnF hb hF hm h3 h4 hk hv h1 h2 _=>
 rw[h0]at hι;simp only[aB,bH]at hι;obtain⟨rfl,rfl⟩:=hι;have hold:∀x∈es.toList,x.born<clock:=by
  intro x hx;obtain⟨j,hj⟩:=cW.1 hx;exact h3 j x (by simpa using hj)
 rcases run_next_at (P:=P) w ty b m clock clock seen es clock hb hm hold (bK _)with⟨hz,hrun⟩|⟨e,he,w1,hw1,hrun⟩
 ·left;exact⟨List.eq_nil_of_length_eq_zero (by rw[hk];exact hz),hrun⟩
 ·right;obtain⟨j,hj⟩:=cW.1 he;have hjlt:=bP hj;have hje:(es.filter fun e => !seen.contains e.born)[j]? = some e:=by rw[← iR];exact hj
  have hls:(es.filter fun e => !seen.contains e.born).size=(leftOf es seen).toList.length:=by rw[Array.length_toList];rfl
  have hjk:j<ks.length:=by rw[hk,hls];exact hjlt
  have hjv:j<vs.length:=by rw[hv,hls];exact hjlt
  have hsame:wG w w1:=by rcases hw1 with rfl|rfl<;>exact⟨rfl,rfl,rfl,rfl⟩
  have hbs:b<w.heap.size:=lt_of_block hb;have hmb:m≠b:=fun e=>hnF (e▸hF);have hleft:(es.filter fun x => !(seen.push e.born).contains x.born)=((es.filter fun e => !seen.contains e.born).toList.eraseIdx j).toArray:=by
   apply Array.toList_inj.1;rw[D5];have:=Y6 (es:=[]) (b:=0) (es.toList.filter fun e => !seen.contains e.born) j e (by rw[← D5];exact hj) (P7 _ (fun i k x y hx hy=>h4 i k x y (by simpa using hx) (by simpa using hy)));simp only[D5];rw[← this,List.filter_filter];congr 1;funext x;by_cases he2:x.born=e.born
   ·simp[he2]
   ·have he3:¬e.born=x.born:=fun h=>he2 h.symm;simp[he2,he3]
  have hget:∀(i:Nat) (x:MapEntry),(es.filter fun x => !(seen.push e.born).contains x.born)[i]? = some x→(es.filter fun e => !seen.contains e.born)[if i<j then i else i+1]? = some x:=by
   intro i x hx;rw[hleft]at hx;simp only[cR,aHd]at hx;rw[← iR];split at hx<;>rename_i hij<;>simp only[hij,if_true,if_false]<;>exact hx
  have hsz:(es.filter fun x => !(seen.push e.born).contains x.born).size=(es.filter fun e => !seen.contains e.born).size-1:=by
   rw[hleft];simp only[gN,aRv,Array.length_toList];rw[if_pos (by rw[hls];exact hjlt)]
  have hgs:=sC (w':={w1 with heap:=w1.heap.setIfInBounds b (.mapIter (some m) clock (seen.push e.born) clock)}) (ob':=.mit (some (ks[j],vs[j])) (ks.eraseIdx j) (vs.eraseIdx j)) g hid h0 hnF (by simp[AObj.like]) (by simp[hsame.heap]) hsame.os hsame.tape hsame.output
   (fun k hk=>by
    show(w1.heap.setIfInBounds b _)[k]? = _;rw[cL,if_neg (D0 hk),hsame.heap])
   (fun s hs=>by simp[World.shape?,hb]at hs)
   (fun ee=>by
    refine .mit (b:=b) (m:=m) (seen:=seen.push e.born) (es:=es) (clock:=clock) h0 hnF ?_ hF ?_ h3 h4 ?_ ?_ ?_ ?_ ?_
    ·show(w1.heap.setIfInBounds b _)[b]? = _;rw[cL,if_pos rfl,if_pos (by rw[hsame.heap];exact hbs)]
    ·show(w1.heap.setIfInBounds b _)[m]? = _;rw[cL,if_neg (D0 hmb),hsame.heap];exact hm
    ·rw[hsz,aRv,if_pos hjk,hk]
    ·rw[hsz,aRv,if_pos hjv,hv]
    ·intro i a x ha hx;have hx':=hget i x hx;rw[aHd]at ha;refine(h1 (if i<j then i else i+1) a x ?_ hx').mono ee;split at ha<;>rename_i hij<;>simp only[hij,if_true,if_false]<;>exact ha
    ·intro i a x ha hx;have hx':=hget i x hx;rw[aHd]at ha;refine(h2 (if i<j then i else i+1) a x ?_ hx').mono ee;split at ha<;>rename_i hij<;>simp only[hij,if_true,if_false]<;>exact ha
    ·intro k v hc;simp only[aB,bH]at hc;obtain⟨rfl,rfl⟩:=hc;have h9:e∈(es.filter fun e => !seen.contains e.born).toList:=he;rw[D5]at h9;have he9:=(jV.1 h9).1;refine⟨e,by simp,aQr h4 he9,(h1 j _ e (by simp[hjk]) hje).mono ee,(h2 j _ e (by simp[hjv]) hje).mono ee⟩)
  obtain⟨g',t⟩:=hgs;refine⟨j,ks[j],vs[j],by simp[hjk],by simp[hjv],_,_,_,hrun,(h1 j _ e (by simp[hjk]) hje).mono t.ext,(h2 j _ e (by simp[hjv]) hje).mono t.ext,g',t⟩
theorem aBh{k x:AV}{ks vs:List AV}{v:Value}{id:Nat}(hid:h[id]? = some (.mit (some (k,x)) ks vs))(g:GH G X w h)(r:RV X w h (.ptr id 0) v) :
 ∃kv xv,(Instr.entry v).run P w=.ok (.tuple #[kv,xv]) w∧RV X w h k kv∧RV X w h x xv:=by
 cases r with
 |dead hr hd _=>simp[AV.refs]at hr;subst hr;rw[hid]at hd;cases hd
 |ptr hid' hnd hι=>
 rw[hid]at hid';cases hid';have ok:=g.objs _ _ hid;cases ok with
 |absent h0=>rw[h0]at hι;cases hι
 | @mit _ _ _ b m seen es clock h0 hnF hb hF hm h3 h4 hk hv h1 h2 h5=>
 rw[h0]at hι;simp only[aB,bH]at hι;obtain⟨rfl,rfl⟩:=hι;obtain⟨e,hbk,hf,rk,rx⟩:=h5 k x rfl;refine⟨_,_,?_,rk,rx⟩;simp only[Instr.entry,getObj,cD,Sem.run,hb,hm,Result.andThen,hbk,bne_self_eq_false,aE,if_false,hf];rfl
end
theorem bUg{X:Ctx}{w:World}{h:List AObj}{l:List UInt8}{v:Value}(r:RV X w h (.s l) v):v=.string ⟨l.toArray⟩:=by
 cases r with
 |s=>rfl
 |dead hr _ _=>simp[AV.refs]at hr
section
variable {P:Program} {G:Glob} {X:Ctx} {w:World} {h:List AObj}
theorem aUf{T:TypeId}{l:List UInt8}{v:Value}(hT:P.underlying T=some .string)(g:GH G X w h)(r:RV X w h (.s l) v) :
 ∃X' w' u,(Instr.range T v).run P w=.ok u w'∧RV X' w' (h++[.sit l 0]) (.ptr h.length 0) u∧GH G X' w' (h++[.sit l 0])∧Tr X w h X' w' (h++[.sit l 0]):=by
 obtain rfl:=bUg r;have hp:=iD.alloc w (.stringIter ⟨l.toArray⟩ 0);have hnF:¬X.F w.heap.size:=fun f=>by have:=g.fbnd _ f;omega
 obtain⟨g',t⟩:=qP g hp (.sit l 0) (.sit (b:=w.heap.size) (Ctx.upd_same _ _ _) hnF hp.at);refine⟨_,_,.pointer (some ⟨w.heap.size,0,Option.none⟩),run_range_string w T _ hT,?_,g',t⟩;have:=RV.ptr (X:=X.upd h.length (some (w.heap.size,0))) (w:=w.alloc (.stringIter ⟨l.toArray⟩ 0)) (h:=h++[.sit l 0]) (id:=h.length) (off:=0) (ob:=.sit l 0) (b:=w.heap.size) (o:=0) (by simp) (by simp) (Ctx.upd_same _ _ _);simpa[World.iter]using this
theorem bEl{l:List UInt8}{pos:Nat}{v:Value}{id:Nat}{ty:TypeId}(hid:h[id]? = some (.sit l pos))(g:GH G X w h)(r:RV X w h (.ptr id 0) v) :
 (l.length≤pos∧(Instr.next v true ty).run P w=.ok (.tuple #[.bool false]) w) ∨
 ∃(c:UInt8) (rn k:Nat),l[pos]? = some c∧((c.toNat<128∧rn=c.toNat∧k=1)∨(128≤c.toNat∧128≤rn∧rn≤2147483647∧1≤k))∧∃w',(Instr.next v true ty).run P w=.ok (.tuple #[.bool true,.int .i64 pos,.int .i32 rn]) w' ∧
  GH G X w' (h.set id (.sit l (pos+k)))∧Tr X w h X w' (h.set id (.sit l (pos+k))):=by
 cases r with
 |dead hr hd _=>simp[AV.refs]at hr;subst hr;rw[hid]at hd;cases hd
 |ptr hid' hnd hι=>
 rw[hid]at hid';cases hid';have ok:=g.objs _ _ hid;cases ok with
 |absent h0=>rw[h0]at hι;cases hι
 | @sit _ _ b h0 hnF hb=>
 rw[h0]at hι;simp only[aB,bH]at hι;obtain⟨rfl,rfl⟩:=hι;have hbs:b<w.heap.size:=lt_of_block hb;by_cases hpos:pos<l.length
 ·right;have hsz:pos<(⟨l.toArray⟩:ByteArray).size:=by simpa[ByteArray.size]using hpos
  have hel:(⟨l.toArray⟩:ByteArray)[pos]'hsz=l[pos]:=by simp[ByteArray.getElem_eq_getElem_data]
  refine⟨l[pos],(Utf8.decode ⟨l.toArray⟩ pos).1,(Utf8.decode ⟨l.toArray⟩ pos).2,by simp[hpos],?_,{w with heap:=w.heap.setIfInBounds b (.stringIter ⟨l.toArray⟩ (pos+(Utf8.decode ⟨l.toArray⟩ pos).2))},?_,?_⟩
  ·by_cases hc:l[pos].toNat<128
   ·left;have:=decode_ascii ⟨l.toArray⟩ pos hsz (by rw[hel];exact hc);rw[this,hel];exact⟨hc,rfl,rfl⟩
   ·right;have:=decode_high ⟨l.toArray⟩ pos hsz (by rw[hel];omega);exact⟨by omega,this.1,decode_le _ _,this.2⟩
  ·have hgo:(getObj b).run P w=.ok (.stringIter ⟨l.toArray⟩ pos) w:=by simp[getObj,Sem.run,hb]
   simp only[Instr.next,Nat.add_zero,cD,hgo,Result.andThen,hsz,if_true];simp[setObj,Sem.run,hb,goInt]
  ·exact sC (w':={w with heap:=w.heap.setIfInBounds b (.stringIter ⟨l.toArray⟩ (pos+(Utf8.decode ⟨l.toArray⟩ pos).2))}) (ob':=.sit l (pos+(Utf8.decode ⟨l.toArray⟩ pos).2)) g hid h0 hnF (by simp[AObj.like]) (by simp) rfl rfl rfl
    (fun k hk=>by
     show(w.heap.setIfInBounds b _)[k]? = _;rw[cL,if_neg (D0 hk)])
    (fun s hs=>by simp[World.shape?,hb]at hs)
    (fun ee=>.sit (b:=b) h0 hnF (by
     show(w.heap.setIfInBounds b _)[b]? = _;rw[cL,if_pos rfl,if_pos hbs]))
 ·left;refine⟨by omega,?_⟩;have hgo:(getObj b).run P w=.ok (.stringIter ⟨l.toArray⟩ pos) w:=by simp[getObj,Sem.run,hb]
  have hsz:¬pos<(⟨l.toArray⟩:ByteArray).size:=by simpa[ByteArray.size]using hpos
  simp[Instr.next,cD,hgo,Result.andThen,hsz]
end
end Go.Vo
