/- Part. -/
import Derived.Test.YtcjcnfcedihckaaGreatDoorV06
set_option linter.all false
namespace Go.AM
def Bb(g:aM)(w:World)(σ : ae)(a:Act)(dst:Option Tmp)(K:AV->ae->Prop)(a':Act)(w':World): Prop :=
 ∃ v g' av σ',a'=a.put dst v/\Rel g' w' σ'/\ik σ g w σ' g' w'/\VR g' w' av v/\K av σ'
def FX(g:aM)(w:World)(σ : ae)(a:Act)(Kp:AV->ae->Prop)(ex:Exit)(a':Act)(w':World): Prop :=
 a'=a/\ ∃ v g' av σ',ex = .panic [{ v,recovered:=false }]/\Rel g' w' σ'/\ik σ g w σ' g' w'/\VR g' w' av v/\Kp av σ'
abbrev WF(ro:Option Nat): Fence:= { Fence.wide with round:=ro }
def H6(ro:Option Nat)(n:Nat): (WF ro).room n:=fun _ h=>by simp[WF,Fence.wide]at h
def PC{ro:Option Nat}{n:Nat}{P:Program}{f:FuncId}{args:Array Value}{w:World}{R:Ending->World->Prop}: CallsIn (WF ro) n P f args w R↔Calls P f args w R:=callsIn_wide (n:=n)
def yY(o:Oper): Prop:= ∀ c,o.op≠ .defer c
section
variable {P:Program} {g:aM} {w:World} {σ : ae} {K Kp:AV->ae->Prop} {ro:Option Nat} {wn:Nat}
def pR{o:Oper}{a:Act}{next:Act->World->Prop}{Q:Exit->Act->World->Prop}(gG:yY o)(h:o.uponIn (WF ro) wn P a next Q ((execOp a.eval o).run P w)): o.wpIn (WF ro) wn P a w next Q:=by
 refine⟨fun _ _=>trivial,?_⟩;rw[Oper.semAt_eq _ _ _ gG];exact h
def mh{o:Oper}{a:Act}{v:Value}{w':World}{next:Act->World->Prop}{Q:Exit->Act->World->Prop}(gG:yY o)(h:(execOp a.eval o).run P w = .ok (.value v) w')(hn:next (a.put o.dst v) w'): o.wpIn (WF ro) wn P a w next Q:=by
 refine pR gG ?_;rw[h];exact hn
def dO{o:Oper}{a:Act}{s:Sem Value}{Q:Exit->Act->World->Prop}(gG:yY o)(h:bQ P s g w σ K)(hs:execOp a.eval o=(do pure (.value (← s)):Sem Next)): o.wpIn (WF ro) wn P a w (Bb g w σ a o.dst K) Q:=by
 obtain⟨v,w',g',av,σ',h1,h2,h3,h4,h5⟩:=h;refine mh gG (v:=v) (w':=w') ?_ ⟨v,g',av,σ',rfl,h2,h3,h4,h5⟩;rw[hs];simp[h1]
def tK{o:Oper}{a:Act}{v:Value}{av:AV}{Q:Exit->Act->World->Prop}(gG:yY o)(hR:Rel g w σ)(hs:(execOp a.eval o).run P w = .ok (.value v) w)(hv:VR g w av v)(hk:K av σ): o.wpIn (WF ro) wn P a w (Bb g w σ a o.dst K) Q :=
 mh gG hs ⟨v,g,av,σ,rfl,hR,.refl _ _ _,hv,hk⟩
def wF{nt:Nat}{x:Option Operand}{ax:Option AX}{e:Env}{a:Act}(h:Px nt x=some ax)(hE:ic nt g w e a.tmps): vv g w (ax.map (AX.ev e)) (x.map a.eval):=by
 cases x with
 | none=>cases h;trivial
 | some x =>
   simp only[Px,aW]at h;obtain⟨b,h1,rfl⟩:=h;exact cG h1 hE
def sC {nt : Nat} {xs : Array Operand} {az : List AX} {e : Env} {a : Act} (h : A1 nt xs.toList = some az) (hE : ic nt g w e a.tmps) :
    (az.map (AX.ev e)).length=(xs.map a.eval).size/\ ∀ i,i<(az.map (AX.ev e)).length->VR g w ((az.map (AX.ev e)).getD i .undef) ((xs.map a.eval).getD i Go.undef):=by
 obtain⟨h1,h2⟩:=Xv h hE;refine⟨by simp[h1],fun i hi=>?_⟩;have:=h2 i (by simpa using hi);simpa using this
def FY {az bs : List AV} {us vs : Array Value} (h1 : az.length = us.size) (h2 : ∀ i, i < az.length -> VR g w (az.getD i .undef) (us.getD i Go.undef)) (h3 : bs.length = vs.size) (h4 : ∀ i, i < bs.length -> VR g w (bs.getD i .undef) (vs.getD i Go.undef)) :
    (az++bs).length=(us++vs).size/\ ∀ i,i<(az++bs).length->VR g w ((az++bs).getD i .undef) ((us++vs).getD i Go.undef):=by
 refine⟨by simp[h1,h3],fun i hi=>?_⟩;simp only[aC]at hi;by_cases h:i<az.length
 ·have:=h2 i h;have h5:i<us.size:=by omega
  simpa[aN h,fj h5]using this
 ·obtain⟨j,rfl⟩:∃ j,i=az.length+j:=⟨i-az.length,by omega⟩;have:=h4 j (by omega);rw[h1];have e1:(az++bs).getD (us.size+j) .undef=bs.getD j .undef:=by rw[<-h1];simp[cB]
  have e2:(us++vs).getD (us.size+j) Go.undef=vs.getD j Go.undef:=by
   rw[fT,Array.getElem?_append_right (by omega)];simp
  rw[e1,e2];exact this
def SV{f:AX}{args:List AX}{e:Env}{K Kp:AV->ae->Prop}(h:(br.mJ f args).run P e σ K Kp): (br.call false f args).run P e σ K Kp:=by
 simp only[br.run]at *;split at h
 ·rename_i n hf;unfold CL at h;split at h
  ·rename_i a r ha;obtain⟨l,ob,lI,r,_,_,_,h4,h5⟩:=h;simp only[hf,Bool.false_eq_true,if_false,dB,List.append_nil];exact h4.mono fun o s ⟨e1,e2⟩=>by subst e1;subst e2;exact h5
  ·exact h.elim
 ·exact h.elim
def Q6{m q:Bool}{f:AX}{args:List AX}{e:Env}{K Kp:AV->ae->Prop}(h:(SA m q f args).run P e σ K Kp): ∃ q,(br.call q f args).run P e σ K Kp:=by
 cases m
 ·exact⟨q,h⟩
 ·exact⟨false,SV h⟩
def Vf{l:List (Nat × El)}{m q:Bool}{f:AX}{args:List AX}{e:Env}{K Kp:AV->ae->Prop}(h:(U8 l m q f args).run P e σ K Kp): ∃ q,(br.call q f args).run P e σ K Kp:=by
 unfold U8 at h;split at h
 ·rename_i l p l' n;refine⟨false,?_⟩
  have hk:∃ r σ2,dK P n ((args.map (AX.ev e))) σ (fun o σ'=>o = .ret r/\σ' = σ2)/\K r σ2:=by
   replace h:fI.run P (.cw n args.length _) ((args++_).map (AX.ev e)) σ K Kp:=h
   rw[ek]at h;generalize hz:args.map (AX.ev e)++_=zs at h;cases zs with
   | nil=>exact h.elim
   | cons z zs =>
     obtain⟨r,s2,h1,_,h3⟩:=h;rw[<-hz,List.take_append_of_le_length (by simp),aT (by simp)]at h1;exact⟨r,s2,h1,h3⟩
  obtain⟨r,s2,h1,h3⟩:=hk;simp only[br.run,AX.ev,Bool.false_eq_true,if_false,dB,List.append_nil];exact h1.mono fun o s ⟨e1,e2⟩=>by subst e1;subst e2;exact h3
 ·exact Q6 h
def Vg{p:Bool}{l:List (Nat × El)}{m q:Bool}{f:AX}{args:List AX}{e:Env}{K Kp:AV->ae->Prop}(h:(U9 p l m q f args).run P e σ K Kp): ∃ q,(br.call q f args).run P e σ K Kp:=by
 unfold U9 at h;split at h
 ·rename_i n;refine⟨false,?_⟩;obtain⟨o,h1,h2⟩:∃ o,(∀ s,dK P n (args.map (AX.ev e)) s fun o' s'=>o'=o/\s'=s)/\YI (fun r=>K r σ) (fun v=> ∀ s,Kp v s) o:=h;simp only[br.run,AX.ev,Bool.false_eq_true,if_false,dB,List.append_nil];refine(h1 σ).mono fun o' s ⟨e1,e2⟩=>?_;subst e1;subst e2;cases o' with
  | ret r=>exact h2
  | panic v=>exact h2 _
 ·exact Vf h
def PD {o : Oper} {a : Act} {f : FuncId} {vs : Array Value} {args : List AV} (gG : yY o) (hex : (execOp a.eval o).run P w = .ok (.enter f vs) w) (hR : Rel g w σ) (hl : args.length = vs.size)
    (h : ∀ i, i < args.length -> VR g w (args.getD i .undef) (vs.getD i Go.undef)) (hc : dK P f args σ fun
      | .ret r,σ'=>K r σ'
      | .panic r,σ'=>Kp r σ'):o.wpIn (WF ro) wn P a w (Bb g w σ a o.dst K) (FX g w σ a Kp):=by
 refine pR gG ?_;rw[hex];refine⟨fun h=>by simp[WF,Fence.wide]at h,PC.2 ((hc.2 g w vs hR hl h).mono ?_)⟩;rintro e w' ⟨out,g',σ',h1,h2,h3,h4⟩;cases out with
 | ret r =>
   cases e with
   | returned v=>exact⟨v,g',r,σ',rfl,h1,h2,h3,h4⟩
   | panicked c=>exact h3.elim
   | outgrown=>exact h3.elim
 | panic r =>
   cases e with
   | returned v=>exact h3.elim
   | panicked c=>obtain⟨v,rfl,h3⟩:=h3;exact⟨rfl,v,g',r,σ',rfl,h1,h2,h3,h4⟩
   | outgrown=>exact h3.elim
def Vh {o : Oper} {a : Act} {l b : Nat} {vs : Array Value} {args : List AV} (gG : yY o) (hex : (execOp a.eval o).run P w = (Instr.yield b vs).run P w) (hR : Rel g w σ) (hb : g.ver l = 0 -> g.base l = some b) (hl : args.length = vs.size)
    (h : ∀ i, i < args.length -> VR g w (args.getD i .undef) (vs.getD i Go.undef)) (hc : tE P l args σ fun
      | .ret r,σ'=>K r σ'
      | .panic r,σ'=>Kp r σ'):o.wpIn (WF ro) wn P a w (Bb g w σ a o.dst K) (FX g w σ a Kp):=by
 refine pR gG ?_;obtain⟨⟨nt,e,ps,ca,cb,st,pe,ho⟩,hc⟩:=hc;have mD:=(hR.ok l _ ho).1;obtain⟨fn,tmps,ca,cb,r1,r2⟩:=hc g w vs b hR (hb mD) hl h;rw[hex,r1];refine⟨fun h=>by simp[WF,Fence.wide]at h,?_⟩;have r3:RoundIn (WF ro) (wn-1) P b fn tmps ca cb w _:=⟨trivial,fun c cs _=>r2.2 c cs (room_wide _)⟩;refine r3.mono ?_;rintro e w' ⟨out,g',σ',h1,h2,h3,h4⟩;cases out with
 | ret r =>
   cases e with
   | returned v=>exact⟨v,g',r,σ',rfl,h1,h2,h3,h4⟩
   | panicked c=>exact h3.elim
   | outgrown=>exact h3.elim
 | panic r =>
   cases e with
   | returned v=>exact h3.elim
   | panicked c=>obtain⟨v,rfl,h3⟩:=h3;exact⟨rfl,v,g',r,σ',rfl,h1,h2,h3,h4⟩
   | outgrown=>exact h3.elim
def L0{f:FuncId}(h:Has P f)(args:Array Value)(w:World): (callFunc f args).run P w = .ok (.enter f args) w:=by
 obtain⟨fn,h1,h2,h3⟩:=h;have h4:fn.body.isNone=false:=by cases hb:fn.body<;>simp_all
 simp only[callFunc,Sem.run_bind,run_program,Result.andThen_ok,h1,h3,h4,Bool.false_eq_true,if_false,Sem.run_pure]
def L1 {nt : Nat} {h : Hints} {dr : Bool} {o : Oper} {ao : br} {e : Env} {a : Act} (hc : tH P nt h dr o = some ao) (hR : Rel g w σ) (hE : ic nt g w e a.tmps) (hK : ao.run P e σ K Kp) :
    o.wpIn (WF ro) wn P a w (Bb g w σ a o.dst K) (FX g w σ a Kp):=by
 have gG:yY o:=fun c hop=>by simp[tH,hop]at hc
 unfold tH at hc;cases hop:o.op<;>simp only[hop]at hc<;>(try (cases hc;done))
 case move x =>
  simp only[aW]at hc;obtain⟨ax,h1,rfl⟩:=hc;by_cases hb:(!dr && U7 o.dst h.QJ)=true
  ·rw[if_pos hb]at hK;exact dO gG (SS (P:=P) hR (cG h1 hE) hK) (by simp[execOp,hop])
  ·rw[if_neg hb]at hK;exact tK gG hR (by simp[execOp,hop]) (cG h1 hE) hK
 case assign x =>
  have mv:∀ ax,cX nt x=some ax->br.run P (.mv ax) e σ K Kp->o.wpIn (WF ro) wn P a w (Bb g w σ a o.dst K) (FX g w σ a Kp):=fun ax h1 hK =>
   tK gG hR (by simp[execOp,hop]) (cG h1 hE) hK
  split at hc
  ·rename_i el hel;split at hc
   ·rename_i yZ;cases hc
    have hx:a.eval x = .slice none 0 0:=by
     cases x with
     | const v =>
       cases v with
       | slice p l c =>
         cases p with
         | none=>simp[qV]at yZ;obtain⟨rfl,rfl⟩:=yZ;rfl
         | some p=>simp[qV]at yZ
       | _=>simp[qV]at yZ
     | _=>simp[qV]at yZ
    obtain⟨r1,r2⟩:=hR.jI el;refine mh gG (v:= .slice none 0 0) (w':=w) (by simp[execOp,hop,hx]) ⟨_,_,_,_,rfl,r1,r2,.own _ _ _ _ _ _ ⟨by simp[aM.push,hR.len],bD _,_,_,rfl,fun _=>⟨by omega,by simp[aM.push,hR.len],fun h=>by simp[aM.push,hR.len]at h⟩⟩,hK⟩
   ·simp only[aW]at hc;obtain⟨ax,h1,rfl⟩:=hc;exact mv ax h1 hK
  ·simp only[aW]at hc;obtain⟨ax,h1,rfl⟩:=hc;exact mv ax h1 hK
 case pick c x y =>
  split at hc
  ·rename_i ac ax ay h1 h2 h3;cases hc;have hv:=cG h1 hE;simp only[br.run]at hK;generalize AX.ev e ac=z at hv hK;generalize hev:a.eval c=cv at hv;cases hv<;>simp only at hK;rename_i t;refine tK gG (v:=if t then a.eval x else a.eval y) hR (by simp[execOp,hop,hev,asBool]) ?_ hK;cases t
   ·exact cG h3 hE
   ·exact cG h2 hE
  ·cases hc
 case alloc t =>
  split at hc
  ·rename_i z hz;split at hc
   ·simp only[Option.some.injEq]at hc;subst hc;exact dO gG (N8 (A2 _ _) hR hz hK) (by simp[execOp,hop])
   ·cases hc
  ·cases hc
 case box t x =>
  simp only[aW]at hc;obtain⟨ax,h1,h2⟩:=hc;split at h2<;>subst h2<;>simp only[br.run]at hK
  ·exact dO gG (QL (t:=t) hR (cG h1 hE) hK.1 hK.2) (by simp[execOp,hop])
  ·exact dO gG (SB (t:=t) hR (cG h1 hE) hK.1 hK.2) (by simp[execOp,hop])
 case build t parts =>
  split at hc
  ·rename_i z fs hz hu;split at hc
   ·rename_i hh;simp only[aD]at hh;simp only[aW]at hc;obtain⟨ps,h1,rfl⟩:=hc;exact dO gG (A7 hR hE hz hh.2 hu hh.1 h1 hK) (by simp[execOp,hop])
   ·cases hc
  ·rename_i z n el hz hu;split at hc
   ·rename_i hh;simp only[aD,eM]at hh;obtain⟨⟨fi,hi⟩,_⟩:=hh;simp only[aW]at hc;obtain⟨ps,h1,rfl⟩:=hc;exact dO gG (C8 hR hE hz hu hi h1 hK) (by simp[execOp,hop])
   ·cases hc
  ·cases hc
 case buildSlice t n parts =>
  split at hc
  ·rename_i el hu;split at hc
   ·rename_i bz z he hz;split at hc
    ·rename_i hh;simp only[aD,decide_eq_true_eq]at hh;simp only[aW]at hc;obtain⟨ps,h1,rfl⟩:=hc;exact dO gG (LY hR hE hu he hz hh.1 hh.2 h1 hK) (by simp[execOp,hop])
    ·cases hc
   ·cases hc
  ·cases hc
 case load t x =>
  split at hc
  ·rename_i ag i ax hA hi h1;split at hc
   ·rename_i hh;cases hc;exact dO gG (QO hR hA hi (fun e=>by simpa[e]using hh) (cG h1 hE) hK) (by simp[execOp,hop])
   ·cases hc
  ·cases hc
 case store t x y =>
  split at hc
  ·rename_i i ax ay hi h1 h2;cases hc;obtain⟨w',g',σ',r1,r2,r3,r4⟩:=N_ (P:=P) hR hi (cG h1 hE) (cG h2 hE) hK;refine pR gG ?_;have:(execOp a.eval o).run P w = .ok .skip w':=by simp[execOp,hop,r1]
   rw[this];exact⟨_,g',.bJ [],σ',rfl,r2,r3,.bJ [] #[] rfl (fun i hi=>absurd hi (dL _)),r4⟩
  ·cases hc
 case nilCheck x =>
  simp only[aW]at hc;obtain⟨ax,h1,rfl⟩:=hc;obtain⟨v,w',g',av,σ',r1,r2,r3,r4,r5⟩:=Oc (P:=P) (K:=K) hop rfl hR (cG h1 hE) hK;exact mh gG r1 ⟨v,g',av,σ',rfl,r2,r3,r4,r5⟩
 case binOp op t x y yt =>
  have hs:∀ {K:AV->ae->Prop},bQ P (do eqGuard op t x y (a.eval x) (a.eval y);binOp op t (a.eval x) (a.eval y)) g w σ K->o.wpIn (WF ro) wn P a w (Bb g w σ a o.dst K) (FX g w σ a Kp):=fun hh =>
   dO gG hh (by simp[execOp,hop])
  split at hc
  ·rename_i ax ay h1 h2;have v1:=cG h1 hE;have v2:=cG h2 hE;split at hc
   ·cases hc;exact hs (FT hR v1 v2 hK)
   ·cases hc;exact hs (FT hR v1 v2 hK)
   ·rename_i d _ _ hu;split at hc
    ·rename_i k hk;split at hc
     ·split at hc
      ·rename_i te _ hpt;split at hc
       ·rename_i i _ hi;cases hc;exact hs (JK (op:= .eql) (.inl ⟨rfl,rfl⟩) hR hu hi v1 v2 hK)
       ·rename_i i _ hi;cases hc;exact hs (JK (op:= .neq) (.inr ⟨rfl,rfl⟩) hR hu hi v1 v2 hK)
       ·cases hc
      ·cases hc
     split at hc
     ·rename_i hn;simp only[cz]at hn;split at hc
      ·cases hc;refine hs (Dp (op:= .eql) (.inl rfl) hR hu hk hn v1 v2 ?_);simp only[br.run]at hK;generalize nh k (AX.ev e ax) (AX.ev e ay)=r at hK ⊢;cases r<;>exact hK
      ·cases hc;refine hs (Dp (op:= .neq) (.inr rfl) hR hu hk hn v1 v2 ?_);simp only[br.run]at hK;generalize nh k (AX.ev e ax) (AX.ev e ay)=r at hK ⊢;cases r<;>exact hK
      ·cases hc
     ·cases hc
    ·split at hc
     ·rename_i ks ag i hf hA hi;split at hc
      ·rename_i hh;simp only[aD,beq_iff_eq,cz,bW]at hh
       have hg:ag=true->P.eqGuardType P.depth t=false:=fun e=>by
        rcases hh.2 with h|h
        ·rw[e]at h;cases h
        ·exact h
       split at hc
       ·cases hc;exact hs (JF (op:= .eql) (.inl rfl) hR hf hA hi hh.1 hg v1 v2 hK)
       ·cases hc;exact hs (JF (op:= .neq) (.inr rfl) hR hf hA hi hh.1 hg v1 v2 hK)
       ·cases hc
      ·cases hc
     ·cases hc
   ·cases hc
  ·cases hc
 case unOp op t x =>
  simp only[aW]at hc;obtain⟨ax,h1,rfl⟩:=hc;exact dO gG (U_ hR (cG h1 hE) hK) (by simp[execOp,hop])
 case convert s d x =>
  have hs:bQ P (convert s d (a.eval x)) g w σ K->o.wpIn (WF ro) wn P a w (Bb g w σ a o.dst K) (FX g w σ a Kp):=fun hh=>dO gG hh (by simp[execOp,hop]);split at hc
  ·rename_i k' k ax hs1 xP h1;cases hc;exact hs (QS hR hs1 xP (cG h1 hE) hK)
  ·rename_i ax hs1 xP h1;cases hc;have v1:=cG h1 hE;simp only[br.run]at hK;generalize AX.ev e ax=z at v1 hK;cases z<;>simp only at hK;exact hs (SD hR hs1 xP v1 ⟨_,rfl⟩ hK)
  ·rename_i el ax hs1 xP h1;split at hc
   ·rename_i i he hi;split at hc
    ·cases hc;have v1:=cG h1 hE;obtain⟨hn,hK⟩:=hK;refine hs (SN hR hs1 xP he v1 hK ?_);generalize AX.ev e ax=z at v1 hn hK;generalize a.eval x=xv at v1;cases v1<;>simp only[fZ]at hK hn
     ·exact⟨_,_,_,rfl⟩
     ·exact⟨_,_,_,rfl⟩
     ·exact⟨_,_,_,rfl⟩
     ·rename_i h;obtain⟨_,_,A,cap,rfl,_⟩:=h;exact⟨_,_,_,rfl⟩
     ·exact⟨_,_,_,rfl⟩
    ·cases hc
   ·cases hc
  ·rename_i t ax hs1 xP h1;split at hc
   ·rename_i i hi;split at hc
    ·cases hc
    ·rename_i h0;cases hc;exact hs (SQ hR hs1 xP hi (by simpa using h0) (cG h1 hE) hK)
   ·cases hc
  ·rename_i t ax hs1 xP h1;split at hc
   ·rename_i i hi;cases hc;exact hs (SR hR hs1 xP hi (cG h1 hE) hK)
   ·cases hc
  ·cases hc
 case makeInterface t x =>
  split at hc
  ·cases hc
  ·cases hc
  ·rename_i d h1 h2;simp only[aW]at hc;obtain⟨ax,h3,rfl⟩:=hc;cases hu:P.underlying t with
   | none=>exact absurd hu h2
   | some d=>exact dO gG (Od hR hu (fun ms e=>h1 ms (by rw[hu,e])) (cG h3 hE) hK) (by simp[execOp,hop])
 case makeFunc fn first cap =>
  split at hc
  ·rename_i az bs h1 h2;cases hc;obtain⟨a1,a2⟩:=sC h1 hE;obtain⟨b1,b2⟩:=sC h2 hE;exact tK gG (v:= .func fn (first.map a.eval) (cap.map a.eval)) hR (by simp[execOp,hop,Instr.makeFunc]) (.fn fn _ _ _ _ a1 b1 a2 b2) hK
  ·cases hc
 case slice t x lo hi mx =>
  split at hc
  ·rename_i ax al ah am h1 h2 h3 h4;have v1:=cG h1 hE
   have hm:am=none->mx=none:=fun e=>by
    cases mx with
    | none=>rfl
    | some m=>simp only[Px,Option.map_eq_some_iff]at h4;obtain⟨b,_,rfl⟩:=h4;cases e
   split at hc
   ·rename_i hu;split at hc
    ·rename_i hn;cases hc;have:mx=none:=hm (by simpa using hn);subst this;exact dO gG (SE hR hu v1 (wF h2 hE) (wF h3 hE) hK) (by simp[execOp,hop])
    ·cases hc
   ·rename_i el hu;split at hc
    ·simp only[aW]at hc;obtain⟨bz,he,rfl⟩:=hc;have:mx=none:=hm rfl;subst this;refine dO gG (SH hR hu he v1 (wF h2 hE) (wF h3 hE) ?_) (by simp[execOp,hop]);simp only[br.run]at hK;clear v1;generalize AX.ev e ax=z at hK ⊢;cases z<;>exact hK
    ·cases hc
   ·cases hc
  ·cases hc
 case fieldAddr s x f =>
  split at hc
  ·rename_i fs ax hu h1;simp only[Option.bind_eq_some_iff]at hc;obtain⟨fi,hf,hc⟩:=hc;split at hc
   ·cases hc
   ·rename_i h0;cases hc;cases hi:P.info? fi.type with
    | none=>simp[hi]at h0
    | some i=>exact dO gG (Ob hR hu hf hi (by simpa[hi]using h0) (cG h1 hE) hK) (by simp[execOp,hop])
  ·cases hc
 case field s x f =>
  split at hc
  ·rename_i fs ax hu h1;simp only[Option.bind_eq_some_iff]at hc;obtain⟨fi,hf,hc⟩:=hc;split at hc
   ·rename_i ag i hA hi;split at hc
    ·cases hc;exact dO gG (Oa hR hu hf hA hi (cG h1 hE) hK) (by simp[execOp,hop])
    ·cases hc
   ·cases hc
  ·cases hc
 case indexAddr t x y =>
  split at hc
  ·rename_i el ax ay hu h1 h2;simp only[aW]at hc;obtain⟨bz,he,rfl⟩:=hc;refine dO gG (LV hR hu he (cG h1 hE) (cG h2 hE) ?_) (by simp[execOp,hop]);simp only[br.run]at hK;generalize AX.ev e ax=z at hK ⊢;generalize AX.ev e ay=z' at hK ⊢;cases z'<;>simp only at hK ⊢;cases z<;>exact hK
  ·rename_i n el ax ay hu h1 h2;simp only[aW]at hc;obtain⟨bz,he,rfl⟩:=hc;refine dO gG (LW hR hu he (cG h1 hE) (cG h2 hE) ?_) (by simp[execOp,hop]);simp only[br.run]at hK;generalize AX.ev e ax=z at hK ⊢;generalize AX.ev e ay=z' at hK ⊢;cases z'<;>simp only at hK ⊢;cases z<;>exact hK
  ·cases hc
 case index t x y =>
  split at hc
  ·rename_i ax ay hu h1 h2;cases hc;exact dO gG (QU hR hu (cG h1 hE) (cG h2 hE) hK) (by simp[execOp,hop])
  ·rename_i n el ax ay hu h1 h2;simp only[aW]at hc;obtain⟨bz,he,rfl⟩:=hc;exact dO gG (QV hR hu he (cG h1 hE) (cG h2 hE) hK) (by simp[execOp,hop])
  ·cases hc
 case extract x i =>
  simp only[aW]at hc;obtain⟨ax,h1,rfl⟩:=hc;exact dO gG (KD hR (cG h1 hE) hK) (by simp[execOp,hop])
 case makeSlice t l c =>
  split at hc
  ·rename_i el al ac hu h1 h2;split at hc
   ·rename_i bz z he hz;cases hc;exact dO gG (KG hR hu he hz (cG h1 hE) (cG h2 hE) hK) (by simp[execOp,hop])
   ·cases hc
  ·cases hc
 case range t x =>
  split at hc
  ·rename_i ht;simp only[aW]at hc;obtain⟨ax,h1,rfl⟩:=hc;have hv:=cG h1 hE;simp only[br.run]at hK;generalize AX.ev e ax=z at hv hK;generalize hev:a.eval x=xv at hv;cases hv<;>simp only at hK;rename_i s;obtain⟨r1,r2⟩:=hR.yK (.stringIter ⟨s.toArray⟩ 0) (.iO s 0) 1 0 ⟨by simp[aM.push],w.heap.size,by simp[aM.push],heap_alloc_new w _⟩;refine mh gG (v:= .pointer (some ⟨w.heap.size,0,none⟩)) (w':=w.alloc (.stringIter ⟨s.toArray⟩ 0)) ?_ ⟨_,_,_,_,rfl,r1,r2,.ref _ _ _ ⟨by simp[aM.push,hR.len],_,rfl,fun _=>⟨by simp[aM.push,hR.len],rfl⟩⟩,hK⟩;simp[execOp,hop,hev,Instr.range,a_ ht,newObj,Sem.run]
  ·cases hc
 case next x b =>
  split at hc
  ·rename_i hb;simp only[aW]at hc;obtain⟨ax,h1,rfl⟩:=hc;have hv:=cG h1 hE;simp only[br.run]at hK;generalize AX.ev e ax=z at hv hK;split at hK
   ·split at hK
    ·rename_i l _ s pos hl;generalize hev:a.eval x=xv at hv;cases hv with
     | ref _ _ _ hO =>
       obtain⟨_,A,rfl,h2⟩:=hO;obtain⟨mD,bb,sk,eN⟩:=hR.ok l _ hl;obtain⟨h3,h4⟩:=h2 mD;rw[sk]at h3;cases h3;have hsz:(⟨s.toArray⟩:ByteArray).size=s.length:=rfl;split at hK
       ·rename_i hlt
        have hup:=hR.update (o':= .iO s (pos+(Utf8.decode ⟨s.toArray⟩ pos).2)) (w':= { w with heap:=w.heap.setIfInBounds A.block (.stringIter ⟨s.toArray⟩ (pos+(Utf8.decode ⟨s.toArray⟩ pos).2)) }) hl rfl sk
         (by simp) rfl rfl rfl (fun c hc=>by simp[Array.getElem?_setIfInBounds,Ne.symm hc]) (fun _=>⟨mD,_,sk,by have:=(dG.1 eN).1;simp[this]⟩)
        refine mh gG ?_ ⟨_,g,_,_,rfl,hup.1,hup.2,.bJ _ #[.bool true,.int .i64 pos,.int .i32 (Utf8.decode ⟨s.toArray⟩ pos).1] rfl (fun i hi=>?_),hK⟩
        ·rw[h4]at hev;have Vi:pos<(⟨s.toArray⟩:ByteArray).size:=hlt;simp only[execOp,hop,hev,Instr.next,getObj,setObj,Sem.run_bind,Sem.run,eN,Result.andThen,hb,Vi,if_true];have:=(dG.1 eN).1;simp[this,goInt]
        ·match i,hi with
         | 0,_=>exact .bool true
         | 1,_=>exact .int _ _
         | 2,_=>exact .int _ _
       ·rename_i hlt;refine mh gG (v:= .tuple #[.bool false]) (w':=w) ?_ ⟨_,g,_,_,rfl,hR,.refl _ _ _,.bJ _ _ rfl (fun i hi=>?_),hK⟩
        ·rw[h4]at hev;have Vi:¬ pos<(⟨s.toArray⟩:ByteArray).size:=hlt;simp only[execOp,hop,hev,Instr.next,getObj,setObj,Sem.run_bind,Sem.run,eN,Result.andThen,hb,Vi,if_false];rfl
        ·match i,hi with
         | 0,_=>exact .bool false
    ·exact hK.elim
   ·exact hK.elim
  ·cases hc
 case typeAssert x xt T ok =>
  split at hc
  ·cases hc
  ·cases hc
  ·rename_i d hd hu;split at hc
   ·rename_i ax z h1 hz;cases hc;exact dO gG (SU (xt:=xt) hR hu (fun l e=>hd l e) hz (cG h1 hE) hK) (by simp[execOp,hop])
   ·cases hc
 case panic x =>
  simp only[aW]at hc;obtain⟨ax,h1,rfl⟩:=hc;have v1:=cG h1 hE;simp only[br.run]at hK;generalize AX.ev e ax=z at v1 hK;generalize hev:a.eval x=xv at v1;cases v1<;>simp only at hK;rename_i t b v h;refine pR gG ?_;have:(execOp a.eval o).run P w = .halt (.panic (.iface t v)) w:=by simp[execOp,hop,hev,Instr.panic]
  rw[this];exact⟨rfl,.iface t v,g,.j6 t b,σ,rfl,hR,.refl _ _ _,.j6 t b v h,hK⟩
 case call c =>
  obtain⟨callee,args,ats⟩:=c;simp only at hc;cases callee with
  | invoke r m =>
    simp only at hc;cases hc
  | value f =>
    simp only at hc;split at hc
    ·rename_i gf ax h0 h2;cases hc;obtain⟨⟨fn,hf,hn,hb,pD,qG⟩,hK⟩:=hK
     have hfg:f = .func gf:=by
      cases f with
      | func f =>
        simp only[WE]at h0;split at h0
        ·split at h0
         ·cases h0;rfl
         ·cases h0
        ·cases h0
      | _=>cases h0
     subst hfg
     have hargs:∃ x0,args = #[x0]/\cX nt x0=some ax:=by
      cases hl:args.toList with
      | nil=>rw[hl]at h2;cases h2
      | cons x0 r =>
        rw[hl]at h2;simp only[A1]at h2;split at h2
        ·rename_i a1 az1 e1 e2;cases h2;cases r with
         | nil=>exact⟨x0,by rw[<-e6 (xs:=args),hl],e1⟩
         | cons x1 r =>
           simp only[A1]at e2;split at e2<;>cases e2
        ·cases h2
     obtain⟨x0,rfl,hx0⟩:=hargs;have v1:=cG hx0 hE;refine tK gG hR (v:=a.eval x0) ?_ v1 hK;simp only[execOp,hop,resolve,Sem.run_bind,Act.eval,Deferred.ofValue,Sem.run_pure,Result.andThen_ok,invoke];simp only[List.map_toArray,aR,bu,List.append_toArray,dB,List.append_nil];rw[run_callFunc_extern hf hn hb pD qG];rfl
    ·rename_i af az h1 h2 _
     have key:∃ q,(br.call q af az).run P e σ K Kp:=by
      cases hc;exact Vg hK
     clear hc hK;obtain⟨qq,hK⟩:=key;have v1:=cG h1 hE;simp only[br.run]at hK;generalize AX.ev e af=z at v1 hK;generalize hev:a.eval f=fv at v1;by_cases JL:∃ l,z = .si l
     ·obtain⟨l,rfl⟩:=JL;cases v1;rename_i hy;obtain⟨hl,b,rfl,hb⟩:=hy;obtain⟨a1,a2⟩:=sC h2 hE;simp only at hK
      have both:∀ q:Bool,(if q then False else tE P l (az.map (AX.ev e)) σ fun
       | .ret r,σ'=>K r σ'
       | .panic r,σ'=>Kp r σ')->o.wpIn (WF ro) wn P a w (Bb g w σ a o.dst K) (FX g w σ a Kp):=fun q hK=>by
       cases q with
       | true=>exact(by simpa using hK:False).elim
       | false =>
       simp only[Bool.false_eq_true,if_false]at hK;refine Vh gG (b:=b) (vs:=args.map a.eval) ?_ hR hb a1 a2 hK;simp only[execOp,hop,resolve,Sem.run_bind,hev,Deferred.ofValue,Sem.run_pure,Result.andThen_ok,invoke];simp
      exact both _ hK
     cases v1<;>(try exact hK.elim)
     case si=>exact absurd ⟨_,rfl⟩ JL
     rename_i fn first cap first' cap' hl hl' hh SG
     cases fn<;>(try exact hK.elim);rename_i n;simp only at hK;obtain⟨a1,a2⟩:=sC h2 hE;obtain⟨b1,b2⟩:=FY hl hh a1 a2;obtain⟨c1,c2⟩:=FY b1 b2 hl' SG
     have hex:Has P n->(execOp a.eval o).run P w = .ok (.enter n (first'++args.map a.eval++cap')) w:=fun hb=>by
      simp only[execOp,hop,resolve,Sem.run_bind,hev,Deferred.ofValue,Sem.run_pure,Result.andThen_ok,invoke,L0 hb]
     have both:∀ q:Bool,(if q then ∃ r,(∀ τ,wB P n (first++az.map (AX.ev e)++cap) (σ++ τ) r)/\K r σ else dK P n (first++az.map (AX.ev e)++cap) σ fun
      | .ret r,σ'=>K r σ'
      | .panic r,σ'=>Kp r σ')->o.wpIn (WF ro) wn P a w (Bb g w σ a o.dst K) (FX g w σ a Kp):=fun q hK=>by
      cases q with
      | true =>
        simp only[if_true]at hK;obtain⟨r,hq,hk⟩:=hK;have hq:=hq [];rw[List.append_nil]at hq;exact PD gG (hex hq.1) hR c1 c2 (hq.mono fun out σ' ⟨h1,h2⟩=>by subst h1;subst h2;exact hk)
      | false =>
        simp only[Bool.false_eq_true,if_false]at hK;exact PD gG (hex hK.1) hR c1 c2 hK
     exact both _ hK
    ·cases hc
  | builtin b =>
    have hs:∀ {s:Sem Value} {K:AV->ae->Prop},bQ P s g w σ K->builtin b ats o.type (args.map fun | .const _=>true|_=>false) (args.map a.eval)=(do pure (.value (← s)):Sem Next)->o.wpIn (WF ro) wn P a w (Bb g w σ a o.dst K) (FX g w σ a Kp):=fun hh hb=>by
     refine dO gG hh ?_;simp only[execOp,hop,resolve];exact hb
    cases b<;>simp only at hc<;>(try (cases hc;done))
    case len =>
     split at hc
     ·rename_i t x ht hx;have hargs:args = #[x]:=by rw[<-e6 (xs:=args),hx]
      subst hargs;split at hc
      ·rename_i hu;simp only[aW]at hc;obtain⟨ax,h1,rfl⟩:=hc;refine hs (s:=Builtin.len_ ats o.type #[a.eval x]) (QW hR ht hu (cG h1 hE) ?_) (by simp[builtin]);simp only[br.run]at hK;generalize AX.ev e ax=z at hK ⊢;cases z<;>exact hK
      ·rename_i el hu;simp only[aW]at hc;obtain⟨ax,h1,rfl⟩:=hc;refine hs (s:=Builtin.len_ ats o.type #[a.eval x]) (QX hR ht hu (cG h1 hE) ?_) (by simp[builtin]);simp only[br.run]at hK;generalize AX.ev e ax=z at hK ⊢;cases z<;>exact hK
      ·cases hc
     ·cases hc
    case append =>
     split at hc
     ·rename_i t u x y ht hu hx;have hargs:args = #[x,y]:=by rw[<-e6 (xs:=args),hx]
      subst hargs;split at hc
      ·rename_i el bz ax ay YW YX h1 h2;simp only[aW]at hc;obtain⟨el2,he,rfl⟩:=hc;exact hs (s:=Builtin.append_ ats o.type #[a.eval x,a.eval y]) (JI hR ht hu YW YX (by simp) he (cG h1 hE) (cG h2 hE) (A2 _ _) hK) (by simp[builtin])
      ·rename_i el ax ay YW YX h1 h2;simp only[aW]at hc;obtain⟨el2,he,rfl⟩:=hc;exact hs (s:=Builtin.append_ ats o.type #[a.eval x,a.eval y]) (JI hR ht hu YW YX (by simp) he (cG h1 hE) (cG h2 hE) (A2 _ _) hK) (by simp[builtin])
      ·cases hc
     ·cases hc
    case unsafeSliceData =>
     split at hc
     ·rename_i t x ht hx;have hargs:args = #[x]:=by rw[<-e6 (xs:=args),hx]
      subst hargs;split at hc
      ·rename_i el ax hu h1;simp only[aW]at hc;obtain⟨el2,he,rfl⟩:=hc;exact hs (s:=Builtin.unsafeSliceData_ ats o.type #[a.eval x]) (SP hR (cG h1 hE) hK) (by simp[builtin])
      ·cases hc
     ·cases hc
    case unsafeString =>
     split at hc
     ·rename_i t t2 x y ht hx;have hargs:args = #[x,y]:=by rw[<-e6 (xs:=args),hx]
      have acG:ats = #[t,t2]:=by rw[<-e6 (xs:=ats),ht]
      subst hargs;subst acG;split at hc
      ·rename_i e1 ax ay hu h1 h2;split at hc
       ·rename_i hce;cases hc;exact hs (s:=Builtin.unsafeString_ #[t,t2] o.type #[a.eval x,a.eval y]) (Q5 hR hu (by simpa using hce) (cG h1 hE) (cG h2 hE) hK) (by simp[builtin])
       ·cases hc
      ·cases hc
     ·cases hc
    case min =>
     split at hc
     ·rename_i ax az h1;cases hc;obtain⟨a1,a2⟩:=sC h1 hE;cases hl:args.toList with
      | nil=>rw[hl]at h1;cases h1
      | cons x xs =>
        have hargs:args=(x::xs).toArray:=by rw[<-e6 (xs:=args),hl]
        subst hargs;have v0:=a2 0 (by simp);refine hs (s:=Builtin.min_ ats o.type (a.eval x::xs.map a.eval).toArray) (SI (x:=ax.ev e) (xs:=az.map (AX.ev e)) hR (by simpa using v0) (by simpa using a1) (fun i hi=>by simpa using a2 (i+1) (by simpa using hi)) hK) (by simp[builtin])
     ·cases hc
    case max =>
     split at hc
     ·rename_i ax az h1;cases hc;obtain⟨a1,a2⟩:=sC h1 hE;cases hl:args.toList with
      | nil=>rw[hl]at h1;cases h1
      | cons x xs =>
        have hargs:args=(x::xs).toArray:=by rw[<-e6 (xs:=args),hl]
        subst hargs;have v0:=a2 0 (by simp);refine hs (s:=Builtin.max_ ats o.type (a.eval x::xs.map a.eval).toArray) (SJ (x:=ax.ev e) (xs:=az.map (AX.ev e)) hR (by simpa using v0) (by simpa using a1) (fun i hi=>by simpa using a2 (i+1) (by simpa using hi)) hK) (by simp[builtin])
     ·cases hc
end
