/- Part. -/
import Derived.Test.YtcjcnfcedihckaaGreatDoorW08
set_option linter.all false
set_option maxHeartbeats 1000000
namespace Go.AM
def x3(g:aJ)(w:World)(σ : ae)(a:Act)(dst:Option Tmp)(K:AV->ae->Prop)(a':Act)(w':World): Prop :=
 ∃ v g' av σ',a'=a.put dst v/\Rel g' w' σ'/\fC σ g w σ' g' w'/\VR g' w' av v/\K av σ'
def Bj(g:aJ)(w:World)(σ : ae)(a:Act)(Kp:AV->ae->Prop)(ex:Exit)(a':Act)(w':World): Prop :=
 a'=a/\ ∃ v g' av σ',ex = .panic [{ v,recovered:=false }]/\Rel g' w' σ'/\fC σ g w σ' g' w'/\VR g' w' av v/\Kp av σ'
abbrev WF(ro:Option Nat): Fence:= { Fence.wide with round:=ro }
def IY(ro:Option Nat)(n:Nat): (WF ro).room n:=fun _ h=>by simp[WF,Fence.wide]at h
def IZ{ro:Option Nat}{n:Nat}{P:Program}{f:FuncId}{args:Array Value}{w:World}{R:Ending->World->Prop}: CallsIn (WF ro) n P f args w R↔Calls P f args w R:=callsIn_wide (n:=n)
def uP(o:Oper): Prop:= ∀ c,o.op≠ .defer c
section
variable {P:Program} {g:aJ} {w:World} {σ : ae} {K Kp:AV->ae->Prop} {ro:Option Nat} {wn:Nat}
def ny{o:Oper}{a:Act}{next:Act->World->Prop}{Q:Exit->Act->World->Prop}(eX:uP o)(h:o.uponIn (WF ro) wn P a next Q ((execOp a.eval o).run P w)): o.wpIn (WF ro) wn P a w next Q:=by
 refine⟨fun _ _=>trivial,?_⟩;rw[Oper.semAt_eq _ _ _ eX];exact h
def nA{o:Oper}{a:Act}{v:Value}{w':World}{next:Act->World->Prop}{Q:Exit->Act->World->Prop}(eX:uP o)(h:(execOp a.eval o).run P w = .ok (.value v) w')(hn:next (a.put o.dst v) w'): o.wpIn (WF ro) wn P a w next Q:=by
 refine ny eX ?_;rw[h];exact hn
def cZ{o:Oper}{a:Act}{s:Sem Value}{Q:Exit->Act->World->Prop}(eX:uP o)(h:bC P s g w σ K)(hs:execOp a.eval o=(do pure (.value (← s)):Sem Next)): o.wpIn (WF ro) wn P a w (x3 g w σ a o.dst K) Q:=by
 obtain⟨v,w',g',av,σ',h1,h2,h3,h4,h5⟩:=h;refine nA eX (v:=v) (w':=w') ?_ ⟨v,g',av,σ',rfl,h2,h3,h4,h5⟩;rw[hs];simp[h1]
def ve{o:Oper}{a:Act}{v:Value}{av:AV}{Q:Exit->Act->World->Prop}(eX:uP o)(hR:Rel g w σ)(hs:(execOp a.eval o).run P w = .ok (.value v) w)(hv:VR g w av v)(hk:K av σ): o.wpIn (WF ro) wn P a w (x3 g w σ a o.dst K) Q :=
 nA eX hs ⟨v,g,av,σ,rfl,hR,.refl _ _ _,hv,hk⟩
def lY{nt:Nat}{x:Option Operand}{ax:Option AX}{e:Env}{a:Act}(h:QS nt x=some ax)(hE:fY nt g w e a.tmps): mR g w (ax.map (AX.ev e)) (x.map a.eval):=by
 cases x with
 | none=>cases h;trivial
 | some x =>
   simp only[QS,aW]at h;obtain⟨b,h1,rfl⟩:=h;exact bT h1 hE
def rP {nt : Nat} {xs : Array Operand} {az : List AX} {e : Env} {a : Act} (h : Bh nt xs.toList = some az) (hE : fY nt g w e a.tmps) :
    (az.map (AX.ev e)).length=(xs.map a.eval).size/\ ∀ i,i<(az.map (AX.ev e)).length->VR g w ((az.map (AX.ev e)).getD i .undef) ((xs.map a.eval).getD i Go.undef):=by
 obtain⟨h1,h2⟩:=aai h hE;refine⟨by simp[h1],fun i hi=>?_⟩;have:=h2 i (by simpa using hi);simpa using this
def sU {az bs : List AV} {us vs : Array Value} (h1 : az.length = us.size) (h2 : ∀ i, i < az.length -> VR g w (az.getD i .undef) (us.getD i Go.undef)) (h3 : bs.length = vs.size) (h4 : ∀ i, i < bs.length -> VR g w (bs.getD i .undef) (vs.getD i Go.undef)) :
    (az++bs).length=(us++vs).size/\ ∀ i,i<(az++bs).length->VR g w ((az++bs).getD i .undef) ((us++vs).getD i Go.undef):=by
 refine⟨by simp[h1,h3],fun i hi=>?_⟩;simp only[aA]at hi;by_cases h:i<az.length
 ·have:=h2 i h;have h5:i<us.size:=by omega
  simpa[aH h,eo h5]using this
 ·obtain⟨j,rfl⟩:∃ j,i=az.length+j:=⟨i-az.length,by omega⟩;have:=h4 j (by omega);rw[h1];have e1:(az++bs).getD (us.size+j) .undef=bs.getD j .undef:=by rw[<-h1];simp[bL]
  have e2:(us++vs).getD (us.size+j) Go.undef=vs.getD j Go.undef:=by
   rw[eH,Array.getElem?_append_right (by omega)];simp
  rw[e1,e2];exact this
def UU{f:AX}{args:List AX}{e:Env}{K Kp:AV->ae->Prop}(h:(br.rL f args).run P e σ K Kp): (br.call false f args).run P e σ K Kp:=by
 simp only[br.run]at *;split at h
 ·rename_i n hf;unfold DJ at h;split at h
  ·rename_i a r ha;obtain⟨l,ob,mF,r,_,_,_,h4,h5⟩:=h;simp only[hf,aB,if_false,cS,bY];exact h4.mono fun o s ⟨e1,e2⟩=>by subst e1;subst e2;exact h5
  ·exact h.elim
 ·exact h.elim
def Sy{m q:Bool}{f:AX}{args:List AX}{e:Env}{K Kp:AV->ae->Prop}(h:(Ur m q f args).run P e σ K Kp): ∃ q,(br.call q f args).run P e σ K Kp:=by
 cases m
 ·exact⟨q,h⟩
 ·exact⟨false,UU h⟩
def XF{l:List (Nat × El)}{m q:Bool}{f:AX}{args:List AX}{e:Env}{K Kp:AV->ae->Prop}(h:(Xu l m q f args).run P e σ K Kp): ∃ q,(br.call q f args).run P e σ K Kp:=by
 unfold Xu at h;split at h
 ·rename_i l p l' n;refine⟨false,?_⟩
  have hk:∃ r σ2,cR P n ((args.map (AX.ev e))) σ (fun o σ'=>o = .ret r/\σ' = σ2)/\K r σ2:=by
   replace h:fM.run P (.cw n args.length _) ((args++_).map (AX.ev e)) σ K Kp:=h
   rw[gD]at h;generalize hz:args.map (AX.ev e)++_=zs at h;cases zs with
   | nil=>exact h.elim
   | cons z zs =>
     obtain⟨r,s2,h1,_,h3⟩:=h;rw[<-hz,List.take_append_of_le_length (by simp),bp (by simp)]at h1;exact⟨r,s2,h1,h3⟩
  obtain⟨r,s2,h1,h3⟩:=hk;simp only[br.run,AX.ev,aB,if_false,cS,bY];exact h1.mono fun o s ⟨e1,e2⟩=>by subst e1;subst e2;exact h3
 ·exact Sy h
def XG{p:Bool}{l:List (Nat × El)}{m q:Bool}{f:AX}{args:List AX}{e:Env}{K Kp:AV->ae->Prop}(h:(Xv p l m q f args).run P e σ K Kp): ∃ q,(br.call q f args).run P e σ K Kp:=by
 unfold Xv at h;split at h
 ·rename_i n;refine⟨false,?_⟩;obtain⟨o,h1,h2⟩:∃ o,(∀ s,cR P n (args.map (AX.ev e)) s fun o' s'=>o'=o/\s'=s)/\pcK (fun r=>K r σ) (fun v=> ∀ s,Kp v s) o:=h;simp only[br.run,AX.ev,aB,if_false,cS,bY];refine(h1 σ).mono fun o' s ⟨e1,e2⟩=>?_;subst e1;subst e2;cases o' with
  | ret r=>exact h2
  | panic v=>exact h2 _
 ·exact XF h
def I0 {o : Oper} {a : Act} {f : FuncId} {vs : Array Value} {args : List AV} (eX : uP o) (hex : (execOp a.eval o).run P w = .ok (.enter f vs) w) (hR : Rel g w σ) (hl : args.length = vs.size)
    (h : ∀ i, i < args.length -> VR g w (args.getD i .undef) (vs.getD i Go.undef)) (hc : cR P f args σ fun
      | .ret r,σ'=>K r σ'
      | .panic r,σ'=>Kp r σ'):o.wpIn (WF ro) wn P a w (x3 g w σ a o.dst K) (Bj g w σ a Kp):=by
 refine ny eX ?_;rw[hex];refine⟨fun h=>by simp[WF,Fence.wide]at h,IZ.2 ((hc.2 g w vs hR hl h).mono ?_)⟩;rintro e w' ⟨out,g',σ',h1,h2,h3,h4⟩;cases out with
 | ret r =>
   cases e with
   | returned v=>exact⟨v,g',r,σ',rfl,h1,h2,h3,h4⟩
   | panicked c=>exact h3.elim
   | outgrown=>exact h3.elim
 | panic r =>
   cases e with
   | returned v=>exact h3.elim
   | panicked c=>obtain⟨v,rfl,h3⟩:=h3;exact⟨rfl,v,g',r,σ',rfl,h1,h2,h3,h4⟩
   | outgrown=>exact h3.elim
def XH {o : Oper} {a : Act} {l b : Nat} {vs : Array Value} {args : List AV} (eX : uP o) (hex : (execOp a.eval o).run P w = (Instr.yield b vs).run P w) (hR : Rel g w σ) (hb : g.ver l = 0 -> g.base l = some b) (hl : args.length = vs.size)
    (h : ∀ i, i < args.length -> VR g w (args.getD i .undef) (vs.getD i Go.undef)) (hc : sM P l args σ fun
      | .ret r,σ'=>K r σ'
      | .panic r,σ'=>Kp r σ'):o.wpIn (WF ro) wn P a w (x3 g w σ a o.dst K) (Bj g w σ a Kp):=by
 refine ny eX ?_;obtain⟨⟨nt,e,ps,ca,cb,st,pe,ho⟩,hc⟩:=hc;have lg:=(hR.ok l _ ho).1;obtain⟨fn,tmps,ca,cb,r1,r2⟩:=hc g w vs b hR (hb lg) hl h;rw[hex,r1];refine⟨fun h=>by simp[WF,Fence.wide]at h,?_⟩;have r3:RoundIn (WF ro) (wn-1) P b fn tmps ca cb w _:=⟨trivial,fun c cs _=>r2.2 c cs (room_wide _)⟩;refine r3.mono ?_;rintro e w' ⟨out,g',σ',h1,h2,h3,h4⟩;cases out with
 | ret r =>
   cases e with
   | returned v=>exact⟨v,g',r,σ',rfl,h1,h2,h3,h4⟩
   | panicked c=>exact h3.elim
   | outgrown=>exact h3.elim
 | panic r =>
   cases e with
   | returned v=>exact h3.elim
   | panicked c=>obtain⟨v,rfl,h3⟩:=h3;exact⟨rfl,v,g',r,σ',rfl,h1,h2,h3,h4⟩
   | outgrown=>exact h3.elim
def DR{d:TypeDesc}{kd:Option IntKind}(h:y8 d=some kd): pJ kd d=true:=by
 cases d<;>simp[y8]at h<;>subst h<;>simp[pJ]
def KE {o : Oper} {a : Act} {t key elem : TypeId} {d : TypeDesc} {kd : Option IntKind} {x k y : AV} {m v u : Value} (eX : uP o) (hR : Rel g w σ) (ht : P.underlying t = some (.map key elem)) (hkey : P.underlying key = some d) (hd : pJ kd d = true)
    (hx:VR g w x m) (hv:VR g w k v) (hu:VR g w y u) (hex:execOp a.eval o=(do Instr.mapUpdate t m v u;Pure.pure .skip:Sem Next))
    (hK:fM.run P (.Gs kd) [x,k,y] σ K Kp):o.wpIn (WF ro) wn P a w (x3 g w σ a o.dst K) (Bj g w σ a Kp):=by
 unfold fM.run at hK;split at hK<;>(try (rename_i h1 h2;cases h1;done))<;>(try (rename_i h1;cases h1;done))<;>(try exact hK.elim);rename_i l k' v' h1 h2;cases h1;cases h2;obtain⟨hk,hK⟩:=hK;split at hK
 ·rename_i es vR;split at hK
  ·rename_i es' hs;obtain⟨w',r1,r2,r3⟩:=M0 hR ht hkey hd hx hv hu hk vR hs;refine ny eX ?_;have:(execOp a.eval o).run P w = .ok .skip w':=by rw[hex];simp[r1]
   rw[this];exact⟨.tuple #[],g,.bU [],_,rfl,r2,r3,.bU [] #[] rfl (fun i hi=>absurd hi (cG _)),hK⟩
  ·exact hK.elim
 ·exact hK.elim
def aao {o : Oper} {a : Act} {t : TypeId} {x s y : AV} {m v u : Value} (eX : uP o) (hR : Rel g w σ)
    (hx:VR g w x m) (hv:VR g w s v) (hu:VR g w y u) (hex:execOp a.eval o=(do Instr.entryStore t m v u;Pure.pure .skip:Sem Next))
    (hK:fM.run P .R0 [x,s,y] σ K Kp):o.wpIn (WF ro) wn P a w (x3 g w σ a o.dst K) (Bj g w σ a Kp):=by
 obtain⟨w',σ',r1,r2,r3,r4⟩:=Sq (P:=P) (t:=t) hR hx hv hu (show uL σ x s y fun σ'=>K (.bU []) σ' from hK);refine ny eX ?_;have:(execOp a.eval o).run P w = .ok .skip w':=by rw[hex];simp[r1]
 rw[this];exact⟨.tuple #[],g,.bU [],_,rfl,r2,r3,.bU [] #[] rfl (fun i hi=>absurd hi (cG _)),r4⟩
def wX{f:FuncId}(h:Has P f)(args:Array Value)(w:World): (callFunc f args).run P w = .ok (.enter f args) w:=by
 obtain⟨fn,h1,h2,h3⟩:=h;have h4:fn.body.isNone=false:=by cases hb:fn.body<;>simp_all
 simp only[callFunc,Sem.run_bind,run_program,Result.andThen_ok,h1,h3,h4,aB,if_false,Sem.run_pure]
def abP {o : Oper} {a : Act} {x : AV} {r : Value} {az : List AV} {vs : Array Value} {name : String} (eX : uP o) (hR : Rel g w σ) (hx : VR g w x r)
    (ha:az.length=vs.size/\ ∀ i,i<az.length->VR g w (az.getD i .undef) (vs.getD i Go.undef)) (hex:execOp a.eval o=callMethod r name vs)
    (hK:fM.run P (.inv name) (x::az) σ K Kp):o.wpIn (WF ro) wn P a w (x3 g w σ a o.dst K) (Bj g w σ a Kp):=by
 unfold fM.run at hK;split at hK<;>(try (rename_i h1 h2;cases h1;done))<;>(try (rename_i h1;cases h1;done))<;>(try exact hK.elim);rename_i nm t v l h1 h2;cases h1;cases h2;cases hx;rename_i v' hv;split at hK
 ·rename_i f hf
  have afu:(execOp a.eval o).run P w = .ok (.enter f (#[v']++vs)) w:=by
   rw[hex];have:=Sx (w:=w) (v:=v') hf (P.types.size+99);have e1:Made.depth=99+1:=rfl;have e0:(program).run P w = .ok P w:=rfl;simp only[callMethod,Sem.run_bind,e0,Result.andThen_ok,e1,<-Nat.add_assoc,this,wX hK.1]
  obtain⟨a1,a2⟩:=ha
  obtain⟨c1,c2⟩:=sU (g:=g) (w:=w) (az:=[v]) (us:= #[v']) rfl (fun i hi=>by
   have:i=0:=by simpa using hi
   subst this;simpa using hv) a1 a2
  exact I0 eX afu hR c1 c2 hK
 ·exact hK.elim
def M3 {nt : Nat} {h : Hints} {dr : Bool} {o : Oper} {ao : br} {e : Env} {a : Act} (hc : u7 P nt h dr o = some ao) (hR : Rel g w σ) (hE : fY nt g w e a.tmps) (hK : ao.run P e σ K Kp) :
    o.wpIn (WF ro) wn P a w (x3 g w σ a o.dst K) (Bj g w σ a Kp):=by
 have eX:uP o:=fun c hop=>by simp[u7,hop]at hc
 unfold u7 at hc;cases hop:o.op<;>simp only[hop]at hc<;>(try (cases hc;done))
 case move x =>
  simp only[aW]at hc;obtain⟨ax,h1,rfl⟩:=hc;by_cases hb:(!dr && IU o.dst h.MQ)=true
  ·rw[if_pos hb]at hK;exact cZ eX (UP (P:=P) hR (bT h1 hE) hK) (by simp[execOp,hop])
  ·rw[if_neg hb]at hK;exact ve eX hR (by simp[execOp,hop]) (bT h1 hE) hK
 case assign x =>
  have mv:∀ ax,cX nt x=some ax->br.run P (.mv ax) e σ K Kp->o.wpIn (WF ro) wn P a w (x3 g w σ a o.dst K) (Bj g w σ a Kp):=fun ax h1 hK =>
   ve eX hR (by simp[execOp,hop]) (bT h1 hE) hK
  split at hc
  ·rename_i el hel;split at hc
   ·rename_i Ab;cases hc
    have hx:a.eval x = .slice none 0 0:=by
     cases x with
     | const v =>
       cases v with
       | slice p l c =>
         cases p with
         | none=>simp[oq]at Ab;obtain⟨rfl,rfl⟩:=Ab;rfl
         | some p=>simp[oq]at Ab
       | _=>simp[oq]at Ab
     | _=>simp[oq]at Ab
    obtain⟨r1,r2⟩:=hR.lp el;refine nA eX (v:= .slice none 0 0) (w':=w) (by simp[execOp,hop,hx]) ⟨_,_,_,_,rfl,r1,r2,.own _ _ _ _ _ _ ⟨by simp[aJ.push,hR.len],bJ _,_,_,rfl,fun _=>⟨by omega,by simp[aJ.push,hR.len],fun h=>by simp[aJ.push,hR.len]at h⟩⟩,hK⟩
   ·simp only[aW]at hc;obtain⟨ax,h1,rfl⟩:=hc;exact mv ax h1 hK
  ·simp only[aW]at hc;obtain⟨ax,h1,rfl⟩:=hc;exact mv ax h1 hK
 case pick c x y =>
  split at hc
  ·rename_i ac ax ay h1 h2 h3;cases hc;have hv:=bT h1 hE;simp only[br.run]at hK;generalize AX.ev e ac=z at hv hK;generalize hev:a.eval c=cv at hv;cases hv<;>simp only at hK;rename_i t;refine ve eX (v:=if t then a.eval x else a.eval y) hR (by simp[execOp,hop,hev,asBool]) ?_ hK;cases t
   ·exact bT h3 hE
   ·exact bT h2 hE
  ·cases hc
 case alloc t =>
  split at hc
  ·rename_i z hz;split at hc
   ·simp only[Option.some.injEq]at hc;split at hc
    ·cases hc;simp only[br.run]at hK;split at hK
     ·split at hK
      ·rename_i hn;exact cZ eX (L9 (xW _ _) hR hn hz hK) (by simp[execOp,hop])
      ·exact hK.elim
     ·exact hK.elim
    ·cases hc;exact cZ eX (Pg (xW _ _) hR hz hK) (by simp[execOp,hop])
   ·cases hc
  ·cases hc
 case box t x =>
  simp only[aW]at hc;obtain⟨ax,h1,h2⟩:=hc;split at h2<;>subst h2<;>simp only[br.run]at hK
  ·exact cZ eX (Sb (t:=t) hR (bT h1 hE) hK.1 hK.2) (by simp[execOp,hop])
  ·exact cZ eX (Us (t:=t) hR (bT h1 hE) hK.1 hK.2) (by simp[execOp,hop])
 case build t parts =>
  split at hc
  ·rename_i z fs hz hu;split at hc
   ·rename_i hh;simp only[aq]at hh;simp only[aW]at hc;obtain⟨ps,h1,rfl⟩:=hc;exact cZ eX (B7 hR hE hz hh.2 hu hh.1 h1 hK) (by simp[execOp,hop])
   ·cases hc
  ·rename_i z n el hz hu;split at hc
   ·rename_i hh;simp only[aq,fA]at hh;obtain⟨⟨fi,hi⟩,_⟩:=hh;simp only[aW]at hc;obtain⟨ps,h1,rfl⟩:=hc;exact cZ eX (Ed hR hE hz hu hi h1 hK) (by simp[execOp,hop])
   ·cases hc
  ·cases hc
 case buildSlice t n parts =>
  split at hc
  ·rename_i el hu;split at hc
   ·rename_i bq z he hz;split at hc
    ·rename_i hh;simp only[aq,decide_eq_true_eq]at hh;simp only[aW]at hc;obtain⟨ps,h1,rfl⟩:=hc;exact cZ eX (MY hR hE hu he hz hh.1 hh.2 h1 hK) (by simp[execOp,hop])
    ·cases hc
   ·cases hc
  ·cases hc
 case load t x =>
  split at hc
  ·rename_i ag i ax hA hi h1;split at hc
   ·rename_i hh;cases hc;exact cZ eX (Sd hR hA hi (fun e=>by simpa[e]using hh) (bT h1 hE) hK) (by simp[execOp,hop])
   ·cases hc
  ·cases hc
 case store t x y =>
  split at hc
  ·rename_i i ax ay hi h1 h2;cases hc;obtain⟨w',g',σ',r1,r2,r3,r4⟩:=Ph (P:=P) hR hi (bT h1 hE) (bT h2 hE) hK;refine ny eX ?_;have:(execOp a.eval o).run P w = .ok .skip w':=by simp[execOp,hop,r1]
   rw[this];exact⟨_,g',.bU [],σ',rfl,r2,r3,.bU [] #[] rfl (fun i hi=>absurd hi (cG _)),r4⟩
  ·cases hc
 case nilCheck x =>
  simp only[aW]at hc;obtain⟨ax,h1,rfl⟩:=hc;obtain⟨v,w',g',av,σ',r1,r2,r3,r4,r5⟩:=Pm (P:=P) (K:=K) hop rfl hR (bT h1 hE) hK;exact nA eX r1 ⟨v,g',av,σ',rfl,r2,r3,r4,r5⟩
 case binOp op t x y yt =>
  have hs:∀ {K:AV->ae->Prop},bC P (do eqGuard op t x y (a.eval x) (a.eval y);binOp op t (a.eval x) (a.eval y)) g w σ K->o.wpIn (WF ro) wn P a w (x3 g w σ a o.dst K) (Bj g w σ a Kp):=fun hh =>
   cZ eX hh (by simp[execOp,hop])
  split at hc
  ·rename_i ax ay h1 h2;have v1:=bT h1 hE;have v2:=bT h2 hE;split at hc
   ·cases hc;exact hs (GK hR v1 v2 hK)
   ·cases hc;exact hs (GK hR v1 v2 hK)
   ·rename_i te hu;split at hc
    ·rename_i hn
     have hy:a.eval y = .slice none 0 0:=by
      unfold oq at hn;split at hn
      ·rename_i l c;simp only[aq,beq_iff_eq]at hn;rw[hn.1,hn.2];rfl
      ·cases hn
     rw[hy]at hs;split at hc
     ·cases hc;exact hs (GO (op:= .eql) (.inl rfl) hR hu v1 hK)
     ·cases hc;exact hs (GO (op:= .neq) (.inr rfl) hR hu v1 hK)
     ·cases hc
    ·cases hc
   ·rename_i d _ _ _ hu;split at hc
    ·rename_i k hk;split at hc
     ·split at hc
      ·rename_i te _ hpt;split at hc
       ·rename_i i _ hi;cases hc;exact hs (Kv (op:= .eql) (.inl ⟨rfl,rfl⟩) hR hu hi v1 v2 hK)
       ·rename_i i _ hi;cases hc;exact hs (Kv (op:= .neq) (.inr ⟨rfl,rfl⟩) hR hu hi v1 v2 hK)
       ·cases hc
      ·cases hc
     split at hc
     ·rename_i hn;simp only[dm]at hn;split at hc
      ·cases hc;refine hs (Ex (op:= .eql) (.inl rfl) hR hu hk hn v1 v2 ?_);simp only[br.run]at hK;generalize om k (AX.ev e ax) (AX.ev e ay)=r at hK ⊢;cases r<;>exact hK
      ·cases hc;refine hs (Ex (op:= .neq) (.inr rfl) hR hu hk hn v1 v2 ?_);simp only[br.run]at hK;generalize om k (AX.ev e ax) (AX.ev e ay)=r at hK ⊢;cases r<;>exact hK
      ·cases hc
     ·cases hc
    ·split at hc
     ·rename_i ks ag i hf hA hi;split at hc
      ·rename_i hh;simp only[aq,beq_iff_eq,dm,cF]at hh
       have hg:ag=true->P.eqGuardType P.depth t=false:=fun e=>by
        rcases hh.2 with h|h
        ·rw[e]at h;cases h
        ·exact h
       split at hc
       ·cases hc;exact hs (Ko (op:= .eql) (.inl rfl) hR hf hA hi hh.1 hg v1 v2 hK)
       ·cases hc;exact hs (Ko (op:= .neq) (.inr rfl) hR hf hA hi hh.1 hg v1 v2 hK)
       ·cases hc
      ·cases hc
     ·cases hc
   ·cases hc
  ·cases hc
 case unOp op t x =>
  simp only[aW]at hc;obtain⟨ax,h1,rfl⟩:=hc;exact cZ eX (Xw hR (bT h1 hE) hK) (by simp[execOp,hop])
 case convert s d x =>
  have hs:bC P (convert s d (a.eval x)) g w σ K->o.wpIn (WF ro) wn P a w (x3 g w σ a o.dst K) (Bj g w σ a Kp):=fun hh=>cZ eX hh (by simp[execOp,hop]);split at hc
  ·rename_i k' k ax hs1 wY h1;cases hc;exact hs (Se hR hs1 wY (bT h1 hE) hK)
  ·rename_i ax hs1 wY h1;cases hc;have v1:=bT h1 hE;simp only[br.run]at hK;generalize AX.ev e ax=z at v1 hK;cases z<;>simp only at hK;exact hs (Uu hR hs1 wY v1 ⟨_,rfl⟩ hK)
  ·rename_i el ax hs1 wY h1;split at hc
   ·rename_i i he hi;split at hc
    ·cases hc;exact hs (UE (fi:=i) hR hs1 wY he (bT h1 hE) hK)
    ·cases hc
   ·cases hc
  ·rename_i el ax hs1 wY h1;split at hc
   ·rename_i i he hi;split at hc
    ·cases hc;have v1:=bT h1 hE;obtain⟨hn,hK⟩:=hK;refine hs (UG hR hs1 wY he v1 hK ?_);generalize AX.ev e ax=z at v1 hn hK;generalize a.eval x=xv at v1;cases v1<;>simp only[fP]at hK hn
     ·exact⟨_,_,_,rfl⟩
     ·exact⟨_,_,_,rfl⟩
     ·exact⟨_,_,_,rfl⟩
     ·rename_i h;obtain⟨_,_,A,cap,rfl,_⟩:=h;exact⟨_,_,_,rfl⟩
     ·exact⟨_,_,_,rfl⟩
    ·cases hc
   ·cases hc
  ·rename_i t ax hs1 wY h1;split at hc
   ·rename_i i hi;split at hc
    ·cases hc
    ·rename_i h0;cases hc;exact hs (UJ hR hs1 wY hi (by simpa using h0) (bT h1 hE) hK)
   ·cases hc
  ·rename_i t ax hs1 wY h1;split at hc
   ·rename_i i hi;cases hc;exact hs (UK hR hs1 wY hi (bT h1 hE) hK)
   ·cases hc
  ·cases hc
 case makeInterface t x =>
  split at hc
  ·cases hc
  ·cases hc
  ·rename_i d h1 h2;simp only[aW]at hc;obtain⟨ax,h3,rfl⟩:=hc;cases hu:P.underlying t with
   | none=>exact absurd hu h2
   | some d=>exact cZ eX (Pn hR hu (fun ms e=>h1 ms (by rw[hu,e])) (bT h3 hE) hK) (by simp[execOp,hop])
 case makeFunc fn first cap =>
  split at hc
  ·rename_i az bs h1 h2;cases hc;obtain⟨a1,a2⟩:=rP h1 hE;obtain⟨b1,b2⟩:=rP h2 hE;exact ve eX (v:= .func fn (first.map a.eval) (cap.map a.eval)) hR (by simp[execOp,hop,Instr.makeFunc]) (.fn fn _ _ _ _ a1 b1 a2 b2) hK
  ·cases hc
 case slice t x lo hi mx =>
  split at hc
  ·rename_i ax al ah am h1 h2 h3 h4;have v1:=bT h1 hE
   have hm:am=none->mx=none:=fun e=>by
    cases mx with
    | none=>rfl
    | some m=>simp only[QS,Option.map_eq_some_iff]at h4;obtain⟨b,_,rfl⟩:=h4;cases e
   split at hc
   ·rename_i hu;split at hc
    ·rename_i hn;cases hc;have:mx=none:=hm (by simpa using hn);subst this;exact cZ eX (Uv hR hu v1 (lY h2 hE) (lY h3 hE) hK) (by simp[execOp,hop])
    ·cases hc
   ·rename_i el hu;split at hc
    ·simp only[aW]at hc;obtain⟨bq,he,rfl⟩:=hc;have:mx=none:=hm rfl;subst this;refine cZ eX (Uw hR hu he v1 (lY h2 hE) (lY h3 hE) ?_) (by simp[execOp,hop]);simp only[br.run]at hK;clear v1;generalize AX.ev e ax=z at hK ⊢;cases z<;>exact hK
    ·rename_i bm bh;simp only[aW]at hc;obtain⟨bq,he,rfl⟩:=hc;have b3:=lY h3 hE;have b4:=lY h4 hE;cases hi with
     | none=>cases h3
     | some hi =>
       cases mx with
       | none=>cases h4
       | some mx =>
         unfold Zq at hK;split at hK
         ·refine cZ eX (Sw (vl:=lo.map a.eval) (vh:=a.eval hi) (vm:=a.eval mx) (lo:=al.map (AX.ev e)) hR hu he v1 (lY h2 hE) b3 b4 ?_) (by simp[execOp,hop]);clear h2 b3 b4 v1;cases al with
          | none=>exact hK
          | some al=>exact hK
         ·refine cZ eX (Ca (vl:=lo.map a.eval) (vh:=a.eval hi) (vm:=a.eval mx) (lo:=al.map (AX.ev e)) hR hu he v1 (lY h2 hE) b3 b4 ?_) (by simp[execOp,hop]);clear h2 b3 b4 v1;cases al with
          | none=>exact hK
          | some al=>exact hK
    ·cases hc
   ·rename_i n el hu;split at hc
    ·rename_i hn;simp only[aW]at hc;obtain⟨bq,he,rfl⟩:=hc;have:mx=none:=hm (by simpa using hn);subst this;refine cZ eX (UO (lo:=al.map (AX.ev e)) (hi:=ah.map (AX.ev e)) hR hu he v1 (lY h2 hE) (lY h3 hE) ?_) (by simp[execOp,hop]);clear h2 h3 v1;cases al<;>cases ah<;>exact hK
    ·cases hc
   ·cases hc
  ·cases hc
 case fieldAddr s x f =>
  split at hc
  ·rename_i fs ax hu h1;simp only[fH]at hc;obtain⟨fi,hf,hc⟩:=hc;split at hc
   ·cases hc
   ·rename_i h0;cases hc;cases hi:P.info? fi.type with
    | none=>simp[hi]at h0
    | some i=>exact cZ eX (Pk hR hu hf hi (by simpa[hi]using h0) (bT h1 hE) hK) (by simp[execOp,hop])
  ·cases hc
 case field s x f =>
  split at hc
  ·rename_i fs ax hu h1;simp only[fH]at hc;obtain⟨fi,hf,hc⟩:=hc;split at hc
   ·rename_i ag i hA hi;split at hc
    ·cases hc;exact cZ eX (Pj hR hu hf hA hi (bT h1 hE) hK) (by simp[execOp,hop])
    ·cases hc
   ·cases hc
  ·cases hc
 case indexAddr t x y =>
  split at hc
  ·rename_i el ax ay hu h1 h2;simp only[aW]at hc;obtain⟨bq,he,rfl⟩:=hc;refine cZ eX (MV hR hu he (bT h1 hE) (bT h2 hE) ?_) (by simp[execOp,hop]);simp only[br.run]at hK;generalize AX.ev e ax=z at hK ⊢;generalize AX.ev e ay=z' at hK ⊢;cases z'<;>simp only at hK ⊢;cases z<;>exact hK
  ·rename_i n el ax ay hu h1 h2;simp only[aW]at hc;obtain⟨bq,he,rfl⟩:=hc;refine cZ eX (MW hR hu he (bT h1 hE) (bT h2 hE) ?_) (by simp[execOp,hop]);simp only[br.run]at hK;generalize AX.ev e ax=z at hK ⊢;generalize AX.ev e ay=z' at hK ⊢;cases z'<;>simp only at hK ⊢;cases z<;>exact hK
  ·cases hc
 case index t x y =>
  split at hc
  ·rename_i ax ay hu h1 h2;cases hc;exact cZ eX (Sf hR hu (bT h1 hE) (bT h2 hE) hK) (by simp[execOp,hop])
  ·rename_i n el ax ay hu h1 h2;simp only[aW]at hc;obtain⟨bq,he,rfl⟩:=hc;exact cZ eX (Sg hR hu he (bT h1 hE) (bT h2 hE) hK) (by simp[execOp,hop])
  ·cases hc
 case extract x i =>
  simp only[aW]at hc;obtain⟨ax,h1,rfl⟩:=hc;exact cZ eX (L_ hR (bT h1 hE) hK) (by simp[execOp,hop])
 case makeSlice t l c =>
  split at hc
  ·rename_i el al ac hu h1 h2;split at hc
   ·rename_i bq z he hz;cases hc;split at hK
    ·simp only[br.run]at hK;split at hK
     ·split at hK
      ·rename_i hn;split at hK
       ·rename_i q1 q2;refine cZ eX (Pq hR hn hu he hz (bT h1 hE) (bT h2 hE) ?_) (by simp[execOp,hop]);simp only[q1,q2];exact hK
       ·exact hK.elim
      ·exact hK.elim
     ·exact hK.elim
    ·exact cZ eX (Ma hR hu he hz (bT h1 hE) (bT h2 hE) hK) (by simp[execOp,hop])
   ·cases hc
  ·cases hc
 case range t x =>
  split at hc
  ·rename_i ht;simp only[aW]at hc;obtain⟨ax,h1,rfl⟩:=hc;have hv:=bT h1 hE;simp only[br.run]at hK;generalize AX.ev e ax=z at hv hK;generalize hev:a.eval x=xv at hv;cases hv<;>simp only at hK;rename_i s;obtain⟨r1,r2⟩:=hR.pF (.stringIter ⟨s.toArray⟩ 0) (.jc s 0) 1 0 ⟨by simp[aJ.push],w.heap.size,by simp[aJ.push],heap_alloc_new w _⟩;refine nA eX (v:= .pointer (some ⟨w.heap.size,0,none⟩)) (w':=w.alloc (.stringIter ⟨s.toArray⟩ 0)) ?_ ⟨_,_,_,_,rfl,r1,r2,.ref _ _ _ ⟨by simp[aJ.push,hR.len],_,rfl,fun _=>⟨by simp[aJ.push,hR.len],rfl⟩⟩,hK⟩;simp[execOp,hop,hev,Instr.range,aQ ht,newObj,Sem.run]
  ·cases hc
 case next x b =>
  split at hc
  ·rename_i hb;simp only[aW]at hc;obtain⟨ax,h1,rfl⟩:=hc;have hv:=bT h1 hE;simp only[br.run]at hK;generalize AX.ev e ax=z at hv hK;split at hK
   ·split at hK
    ·rename_i l _ s pos hl;generalize hev:a.eval x=xv at hv;cases hv with
     | ref _ _ _ hO =>
       obtain⟨_,A,rfl,h2⟩:=hO;obtain⟨lg,bb,tT,gP⟩:=hR.ok l _ hl;obtain⟨h3,h4⟩:=h2 lg;rw[tT]at h3;cases h3;have hsz:(⟨s.toArray⟩:ByteArray).size=s.length:=rfl;split at hK
       ·rename_i hlt
        have UN:=hR.update (o':= .jc s (pos+(Utf8.decode ⟨s.toArray⟩ pos).2)) (w':= { w with heap:=w.heap.setIfInBounds A.block (.stringIter ⟨s.toArray⟩ (pos+(Utf8.decode ⟨s.toArray⟩ pos).2)) }) hl rfl tT
         (by simp) rfl rfl rfl (fun c hc=>by simp[Array.getElem?_setIfInBounds,Ne.symm hc]) (fun _=>⟨lg,_,tT,by have:=(dz.1 gP).1;simp[this]⟩)
        refine nA eX ?_ ⟨_,g,_,_,rfl,UN.1,UN.2,.bU _ #[.bool true,.int .i64 pos,.int .i32 (Utf8.decode ⟨s.toArray⟩ pos).1] rfl (fun i hi=>?_),hK⟩
        ·rw[h4]at hev;have XI:pos<(⟨s.toArray⟩:ByteArray).size:=hlt;simp only[execOp,hop,hev,Instr.next,getObj,setObj,Sem.run_bind,Sem.run,gP,Result.andThen,hb,XI,if_true];have:=(dz.1 gP).1;simp[this,goInt]
        ·match i,hi with
         | 0,_=>exact .bool true
         | 1,_=>exact .int _ _
         | 2,_=>exact .int _ _
       ·rename_i hlt;refine nA eX (v:= .tuple #[.bool false]) (w':=w) ?_ ⟨_,g,_,_,rfl,hR,.refl _ _ _,.bU _ _ rfl (fun i hi=>?_),hK⟩
        ·rw[h4]at hev;have XI:¬ pos<(⟨s.toArray⟩:ByteArray).size:=hlt;simp only[execOp,hop,hev,Instr.next,getObj,setObj,Sem.run_bind,Sem.run,gP,Result.andThen,hb,XI,if_false];rfl
        ·match i,hi with
         | 0,_=>exact .bool false
    ·exact hK.elim
   ·exact hK.elim
  ·cases hc
 case makeMap t r =>
  cases r with
  | some r=>cases hc
  | none =>
    cases hc;exact cZ eX (Pr (t:=t) hR hK) (by simp[execOp,hop])
 case lookup t x k ok =>
  split at hc
  ·rename_i key elem ax ak ht h1 h2;split at hc
   ·rename_i kd z hk hz;cases hc;obtain⟨d,hd,hkk⟩:=fH.1 hk;refine cZ eX (Sn (ok:=ok) hR ht hd (DR hkk) hz (bT h1 hE) (bT h2 hE) ?_) (by simp[execOp,hop]);simp only[br.run,aU,bf]at hK;generalize AX.ev e ax=z at hK ⊢;cases z<;>exact hK
   ·cases hc
  ·cases hc
 case mapUpdate t m k v =>
  split at hc
  ·rename_i key elem am ak av ht h1 h2 h3;split at hc
   ·rename_i kd hk;cases hc;obtain⟨d,hd,hkk⟩:=fH.1 hk;exact KE eX hR ht hd (DR hkk) (bT h1 hE) (bT h2 hE) (bT h3 hE) (by simp[execOp,hop]) hK
   ·cases hc
  ·cases hc
 case insert t m k v =>
  split at hc
  ·rename_i key elem am ak av ht h1 h2 h3;split at hc
   ·rename_i kd hk;cases hc;obtain⟨d,hd,hkk⟩:=fH.1 hk;exact KE eX hR ht hd (DR hkk) (bT h1 hE) (bT h2 hE) (bT h3 hE) (by simp[execOp,hop]) hK
   ·cases hc
  ·cases hc
 case mapEntry t m k =>
  split at hc
  ·rename_i key elem ax ak ht h1 h2;split at hc
   ·rename_i kd z hk hz;cases hc;obtain⟨d,hd,hkk⟩:=fH.1 hk;exact cZ eX (Sp hR ht hd (DR hkk) hz (bT h1 hE) (bT h2 hE) hK) (by simp[execOp,hop])
   ·cases hc
  ·cases hc
 case entryStore t m k v =>
  split at hc
  ·rename_i am ak av h1 h2 h3;cases hc;exact aao (t:=t) eX hR (bT h1 hE) (bT h2 hE) (bT h3 hE) (by simp[execOp,hop]) hK
  ·cases hc
 case sliceToArrayPointer t x =>
  split at hc
  ·rename_i n e ax ht h1;cases hc;exact cZ eX (UR hR ht (bT h1 hE) hK) (by simp[execOp,hop])
  ·cases hc
 case typeAssert x xt T ok =>
  split at hc
  ·cases hc
  ·cases hc
  ·rename_i d hd hu;split at hc
   ·rename_i ax z h1 hz;cases hc;exact cZ eX (UQ (xt:=xt) hR hu (fun l e=>hd l e) hz (bT h1 hE) hK) (by simp[execOp,hop])
   ·cases hc
 case panic x =>
  simp only[aW]at hc;obtain⟨ax,h1,rfl⟩:=hc;have v1:=bT h1 hE;simp only[br.run]at hK;generalize AX.ev e ax=z at v1 hK;generalize hev:a.eval x=xv at v1;cases v1<;>simp only at hK;rename_i t b v h;refine ny eX ?_;have:(execOp a.eval o).run P w = .halt (.panic (.iface t v)) w:=by simp[execOp,hop,hev,Instr.panic]
  rw[this];exact⟨rfl,.iface t v,g,.kP t b,σ,rfl,hR,.refl _ _ _,.kP t b v h,hK⟩
 case call c =>
  obtain⟨callee,args,ats⟩:=c;simp only at hc;cases callee with
  | invoke r m =>
    simp only at hc;split at hc
    ·rename_i ar az h1 h2;cases hc;have e1:(#[a.eval r]++args.map a.eval)[0]? = some (a.eval r):=by rw[eo (by simp)];rfl
     have e2:(args.map a.eval).extract 0 args.size=args.map a.eval:=by
      have:=Array.extract_size (xs:=args.map a.eval);simpa using this
     exact abP eX hR (bT h1 hE) (rP h2 hE) (by simp[execOp,hop,resolve,invoke,e1,e2]) hK
    ·cases hc
  | value f =>
    simp only at hc;split at hc
    ·rename_i gf ax h0 h2;cases hc;obtain⟨⟨fn,hf,hn,hb,qD,sv⟩,hK⟩:=hK
     have hfg:f = .func gf:=by
      cases f with
      | func f =>
        simp only[Zp]at h0;split at h0
        ·split at h0
         ·cases h0;rfl
         ·cases h0
        ·cases h0
      | _=>cases h0
     subst hfg
     have hargs:∃ x0,args = #[x0]/\cX nt x0=some ax:=by
      cases hl:args.toList with
      | nil=>rw[hl]at h2;cases h2
      | cons x0 r =>
        rw[hl]at h2;simp only[Bh]at h2;split at h2
        ·rename_i a1 az1 e1 e2;cases h2;cases r with
         | nil=>exact⟨x0,by rw[<-dR (xs:=args),hl],e1⟩
         | cons x1 r =>
           simp only[Bh]at e2;split at e2<;>cases e2
        ·cases h2
     obtain⟨x0,rfl,hx0⟩:=hargs;have v1:=bT hx0 hE;refine ve eX hR (v:=a.eval x0) ?_ v1 hK;simp only[execOp,hop,resolve,Sem.run_bind,Act.eval,Deferred.ofValue,Sem.run_pure,Result.andThen_ok,invoke];simp only[List.map_toArray,aU,bf,List.append_toArray,cS,bY];rw[run_callFunc_extern hf hn hb qD sv];rfl
    ·rename_i af az h1 h2 _
     have key:∃ q,(br.call q af az).run P e σ K Kp:=by
      cases hc;exact XG hK
     clear hc hK;obtain⟨qq,hK⟩:=key;have v1:=bT h1 hE;simp only[br.run]at hK;generalize AX.ev e af=z at v1 hK;generalize hev:a.eval f=fv at v1;by_cases UW:∃ l,z = .qS l
     ·obtain⟨l,rfl⟩:=UW;cases v1;rename_i hy;obtain⟨hl,b,rfl,hb⟩:=hy;obtain⟨a1,a2⟩:=rP h2 hE;simp only at hK
      have both:∀ q:Bool,(if q then False else sM P l (az.map (AX.ev e)) σ fun
       | .ret r,σ'=>K r σ'
       | .panic r,σ'=>Kp r σ')->o.wpIn (WF ro) wn P a w (x3 g w σ a o.dst K) (Bj g w σ a Kp):=fun q hK=>by
       cases q with
       | true=>exact(by simpa using hK:False).elim
       | false =>
       simp only[aB,if_false]at hK;refine XH eX (b:=b) (vs:=args.map a.eval) ?_ hR hb a1 a2 hK;simp only[execOp,hop,resolve,Sem.run_bind,hev,Deferred.ofValue,Sem.run_pure,Result.andThen_ok,invoke];simp
      exact both _ hK
     cases v1<;>(try exact hK.elim)
     case qS=>exact absurd ⟨_,rfl⟩ UW
     rename_i fn first cap first' cap' hl hl' hh GI
     cases fn<;>(try exact hK.elim);rename_i n;simp only at hK;obtain⟨a1,a2⟩:=rP h2 hE;obtain⟨b1,b2⟩:=sU hl hh a1 a2;obtain⟨c1,c2⟩:=sU b1 b2 hl' GI
     have hex:Has P n->(execOp a.eval o).run P w = .ok (.enter n (first'++args.map a.eval++cap')) w:=fun hb=>by
      simp only[execOp,hop,resolve,Sem.run_bind,hev,Deferred.ofValue,Sem.run_pure,Result.andThen_ok,invoke,wX hb]
     have both:∀ q:Bool,(if q then ∃ r,(∀ τ,xU P n (first++az.map (AX.ev e)++cap) (σ++ τ) r)/\K r σ else cR P n (first++az.map (AX.ev e)++cap) σ fun
      | .ret r,σ'=>K r σ'
      | .panic r,σ'=>Kp r σ')->o.wpIn (WF ro) wn P a w (x3 g w σ a o.dst K) (Bj g w σ a Kp):=fun q hK=>by
      cases q with
      | true =>
        simp only[if_true]at hK;obtain⟨r,hq,hk⟩:=hK;have hq:=hq [];rw[bY]at hq;exact I0 eX (hex hq.1) hR c1 c2 (hq.mono fun out σ' ⟨h1,h2⟩=>by subst h1;subst h2;exact hk)
      | false =>
        simp only[aB,if_false]at hK;exact I0 eX (hex hK.1) hR c1 c2 hK
     exact both _ hK
    ·cases hc
  | builtin b =>
    have hs:∀ {s:Sem Value} {K:AV->ae->Prop},bC P s g w σ K->builtin b ats o.type (args.map fun | .const _=>true|_=>false) (args.map a.eval)=(do pure (.value (← s)):Sem Next)->o.wpIn (WF ro) wn P a w (x3 g w σ a o.dst K) (Bj g w σ a Kp):=fun hh hb=>by
     refine cZ eX hh ?_;simp only[execOp,hop,resolve];exact hb
    cases b<;>simp only at hc<;>(try (cases hc;done))
    case len =>
     split at hc
     ·rename_i t x ht hx;have hargs:args = #[x]:=by rw[<-dR (xs:=args),hx]
      subst hargs;split at hc
      ·rename_i hu;simp only[aW]at hc;obtain⟨ax,h1,rfl⟩:=hc;refine hs (s:=Builtin.len_ ats o.type #[a.eval x]) (Sh hR ht hu (bT h1 hE) ?_) (by simp[builtin]);simp only[br.run]at hK;generalize AX.ev e ax=z at hK ⊢;cases z<;>exact hK
      ·rename_i el hu;simp only[aW]at hc;obtain⟨ax,h1,rfl⟩:=hc;refine hs (s:=Builtin.len_ ats o.type #[a.eval x]) (Si hR ht hu (bT h1 hE) ?_) (by simp[builtin]);simp only[br.run]at hK;generalize AX.ev e ax=z at hK ⊢;cases z<;>exact hK
      ·rename_i k1 e1 hu;simp only[aW]at hc;obtain⟨ax,h1,rfl⟩:=hc;refine hs (s:=Builtin.len_ ats o.type #[a.eval x]) (Sr hR ht hu (bT h1 hE) ?_) (by simp[builtin]);simp only[br.run,aU,bf]at hK;generalize AX.ev e ax=z at hK ⊢;cases z<;>exact hK
      ·cases hc
     ·cases hc
    case copy =>
     split at hc
     ·rename_i t x y ht hx;have hargs:args = #[x,y]:=by rw[<-dR (xs:=args),hx]
      subst hargs;split at hc
      ·rename_i el ax ay hu h1 h2;simp only[aW]at hc;obtain⟨Zw,he,rfl⟩:=hc;exact hs (s:=Builtin.copy_ ats o.type #[a.eval x,a.eval y]) (Ss hR ht hu he (bT h1 hE) (bT h2 hE) hK) (by simp[builtin])
      ·cases hc
     ·cases hc
    case clear =>
     split at hc
     ·rename_i t x ht hx;have hargs:args = #[x]:=by rw[<-dR (xs:=args),hx]
      subst hargs;split at hc
      ·rename_i el ax hu h1;split at hc
       ·rename_i Zw z he hz;cases hc;exact hs (s:=Builtin.clear_ ats o.type #[a.eval x]) (US hR ht hu he hz (bT h1 hE) hK) (by simp[builtin])
       ·cases hc
      ·cases hc
     ·cases hc
    case append =>
     split at hc
     ·rename_i t u x y ht hu hx;have hargs:args = #[x,y]:=by rw[<-dR (xs:=args),hx]
      subst hargs;split at hc
      ·rename_i el bq ax ay M4 M5 h1 h2;simp only[aW]at hc;obtain⟨Zw,he,rfl⟩:=hc;split at hK
       ·exact hs (s:=Builtin.append_ ats o.type #[a.eval x,a.eval y]) (KA hR ht hu M4 M5 (by simp) he (bT h1 hE) (bT h2 hE) hK) (by simp[builtin])
       split at hK
       ·exact hs (s:=Builtin.append_ ats o.type #[a.eval x,a.eval y]) (Sv hR ht hu M4 M5 (by simp) he (bT h1 hE) (bT h2 hE) hK) (by simp[builtin])
       split at hK
       ·simp only[br.run]at hK;split at hK
        ·split at hK
         ·rename_i hn;split at hK
          ·rename_i ys hys;exact hs (s:=Builtin.append_ ats o.type #[a.eval x,a.eval y]) (Po hR ht hu M4 M5 (by simp) he (bT h1 hE) (bT h2 hE) (.inl rfl) hn hys hK.1 hK.2.1 hK.2.2.1 hK.2.2.2) (by simp[builtin])
          ·exact hK.elim
         ·exact hK.elim
        ·exact hK.elim
       ·exact hs (s:=Builtin.append_ ats o.type #[a.eval x,a.eval y]) (xZ hR ht hu M4 M5 (by simp) he (bT h1 hE) (bT h2 hE) (xW _ _) hK) (by simp[builtin])
      ·rename_i el ax ay M4 M5 h1 h2;simp only[aW]at hc;obtain⟨Zw,he,rfl⟩:=hc;split at hK
       ·exact hs (s:=Builtin.append_ ats o.type #[a.eval x,a.eval y]) (KA hR ht hu M4 M5 (by simp) he (bT h1 hE) (bT h2 hE) hK) (by simp[builtin])
       ·exact hs (s:=Builtin.append_ ats o.type #[a.eval x,a.eval y]) (xZ hR ht hu M4 M5 (by simp) he (bT h1 hE) (bT h2 hE) (xW _ _) hK) (by simp[builtin])
      ·cases hc
     ·cases hc
    case unsafeSliceData =>
     split at hc
     ·rename_i t x ht hx;have hargs:args = #[x]:=by rw[<-dR (xs:=args),hx]
      subst hargs;split at hc
      ·rename_i el ax hu h1;simp only[aW]at hc;obtain⟨Zw,he,rfl⟩:=hc;exact hs (s:=Builtin.unsafeSliceData_ ats o.type #[a.eval x]) (UI hR (bT h1 hE) hK) (by simp[builtin])
      ·cases hc
     ·cases hc
    case unsafeString =>
     split at hc
     ·rename_i t t2 x y ht hx;have hargs:args = #[x,y]:=by rw[<-dR (xs:=args),hx]
      have afv:ats = #[t,t2]:=by rw[<-dR (xs:=ats),ht]
      subst hargs;subst afv;split at hc
      ·rename_i e1 ax ay hu h1 h2;split at hc
       ·rename_i hce;cases hc;exact hs (s:=Builtin.unsafeString_ #[t,t2] o.type #[a.eval x,a.eval y]) (Sm hR hu (by simpa using hce) (bT h1 hE) (bT h2 hE) hK) (by simp[builtin])
       ·cases hc
      ·cases hc
     ·cases hc
    case min =>
     split at hc
     ·rename_i ax az h1;cases hc;obtain⟨a1,a2⟩:=rP h1 hE;cases hl:args.toList with
      | nil=>rw[hl]at h1;cases h1
      | cons x xs =>
        have hargs:args=(x::xs).toArray:=by rw[<-dR (xs:=args),hl]
        subst hargs;have v0:=a2 0 (by simp);refine hs (s:=Builtin.min_ ats o.type (a.eval x::xs.map a.eval).toArray) (Ux (x:=ax.ev e) (xs:=az.map (AX.ev e)) hR (by simpa using v0) (by simpa using a1) (fun i hi=>by simpa using a2 (i+1) (by simpa using hi)) hK) (by simp[builtin])
     ·cases hc
    case max =>
     split at hc
     ·rename_i ax az h1;cases hc;obtain⟨a1,a2⟩:=rP h1 hE;cases hl:args.toList with
      | nil=>rw[hl]at h1;cases h1
      | cons x xs =>
        have hargs:args=(x::xs).toArray:=by rw[<-dR (xs:=args),hl]
        subst hargs;have v0:=a2 0 (by simp);refine hs (s:=Builtin.max_ ats o.type (a.eval x::xs.map a.eval).toArray) (Uy (x:=ax.ev e) (xs:=az.map (AX.ev e)) hR (by simpa using v0) (by simpa using a1) (fun i hi=>by simpa using a2 (i+1) (by simpa using hi)) hK) (by simp[builtin])
     ·cases hc
end
