/- Part. -/
import Derived.Test.YtcjcnfcedihckaaGreatDoorW37
set_option linter.all false
set_option maxHeartbeats 8000000
namespace Go.AM
def cR.agE {P : Program} {f : FuncId} {args : List AV} {σ : ae} {R : Out -> ae -> Prop} {l k : Nat} {T : Option TypeId} {el : El} {xs cs : List AV} (cs' : List AV) (hl : σ[l]? = some (.cz T el xs)) (hk : σ[k]? = some (.cells cs)) (hx : xs ≠ [])
    (hc:cs.length=cs'.length) (hf:∀ i,Y5 el l xs (cs.getD i .undef) (cs'.getD i .undef)) (h:cR P f args ((σ.set l .dead).set k (.cells cs')) R):cR P f args σ R:=by
 refine⟨h.1,fun g w vs hR hlen hvs=>?_⟩;have oL:k≠l:=fun e=>by subst e;rw[hl]at hk;cases hk
 obtain⟨lg,pB,hrow⟩:=hR.ok l _ hl;rcases hrow with⟨hx',_,_⟩|⟨b,bs,hb,hrow,hsz,hle,kr,_⟩
 ·exact absurd hx' hx
 obtain⟨r1,r2⟩:=hR.freeze hl rfl hb
 have key:∀ v,VR g w (.own el l xs.length 0 xs.length) v->VR (g.iB b) w (.aO false el xs) v:=fun v hv=>by
  cases hv with
  | own _ _ _ _ _ _ hO =>
  obtain⟨_,_,A,cap,rfl,h4⟩:=hO;obtain⟨_,h6,h7⟩:=h4 lg.symm;have hxl:0<xs.length:=List.length_pos_iff.2 hx;have hlt:0<g.cap l:=by omega
  have hA:=h7 hlt;rw[hb]at hA;simp only[aT]at hA;subst hA
  have hidx:∀ i c,i<xs.length->c<el.sz->g.off l+i*el.sz+c<bs.size:=fun i c h1 h2=>by
   rw[hsz];have:i*el.sz+el.sz<=g.cap l*el.sz:=by rw[<-cM];exact aY _ (by omega)
   omega
  have hoff:∀ i c,g.off l+0*el.sz+(i*el.sz+c)=g.off l+i*el.sz+c:=fun i c=>by omega
  refine VR.aO (g:=g.iB b) (w:=w) false el xs b (g.off l+0*el.sz) cap (.inr rfl) (fun h=>by cases h) (by omega) (fun i h1=>pB i h1) (fun i c h1 h2=>?_) (fun i c h1 h2=>?_)
  ·rw[hoff,hrow.cell (hidx i c h1 h2)];rfl
  ·have e1 : dD w ⟨b, g.off l + i * el.sz + c, none⟩ = bs.getD (g.off l + i * el.sz + c) Go.undef := by
    simp only[dD,hrow.cell (hidx i c h1 h2),bA]
   rw[hoff,e1];exact(kr i c h1 h2).mono r2.mono
 have pJ:∀ v,VR (g.iB b) w (.own el l xs.length 0 xs.length) v->VR (g.iB b) w (.aO false el xs) v:=fun v hv=>by
  cases hv with
  | own _ _ _ _ _ _ hO=>exact key v (.own _ _ _ _ _ _ hO)
 have seen:∀ i v,VR (g.iB b) w (cs.getD i .undef) v->VR (g.iB b) w (cs'.getD i .undef) v:=fun i v hv=>by
  rcases hf i with e|⟨e1,e2⟩
  ·rw[<-e];exact hv
  ·rw[e2];rw[e1]at hv;exact pJ v hv
 obtain⟨_,o2,_⟩:=hR.ok k _ hk
 have hsc:cs'.all AV.scalar=true:=by
  rw[aX];intro a ha;obtain⟨i,hi,rfl⟩:=bz ha;have e0:cs'.getD i .undef=cs'[i]:=by simp[aj,hi]
  rw[<-e0];rcases hf i with e|⟨_,e2⟩
  ·rw[<-e];have hi':i<cs.length:=by omega
   have e1:cs.getD i .undef=cs[i]:=by simp[aj,hi']
   rw[e1];exact aX.1 o2 _ (cU hi')
  ·rw[e2];rfl
 obtain⟨q1,q2⟩:=r1.Z4 (k:=k) (cs:=cs) (cs':=cs') (by rw[List.getElem?_set_ne oL.symm];exact hk) hc hsc seen;refine(h.2 (g.iB b) w vs q1 hlen (fun i hi=>(hvs i hi).mono r2.mono)).mono ?_;rintro e w' ⟨out,g',σ',a1,a2,a3,a4⟩;exact⟨out,g',σ',a1,(r2.trans q2).trans a2,a3,a4⟩
end Go.AM
namespace Go.Proofs.YtcjcnfcedihckaaGreatDoor
open Go.AM
set_option maxRecDepth 4000
abbrev EK: El:=⟨true,12⟩
def Lv(S:ae)(el:El)(q:Nat)(v:AV)(ys:List AV): Prop:=(ys=[]/\v = .au)\/(ys≠[]/\v = .own el q ys.length 0 ys.length/\S[q]? = some (.vec el ys))
def Lv.scalar{S:ae}{el:El}{q:Nat}{v:AV}{ys:List AV}(h:Lv S el q v ys): v.scalar=true:=by
 rcases h with⟨_,rfl⟩|⟨_,rfl,_⟩<;>rfl
def Lv.view{S:ae}{el:El}{q:Nat}{v:AV}{ys zs:List AV}(h:Lv S el q v ys)(hz:bS [] ys zs): View S v (.aO false el zs):=by
 rcases h with⟨rfl,rfl⟩|⟨_,rfl,hq⟩
 ·obtain rfl:zs=[]:=List.length_eq_zero_iff.1 hz.1.symm;exact .au _
 ·exact .acj hq rfl rfl ⟨hz.1,fun i hi=>(hz.2 i hi).mono (fun l o hl=>by simp at hl)⟩
def Lv.T_{S:ae}{el:El}{q:Nat}{v:AV}{ys:List AV}(h:Lv S el q v ys)(hp:AV.cB ys=true): View S v (.aO false el ys):=h.view (.refl hp)
def Lv.keep{S S':ae}{el:El}{q:Nat}{v:AV}{ys:List AV}(h:Lv S el q v ys)(hk:∀ o,S[q]? = some o->S'[q]? = some o): Lv S' el q v ys:=by
 rcases h with h|⟨h1,h2,h3⟩
 ·exact .inl h
 ·exact .inr ⟨h1,h2,hk _ h3⟩
structure jV (S:ae) (k:Nat) (l:List ef) (o:AV) (q0:Nat) (ys:List AV):Prop where
 vw:bS [] ys (l.map dU)
 o:Lv S EK q0 o ys
structure nK (S:ae) (k:Nat) (t:Table) (i u p:AV) (q1 q2 q3:Nat):Prop where
 i:Lv S EC q1 i (t.ins.map bu)
 u:Lv S EC q2 u (t.outs.map bu)
 p:Lv S ER q3 p (t.rules.map cu)
 d:t.ins≠[]->t.outs≠[]->q1≠q2
def Lv.uX{S S':ae}{k:Nat}{cs:List AV}(hk:S[k]? = some (.cells cs)){el:El}{q:Nat}{v:AV}{ys:List AV}(h:Lv S el q v ys)(keep:∀ j o',S[j]? = some o'->j≠k->S'[j]? = some o'): Lv S' el q v ys:=by
 rcases h with h|⟨h1,h2,h3⟩
 ·exact .inl h
 ·exact .inr ⟨h1,h2,keep _ _ h3 (fun e=>by subst e;rw[hk]at h3;cases h3)⟩
def Lv.wJ{S S':ae}{k q1:Nat}{cs:List AV}(hk:S[k]? = some (.cells cs)){el:El}{q:Nat}{v:AV}{ys:List AV}(h:Lv S el q v ys)(hne:S[q]? = some (.vec el ys)->ys≠[]->q≠q1)(keep:∀ j o',S[j]? = some o'->j≠k->j≠q1->S'[j]? = some o'): Lv S' el q v ys:=by
 rcases h with h|⟨h1,h2,h3⟩
 ·exact .inl h
 ·exact .inr ⟨h1,h2,keep _ _ h3 (fun e=>by subst e;rw[hk]at h3;cases h3) (hne h3 h1)⟩
def yI{S:ae}{q q':Nat}{el bq:El}{xs ys:List AV}(h:S[q]? = some (.vec el ys))(h':S[q']? = some (.vec bq xs))(he:el≠bq): q≠q':=fun e=>by
 subst e;rw[h]at h';injection h' with h';injection h' with _ h';exact he h'
section
variable {S S':ae} {k q q0 q1 q2 q3:Nat} {cs ys:List AV} {l:List ef} {t:Table} {o i u p:AV}
def adn (hk : S[k]? = some (.cells cs)) (h0 : jV S k l o q0 ys) (ht : nK S k t .au u p q1 q2 q3) (he : t.ins.map bu = []) (C : cV) (hq : S.length <= q) (h1 : S'[q]? = some (.vec EC [bu C])) (keep : ∀ j o', S[j]? = some o' -> j ≠ k -> S'[j]? = some o') :
    jV S' k l o q0 ys/\nK S' k { t with ins:=t.ins++[C] } (.own EC q 1 0 1) u p q q2 q3:=by
 obtain⟨ti,tu,tp,td⟩:=ht;refine⟨⟨h0.vw,h0.o.uX hk keep⟩,.inr ⟨by simp,by simp[he],by simp[he,h1]⟩,tu.uX hk keep,tp.uX hk keep,fun _ ho=>?_⟩;rcases tu with⟨e,_⟩|⟨_,_,h⟩
 ·exact absurd (List.map_eq_nil_iff.1 e) ho
 ·have:=ey h;omega
def ado (hk : S[k]? = some (.cells cs)) (h0 : jV S k l o q0 ys) (ht : nK S k t i u p q1 q2 q3) (he : t.ins.map bu ≠ []) (hq : S[q1]? = some (.vec EC (t.ins.map bu))) (C : cV) (h1 : S'[q1]? = some (.vec EC (t.ins.map bu ++ [bu C]))) (keep : ∀ j o', S[j]? = some o' -> j ≠ k -> j ≠ q1 -> S'[j]? = some o') :
    jV S' k l o q0 ys/\nK S' k { t with ins:=t.ins++[C] } (.own EC q1 ((t.ins.map bu).length+1) 0 ((t.ins.map bu).length+1)) u p q1 q2 q3:=by
 obtain⟨ti,tu,tp,td⟩:=ht;have hi:t.ins≠[]:=fun e=>he (by rw[e];rfl);refine⟨⟨h0.vw,h0.o.wJ hk (fun h _=>yI h hq (by decide)) keep⟩,.inr ⟨by simp,by simp,by simp[h1]⟩,tu.wJ hk (fun _ h=>(td hi (fun e=>h (by rw[e];rfl))).symm) keep,tp.wJ hk (fun h _=>yI h hq (by decide)) keep,fun _ ho=>td hi ho⟩
def abm (hk : S[k]? = some (.cells cs)) (h0 : jV S k l o q0 ys) (ht : nK S k t i .au p q1 q2 q3) (he : t.outs.map bu = []) (C : cV) (hq : S.length <= q) (h1 : S'[q]? = some (.vec EC [bu C])) (keep : ∀ j o', S[j]? = some o' -> j ≠ k -> S'[j]? = some o') :
    jV S' k l o q0 ys/\nK S' k { t with outs:=t.outs++[C] } i (.own EC q 1 0 1) p q1 q q3:=by
 obtain⟨ti,tu,tp,td⟩:=ht;refine⟨⟨h0.vw,h0.o.uX hk keep⟩,ti.uX hk keep,.inr ⟨by simp,by simp[he],by simp[he,h1]⟩,tp.uX hk keep,fun hi _=>?_⟩;rcases ti with⟨e,_⟩|⟨_,_,h⟩
 ·exact absurd (List.map_eq_nil_iff.1 e) hi
 ·have:=ey h;omega
def abn (hk : S[k]? = some (.cells cs)) (h0 : jV S k l o q0 ys) (ht : nK S k t i u p q1 q2 q3) (he : t.outs.map bu ≠ []) (hq : S[q2]? = some (.vec EC (t.outs.map bu))) (C : cV) (h1 : S'[q2]? = some (.vec EC (t.outs.map bu ++ [bu C]))) (keep : ∀ j o', S[j]? = some o' -> j ≠ k -> j ≠ q2 -> S'[j]? = some o') :
    jV S' k l o q0 ys/\nK S' k { t with outs:=t.outs++[C] } i (.own EC q2 ((t.outs.map bu).length+1) 0 ((t.outs.map bu).length+1)) p q1 q2 q3:=by
 obtain⟨ti,tu,tp,td⟩:=ht;have hu:t.outs≠[]:=fun e=>he (by rw[e];rfl);refine⟨⟨h0.vw,h0.o.wJ hk (fun h _=>yI h hq (by decide)) keep⟩,ti.wJ hk (fun _ h=>td (fun e=>h (by rw[e];rfl)) hu) keep,.inr ⟨by simp,by simp,by simp[h1]⟩,tp.wJ hk (fun h _=>yI h hq (by decide)) keep,fun hi _=>td hi hu⟩
def Y6 (hk : S[k]? = some (.cells cs)) (h0 : jV S k l o q0 ys) (ht : nK S k t i u .au q1 q2 q3) (he : t.rules.map cu = []) (C : eL) (hq : S.length <= q) (h1 : S'[q]? = some (.vec ER [cu C])) (keep : ∀ j o', S[j]? = some o' -> j ≠ k -> S'[j]? = some o') :
    jV S' k l o q0 ys/\nK S' k { t with rules:=t.rules++[C] } i u (.own ER q 1 0 1) q1 q2 q:=by
 obtain⟨ti,tu,tp,td⟩:=ht;exact⟨⟨h0.vw,h0.o.uX hk keep⟩,ti.uX hk keep,tu.uX hk keep,.inr ⟨by simp,by simp[he],by simp[he,h1]⟩,td⟩
def Y7 (hk : S[k]? = some (.cells cs)) (h0 : jV S k l o q0 ys) (ht : nK S k t i u p q1 q2 q3) (he : t.rules.map cu ≠ []) (hq : S[q3]? = some (.vec ER (t.rules.map cu))) (C : eL) (h1 : S'[q3]? = some (.vec ER (t.rules.map cu ++ [cu C]))) (keep : ∀ j o', S[j]? = some o' -> j ≠ k -> j ≠ q3 -> S'[j]? = some o') :
    jV S' k l o q0 ys/\nK S' k { t with rules:=t.rules++[C] } i u (.own ER q3 ((t.rules.map cu).length+1) 0 ((t.rules.map cu).length+1)) q1 q2 q3:=by
 obtain⟨ti,tu,tp,td⟩:=ht;exact⟨⟨h0.vw,h0.o.wJ hk (fun h _=>yI h hq (by decide)) keep⟩,ti.wJ hk (fun h _=>yI h hq (by decide)) keep,tu.wJ hk (fun h _=>yI h hq (by decide)) keep,.inr ⟨by simp,by simp,by simp[h1]⟩,td⟩
def O4{d e c:aZ}(j:Nat)(o':aZ)(hj:S[j]? = some o')(hne:j≠k): ((S++[d]++[e]).set k c)[j]? = some o':=by
 rw[List.getElem?_set_ne (Ne.symm hne),aH (by have:=ey hj;simp;omega),aH (ey hj)];exact hj
def O5{d e c:aZ}(j:Nat)(o':aZ)(hj:S[j]? = some o')(hne:j≠k)(hq:j≠q): (((S++[d]).set q e).set k c)[j]? = some o':=by
 rw[List.getElem?_set_ne (Ne.symm hne),List.getElem?_set_ne (Ne.symm hq),aH (ey hj)];exact hj
end
def sH {S : ae} {k : Nat} {l : List ef} {n : Int} {t : Table} {o i u p : AV} {q0 q1 q2 q3 : Nat} {ys : List AV} (hk : S[k]? = some (.cells [o, I n, .str t.name, i, u, I t.aL, I t.agg, p])) (h0 : jV S k l o q0 ys) (h : nK S k t i u p q1 q2 q3) :
    View S (.ref k 0) (yH (.aO false EK (l.map dU)) n t):=by
 have hv:bS S [o,I n,.str t.name,i,u,I t.aL,I t.agg,p] [.aO false EK (l.map dU),I n,.str t.name,cH t.ins,cH t.outs,I t.aL,I t.agg,eA t.rules] :=
  .cons (h0.o.view h0.vw) (.cons (.refl _ rfl) (.cons (.refl _ rfl) (.cons (h.i.T_ (xk _)) (.cons (h.u.T_ (xk _)) (.cons (.refl _ rfl) (.cons (.refl _ rfl) (.cons (h.p.T_ (CB _)) (.nil _))))))))
 exact .ze _ _ _ _ hk rfl rfl hv.2
def O6(l:List ef): (AV.aO false EK (l.map dU)).dF=true:=by
 have:AV.cB (l.map dU)=true:=by
  induction l with
  | nil=>rfl
  | cons a l ih=>simp[AV.cB,dU,AV.dF,LH,ih]
 simpa[AV.dF]using this
section
variable {S:ae} {k:Nat} {l:List ef} {n:Int} {t:Table} {K Kp:AV->ae->Prop}
def mg(hv:View S (.ref k 0) (yH (.aO false EK (l.map dU)) n t))(ok:j8 t)(hk:kR (.bool (ei t)) (.mk:Tg fun r=>K r S)): qj Tryz.prog 63 [.ref k 0] S (.mk:Tg (K,Kp)) :=
 qo (Mz _ (O6 l) n t ok) (.cons hv (.nil _)) rfl hk
def sI{s:aI}(hv:View S (.ref k 0) (yH (.aO false EK (l.map dU)) n t))(tx:Ie t)(hk:kR (.bool (kH t s)) (.mk:Tg fun r=>K r S)): qj Tryz.prog 104 [.ref k 0,.str s] S (.mk:Tg (K,Kp)) :=
 qo (Qx _ (O6 l) n t s tx) (.cons hv (.cons (.refl _ rfl) (.nil _))) rfl hk
end
end Go.Proofs.YtcjcnfcedihckaaGreatDoor
namespace Go.Proofs.YtcjcnfcedihckaaGreatDoor
open Go.AM
set_option maxRecDepth 4000
def W5 {S : ae} {k : Nat} {r : fV} {s : aI} {o i u p : AV} {q0 q1 q2 q3 : Nat} {ys : List AV} (hw : (cD 32 s).1 = EW) (hn : r.now = 1 \/ r.now = 2) (hs : s.length <= 2 ^ 16)
    (hk:S[k]? = some (.cells [o,I r.now,.str r.t.name,i,u,I r.t.aL,I r.t.agg,p])) (h0:jV S k r.out o q0 ys) (ht:nK S k r.t i u p q1 q2 q3) (hg:wI r.t) :
    cR aK 60 [.ref k 0,.str s] S fun o' S'=>o' = .ret (.bool ((kT s).2 && ei (mE r s).t && kH (mE r s).t s))/\ ∃ v' q',S'[k]? = some (.cells [o,I 2,.str r.t.name,v',u,I r.t.aL,I r.t.agg,p])/\jV S' k r.out o q0 ys/\nK S' k (mE r s).t v' u p q' q2 q3:=by
 have c1:=nG s 32 (by omega);have c2:=BI s (by omega);have ok:=O1 hg hs;have zO:=fun h=>wH ok (by simp[mE]) h;generalize cD 32 s=X at *;obtain⟨w,rest,f⟩:=X;dsimp only at hw;subst hw;simp only[vN]at c1;generalize hD:(mE r s).t=D at *;obtain⟨C,hC⟩:∃ C,kT s=C:=⟨_,rfl⟩;have vC:D = { r.t with ins:=r.t.ins++[C.1] }:=by rw[<-hD,<-hC];rfl
 rw[hC]at c2 ⊢;obtain⟨C,b⟩:=C;dsimp only at c2 vC ⊢;have lt:=ey hk;obtain⟨hi,hu,hp,hd⟩:=ht;have hx:=hi;rcases hx with⟨he,rfl⟩|⟨he,rfl,hq⟩
 ·have hap:∀ d:aZ,(S++[d])[k]? = some (.cells [o,I r.now,.str r.t.name,.au,u,I r.t.aL,I r.t.agg,p]):=fun d=>by rw[aH lt];exact hk
  have jb:∀ d e:aZ,(S++[d]++[e])[k]? = some (.cells [o,I r.now,.str r.t.name,.au,u,I r.t.aL,I r.t.agg,p]):=fun d e=>by rw[aH (by simp;omega)];exact hap d
  have iQ:∀ d e c:aZ,((S++[d]++[e]).set k c)[k]? = some c:=fun d e c=>List.getElem?_set_self (by simp;omega)
  have fin:∀ d c:aZ,jV ((S++[d]++[aZ.vec EC [bu C]]).set k c) k r.out o q0 ys/\nK ((S++[d]++[aZ.vec EC [bu C]]).set k c) k D (.own EC (S.length+1) 1 0 1) u p (S.length+1) q2 q3:=fun d c=>by
   rw[vC];exact adn hk h0 ⟨hi,hu,hp,hd⟩ he C (by omega) (by rw[List.getElem?_set_ne (by omega)];simp) O4
  subst vC;have hv:=fun d=>sH (t:= { r.t with ins:=r.t.ins++[C] }) (o:=o) (i:=(.own EC (S.length+1) 1 0 1)) (u:=u) (p:=p) (n:=2) (iQ d (.vec EC [bu C]) _) (fin d _).1 (fin d (.cells [o,I 2,.str r.t.name,.own EC (S.length+1) 1 0 1,u,I r.t.aL,I r.t.agg,p])).2;simp only[bu,dh]at c2;refine eS.go ?_;unfold eY;intro Q aC aD aE;cases b
  ·repeat' first|simp (disch:=omega) only[go_sem,aC,aD,aE,hk,hap,jb,iQ,bF,aB,if_false,bO,aT]|refine aG ?_|refine aF ?_ ?_<;>intro hw<;>try omega|fail
   all_goals first|(exfalso;omega)|(exfalso;contradiction)|exact⟨rfl,_,_,rfl,fin _ _⟩|skip
  ·repeat' first|simp (disch:=omega) only[go_sem,aC,aD,aE,hk,hap,jb,iQ,bF,aB,if_false,bO,aT]|refine aG ?_|refine aF ?_ ?_<;>intro hw<;>try omega|fail
   all_goals first|(exfalso;omega)|(exfalso;contradiction)|skip
   all_goals refine mg (hv _) ok ?_
   all_goals cases hst:ei { r.t with ins:=r.t.ins++[C] }
   all_goals
    repeat' first|simp (disch:=omega) only[go_sem,aC,aD,aE,hk,hap,jb,iQ,bF,aB,if_false,bO,aT]|refine aG ?_|refine aF ?_ ?_<;>intro hw<;>try omega|fail
   all_goals first|exact⟨by simp[hst,oneOf],_,_,rfl,fin _ _⟩|skip
   all_goals refine sI (hv _) (zO hst).1 ?_
   all_goals cases hl:kH { r.t with ins:=r.t.ins++[C] } s
   all_goals
    repeat' first|simp (disch:=omega) only[go_sem,aC,aD,aE,hk,hap,jb,iQ,bF,aB,if_false,bO,aT]|refine aG ?_|refine aF ?_ ?_<;>intro hw<;>try omega|fail
   all_goals first|exact⟨by simp[hst,hl,oneOf],_,_,rfl,fin _ _⟩|skip
 ·have e3:(r.t.ins.map bu).length=r.t.ins.length:=bt ..;have hb:r.t.ins.length<=2 ^ 30:=hg.ok.2.1.1;have sC:q1≠k:=fun e=>by subst e;rw[hq]at hk;cases hk
  have lq:=ey hq;have hap:∀ d:aZ,(S++[d])[k]? = some (.cells [o,I r.now,.str r.t.name,.own EC q1 (r.t.ins.map bu).length 0 (r.t.ins.map bu).length,u,I r.t.aL,I r.t.agg,p]):=fun d=>by rw[aH lt];exact hk
  have qR:∀ d:aZ,(S++[d])[q1]? = some (.vec EC (r.t.ins.map bu)):=fun d=>by rw[aH lq];exact hq
  have jb:∀ d e:aZ,((S++[d]).set q1 e)[k]? = some (.cells [o,I r.now,.str r.t.name,.own EC q1 (r.t.ins.map bu).length 0 (r.t.ins.map bu).length,u,I r.t.aL,I r.t.agg,p]):=fun d e=>by rw[List.getElem?_set_ne sC];exact hap d
  have iQ:∀ d e c:aZ,(((S++[d]).set q1 e).set k c)[k]? = some c:=fun d e c=>List.getElem?_set_self (by simp;omega)
  have fin:∀ d c:aZ,jV (((S++[d]).set q1 (aZ.vec EC (r.t.ins.map bu++[bu C]))).set k c) k r.out o q0 ys/\nK (((S++[d]).set q1 (aZ.vec EC (r.t.ins.map bu++[bu C]))).set k c) k D (.own EC q1 ((r.t.ins.map bu).length+1) 0 ((r.t.ins.map bu).length+1)) u p q1 q2 q3:=fun d c=>by
   rw[vC];exact ado hk h0 ⟨hi,hu,hp,hd⟩ he hq C (by rw[List.getElem?_set_ne (Ne.symm sC),List.getElem?_set_self (by simp;omega)]) O5
  subst vC;have hv:=fun d=>sH (t:= { r.t with ins:=r.t.ins++[C] }) (o:=o) (i:=(.own EC q1 ((r.t.ins.map bu).length+1) 0 ((r.t.ins.map bu).length+1))) (u:=u) (p:=p) (n:=2) (iQ d (.vec EC (r.t.ins.map bu++[bu C])) _) (fin d _).1 (fin d (.cells [o,I 2,.str r.t.name,.own EC q1 ((r.t.ins.map bu).length+1) 0 ((r.t.ins.map bu).length+1),u,I r.t.aL,I r.t.agg,p])).2;rw[e3]at hap jb hk;rw[e3]at hv;simp only[e3]at fin;simp only[bu,dh]at c2;refine eS.go ?_;unfold eY;intro Q aC aD aE;cases b
  ·repeat' first|simp (disch:=omega) only[go_sem,aC,aD,aE,hk,hap,qR,jb,iQ,bF,aB,if_false,bO,aT]|refine aG ?_|refine aF ?_ ?_<;>intro hw<;>try omega|fail
   all_goals first|(exfalso;omega)|(exfalso;contradiction)|exact⟨rfl,_,_,rfl,fin _ _⟩|skip
  ·repeat' first|simp (disch:=omega) only[go_sem,aC,aD,aE,hk,hap,qR,jb,iQ,bF,aB,if_false,bO,aT]|refine aG ?_|refine aF ?_ ?_<;>intro hw<;>try omega|fail
   all_goals first|(exfalso;omega)|(exfalso;contradiction)|skip
   all_goals refine mg (hv _) ok ?_
   all_goals cases hst:ei { r.t with ins:=r.t.ins++[C] }
   all_goals
    repeat' first|simp (disch:=omega) only[go_sem,aC,aD,aE,hk,hap,qR,jb,iQ,bF,aB,if_false,bO,aT]|refine aG ?_|refine aF ?_ ?_<;>intro hw<;>try omega|fail
   all_goals first|exact⟨by simp[hst,oneOf],_,_,rfl,fin _ _⟩|skip
   all_goals refine sI (hv _) (zO hst).1 ?_
   all_goals cases hl:kH { r.t with ins:=r.t.ins++[C] } s
   all_goals
    repeat' first|simp (disch:=omega) only[go_sem,aC,aD,aE,hk,hap,qR,jb,iQ,bF,aB,if_false,bO,aT]|refine aG ?_|refine aF ?_ ?_<;>intro hw<;>try omega|fail
   all_goals first|exact⟨by simp[hst,hl,oneOf],_,_,rfl,fin _ _⟩|skip
def Ua {S : ae} {k : Nat} {r : fV} {s : aI} {o i u p : AV} {q0 q1 q2 q3 : Nat} {ys : List AV} (hw : (cD 32 s).1 = uE) (hn : r.now = 2 \/ r.now = 3) (Y8 : r.t.ins ≠ []) (hs : s.length <= 2 ^ 16)
    (hk:S[k]? = some (.cells [o,I r.now,.str r.t.name,i,u,I r.t.aL,I r.t.agg,p])) (h0:jV S k r.out o q0 ys) (ht:nK S k r.t i u p q1 q2 q3) (hg:wI r.t) :
    cR aK 60 [.ref k 0,.str s] S fun o' S'=>o' = .ret (.bool ((kT s).2 && ei (lN r s).t && kH (lN r s).t s))/\ ∃ v' q',S'[k]? = some (.cells [o,I 3,.str r.t.name,i,v',I r.t.aL,I r.t.agg,p])/\jV S' k r.out o q0 ys/\nK S' k (lN r s).t i v' p q1 q' q3:=by
 have c1:=nG s 32 (by omega);have c2:=BI s (by omega);have ok:=LI hg hs;have zO:=fun h=>wH ok (fun e=>Y8 (List.length_eq_zero_iff.1 e)) h;generalize cD 32 s=X at *;obtain⟨w,rest,f⟩:=X;dsimp only at hw;subst hw;simp only[vN]at c1;generalize hD:(lN r s).t=D at *;obtain⟨C,hC⟩:∃ C,kT s=C:=⟨_,rfl⟩;have vC:D = { r.t with outs:=r.t.outs++[C.1] }:=by rw[<-hD,<-hC];rfl
 rw[hC]at c2 ⊢;obtain⟨C,b⟩:=C;dsimp only at c2 vC ⊢;have lt:=ey hk;obtain⟨hi,hu,hp,hd⟩:=ht;have hx:=hu;rcases hx with⟨he,rfl⟩|⟨he,rfl,hq⟩
 ·have hap:∀ d:aZ,(S++[d])[k]? = some (.cells [o,I r.now,.str r.t.name,i,.au,I r.t.aL,I r.t.agg,p]):=fun d=>by rw[aH lt];exact hk
  have jb:∀ d e:aZ,(S++[d]++[e])[k]? = some (.cells [o,I r.now,.str r.t.name,i,.au,I r.t.aL,I r.t.agg,p]):=fun d e=>by rw[aH (by simp;omega)];exact hap d
  have iQ:∀ d e c:aZ,((S++[d]++[e]).set k c)[k]? = some c:=fun d e c=>List.getElem?_set_self (by simp;omega)
  have fin:∀ d c:aZ,jV ((S++[d]++[aZ.vec EC [bu C]]).set k c) k r.out o q0 ys/\nK ((S++[d]++[aZ.vec EC [bu C]]).set k c) k D i (.own EC (S.length+1) 1 0 1) p q1 (S.length+1) q3:=fun d c=>by
   rw[vC];exact abm hk h0 ⟨hi,hu,hp,hd⟩ he C (by omega) (by rw[List.getElem?_set_ne (by omega)];simp) O4
  subst vC;have hv:=fun d=>sH (t:= { r.t with outs:=r.t.outs++[C] }) (o:=o) (i:=i) (u:=(.own EC (S.length+1) 1 0 1)) (p:=p) (n:=3) (iQ d (.vec EC [bu C]) _) (fin d _).1 (fin d (.cells [o,I 3,.str r.t.name,i,.own EC (S.length+1) 1 0 1,I r.t.aL,I r.t.agg,p])).2;simp only[bu,dh]at c2;refine eS.go ?_;unfold eY;intro Q aC aD aE;cases b
  ·repeat' first|simp (disch:=omega) only[go_sem,aC,aD,aE,hk,hap,jb,iQ,bF,aB,if_false,bO,aT]|refine aG ?_|refine aF ?_ ?_<;>intro hw<;>try omega|fail
   all_goals first|(exfalso;omega)|(exfalso;contradiction)|exact⟨rfl,_,_,rfl,fin _ _⟩|skip
  ·repeat' first|simp (disch:=omega) only[go_sem,aC,aD,aE,hk,hap,jb,iQ,bF,aB,if_false,bO,aT]|refine aG ?_|refine aF ?_ ?_<;>intro hw<;>try omega|fail
   all_goals first|(exfalso;omega)|(exfalso;contradiction)|skip
   all_goals refine mg (hv _) ok ?_
   all_goals cases hst:ei { r.t with outs:=r.t.outs++[C] }
   all_goals
    repeat' first|simp (disch:=omega) only[go_sem,aC,aD,aE,hk,hap,jb,iQ,bF,aB,if_false,bO,aT]|refine aG ?_|refine aF ?_ ?_<;>intro hw<;>try omega|fail
   all_goals first|exact⟨by simp[hst,oneOf],_,_,rfl,fin _ _⟩|skip
   all_goals refine sI (hv _) (zO hst).1 ?_
   all_goals cases hl:kH { r.t with outs:=r.t.outs++[C] } s
   all_goals
    repeat' first|simp (disch:=omega) only[go_sem,aC,aD,aE,hk,hap,jb,iQ,bF,aB,if_false,bO,aT]|refine aG ?_|refine aF ?_ ?_<;>intro hw<;>try omega|fail
   all_goals first|exact⟨by simp[hst,hl,oneOf],_,_,rfl,fin _ _⟩|skip
 ·have e3:(r.t.outs.map bu).length=r.t.outs.length:=bt ..;have hb:r.t.outs.length<=2 ^ 30:=hg.ok.2.2.1.1;have sC:q2≠k:=fun e=>by subst e;rw[hq]at hk;cases hk
  have lq:=ey hq;have hap:∀ d:aZ,(S++[d])[k]? = some (.cells [o,I r.now,.str r.t.name,i,.own EC q2 (r.t.outs.map bu).length 0 (r.t.outs.map bu).length,I r.t.aL,I r.t.agg,p]):=fun d=>by rw[aH lt];exact hk
  have qR:∀ d:aZ,(S++[d])[q2]? = some (.vec EC (r.t.outs.map bu)):=fun d=>by rw[aH lq];exact hq
  have jb:∀ d e:aZ,((S++[d]).set q2 e)[k]? = some (.cells [o,I r.now,.str r.t.name,i,.own EC q2 (r.t.outs.map bu).length 0 (r.t.outs.map bu).length,I r.t.aL,I r.t.agg,p]):=fun d e=>by rw[List.getElem?_set_ne sC];exact hap d
  have iQ:∀ d e c:aZ,(((S++[d]).set q2 e).set k c)[k]? = some c:=fun d e c=>List.getElem?_set_self (by simp;omega)
  have fin:∀ d c:aZ,jV (((S++[d]).set q2 (aZ.vec EC (r.t.outs.map bu++[bu C]))).set k c) k r.out o q0 ys/\nK (((S++[d]).set q2 (aZ.vec EC (r.t.outs.map bu++[bu C]))).set k c) k D i (.own EC q2 ((r.t.outs.map bu).length+1) 0 ((r.t.outs.map bu).length+1)) p q1 q2 q3:=fun d c=>by
   rw[vC];exact abn hk h0 ⟨hi,hu,hp,hd⟩ he hq C (by rw[List.getElem?_set_ne (Ne.symm sC),List.getElem?_set_self (by simp;omega)]) O5
  subst vC;have hv:=fun d=>sH (t:= { r.t with outs:=r.t.outs++[C] }) (o:=o) (i:=i) (u:=(.own EC q2 ((r.t.outs.map bu).length+1) 0 ((r.t.outs.map bu).length+1))) (p:=p) (n:=3) (iQ d (.vec EC (r.t.outs.map bu++[bu C])) _) (fin d _).1 (fin d (.cells [o,I 3,.str r.t.name,i,.own EC q2 ((r.t.outs.map bu).length+1) 0 ((r.t.outs.map bu).length+1),I r.t.aL,I r.t.agg,p])).2;rw[e3]at hap jb hk;rw[e3]at hv;simp only[e3]at fin;simp only[bu,dh]at c2;refine eS.go ?_;unfold eY;intro Q aC aD aE;cases b
  ·repeat' first|simp (disch:=omega) only[go_sem,aC,aD,aE,hk,hap,qR,jb,iQ,bF,aB,if_false,bO,aT]|refine aG ?_|refine aF ?_ ?_<;>intro hw<;>try omega|fail
   all_goals first|(exfalso;omega)|(exfalso;contradiction)|exact⟨rfl,_,_,rfl,fin _ _⟩|skip
  ·repeat' first|simp (disch:=omega) only[go_sem,aC,aD,aE,hk,hap,qR,jb,iQ,bF,aB,if_false,bO,aT]|refine aG ?_|refine aF ?_ ?_<;>intro hw<;>try omega|fail
   all_goals first|(exfalso;omega)|(exfalso;contradiction)|skip
   all_goals refine mg (hv _) ok ?_
   all_goals cases hst:ei { r.t with outs:=r.t.outs++[C] }
   all_goals
    repeat' first|simp (disch:=omega) only[go_sem,aC,aD,aE,hk,hap,qR,jb,iQ,bF,aB,if_false,bO,aT]|refine aG ?_|refine aF ?_ ?_<;>intro hw<;>try omega|fail
   all_goals first|exact⟨by simp[hst,oneOf],_,_,rfl,fin _ _⟩|skip
   all_goals refine sI (hv _) (zO hst).1 ?_
   all_goals cases hl:kH { r.t with outs:=r.t.outs++[C] } s
   all_goals
    repeat' first|simp (disch:=omega) only[go_sem,aC,aD,aE,hk,hap,qR,jb,iQ,bF,aB,if_false,bO,aT]|refine aG ?_|refine aF ?_ ?_<;>intro hw<;>try omega|fail
   all_goals first|exact⟨by simp[hst,hl,oneOf],_,_,rfl,fin _ _⟩|skip
def Qz {S : ae} {k : Nat} {r : fV} {s : aI} {o i u p : AV} {q0 q1 q2 q3 : Nat} {ys : List AV} (hw : (cD 32 s).1 = tM) (hn : 3 <= r.now) (Y8 : r.t.ins ≠ []) (hs : s.length <= 2 ^ 16)
    (hk:S[k]? = some (.cells [o,I r.now,.str r.t.name,i,u,I r.t.aL,I r.t.agg,p])) (h0:jV S k r.out o q0 ys) (ht:nK S k r.t i u p q1 q2 q3) (hg:wI r.t) :
    cR aK 60 [.ref k 0,.str s] S fun o' S'=>o' = .ret (.bool ((ld s).2 && ei (kz r s).t && kH (kz r s).t s))/\ ∃ v' q',S'[k]? = some (.cells [o,I 4,.str r.t.name,i,u,I r.t.aL,I r.t.agg,v'])/\jV S' k r.out o q0 ys/\nK S' k (kz r s).t i u v' q1 q2 q':=by
 have c1:=nG s 32 (by omega);have c2:=Qw s (by omega);have ok:=Ik hg hs;have zO:=fun h=>wH ok (fun e=>Y8 (List.length_eq_zero_iff.1 e)) h;generalize cD 32 s=X at *;obtain⟨w,rest,f⟩:=X;dsimp only at hw;subst hw;simp only[vN]at c1;generalize hD:(kz r s).t=D at *;obtain⟨C,hC⟩:∃ C,ld s=C:=⟨_,rfl⟩;have vC:D = { r.t with rules:=r.t.rules++[C.1] }:=by rw[<-hD,<-hC];rfl
 rw[hC]at c2 ⊢;obtain⟨C,b⟩:=C;dsimp only at c2 vC ⊢;have lt:=ey hk;obtain⟨hi,hu,hp,hd⟩:=ht;have hx:=hp;rcases hx with⟨he,rfl⟩|⟨he,rfl,hq⟩
 ·have hap:∀ d:aZ,(S++[d])[k]? = some (.cells [o,I r.now,.str r.t.name,i,u,I r.t.aL,I r.t.agg,.au]):=fun d=>by rw[aH lt];exact hk
  have jb:∀ d e:aZ,(S++[d]++[e])[k]? = some (.cells [o,I r.now,.str r.t.name,i,u,I r.t.aL,I r.t.agg,.au]):=fun d e=>by rw[aH (by simp;omega)];exact hap d
  have iQ:∀ d e c:aZ,((S++[d]++[e]).set k c)[k]? = some c:=fun d e c=>List.getElem?_set_self (by simp;omega)
  have fin:∀ d c:aZ,jV ((S++[d]++[aZ.vec ER [cu C]]).set k c) k r.out o q0 ys/\nK ((S++[d]++[aZ.vec ER [cu C]]).set k c) k D i u (.own ER (S.length+1) 1 0 1) q1 q2 (S.length+1):=fun d c=>by
   rw[vC];exact Y6 hk h0 ⟨hi,hu,hp,hd⟩ he C (by omega) (by rw[List.getElem?_set_ne (by omega)];simp) O4
  subst vC;have hv:=fun d=>sH (t:= { r.t with rules:=r.t.rules++[C] }) (o:=o) (i:=i) (u:=u) (p:=(.own ER (S.length+1) 1 0 1)) (n:=4) (iQ d (.vec ER [cu C]) _) (fin d _).1 (fin d (.cells [o,I 4,.str r.t.name,i,u,I r.t.aL,I r.t.agg,.own ER (S.length+1) 1 0 1])).2;simp only[cu,bM]at c2;refine eS.go ?_;unfold eY;intro Q aC aD aE;cases b
  ·repeat' first|simp (disch:=omega) only[go_sem,aC,aD,aE,hk,hap,jb,iQ,bF,aB,if_false,bO,aT]|refine aG ?_|refine aF ?_ ?_<;>intro hw<;>try omega|fail
   all_goals first|(exfalso;omega)|(exfalso;contradiction)|exact⟨rfl,_,_,rfl,fin _ _⟩|skip
  ·repeat' first|simp (disch:=omega) only[go_sem,aC,aD,aE,hk,hap,jb,iQ,bF,aB,if_false,bO,aT]|refine aG ?_|refine aF ?_ ?_<;>intro hw<;>try omega|fail
   all_goals first|(exfalso;omega)|(exfalso;contradiction)|skip
   all_goals refine mg (hv _) ok ?_
   all_goals cases hst:ei { r.t with rules:=r.t.rules++[C] }
   all_goals
    repeat' first|simp (disch:=omega) only[go_sem,aC,aD,aE,hk,hap,jb,iQ,bF,aB,if_false,bO,aT]|refine aG ?_|refine aF ?_ ?_<;>intro hw<;>try omega|fail
   all_goals first|exact⟨by simp[hst,oneOf],_,_,rfl,fin _ _⟩|skip
   all_goals refine sI (hv _) (zO hst).1 ?_
   all_goals cases hl:kH { r.t with rules:=r.t.rules++[C] } s
   all_goals
    repeat' first|simp (disch:=omega) only[go_sem,aC,aD,aE,hk,hap,jb,iQ,bF,aB,if_false,bO,aT]|refine aG ?_|refine aF ?_ ?_<;>intro hw<;>try omega|fail
   all_goals first|exact⟨by simp[hst,hl,oneOf],_,_,rfl,fin _ _⟩|skip
 ·have e3:(r.t.rules.map cu).length=r.t.rules.length:=bt ..;have hb:r.t.rules.length<=2 ^ 30:=hg.ok.2.2.2.1;have sC:q3≠k:=fun e=>by subst e;rw[hq]at hk;cases hk
  have lq:=ey hq;have hap:∀ d:aZ,(S++[d])[k]? = some (.cells [o,I r.now,.str r.t.name,i,u,I r.t.aL,I r.t.agg,.own ER q3 (r.t.rules.map cu).length 0 (r.t.rules.map cu).length]):=fun d=>by rw[aH lt];exact hk
  have qR:∀ d:aZ,(S++[d])[q3]? = some (.vec ER (r.t.rules.map cu)):=fun d=>by rw[aH lq];exact hq
  have jb:∀ d e:aZ,((S++[d]).set q3 e)[k]? = some (.cells [o,I r.now,.str r.t.name,i,u,I r.t.aL,I r.t.agg,.own ER q3 (r.t.rules.map cu).length 0 (r.t.rules.map cu).length]):=fun d e=>by rw[List.getElem?_set_ne sC];exact hap d
  have iQ:∀ d e c:aZ,(((S++[d]).set q3 e).set k c)[k]? = some c:=fun d e c=>List.getElem?_set_self (by simp;omega)
  have fin:∀ d c:aZ,jV (((S++[d]).set q3 (aZ.vec ER (r.t.rules.map cu++[cu C]))).set k c) k r.out o q0 ys/\nK (((S++[d]).set q3 (aZ.vec ER (r.t.rules.map cu++[cu C]))).set k c) k D i u (.own ER q3 ((r.t.rules.map cu).length+1) 0 ((r.t.rules.map cu).length+1)) q1 q2 q3:=fun d c=>by
   rw[vC];exact Y7 hk h0 ⟨hi,hu,hp,hd⟩ he hq C (by rw[List.getElem?_set_ne (Ne.symm sC),List.getElem?_set_self (by simp;omega)]) O5
  subst vC;have hv:=fun d=>sH (t:= { r.t with rules:=r.t.rules++[C] }) (o:=o) (i:=i) (u:=u) (p:=(.own ER q3 ((r.t.rules.map cu).length+1) 0 ((r.t.rules.map cu).length+1))) (n:=4) (iQ d (.vec ER (r.t.rules.map cu++[cu C])) _) (fin d _).1 (fin d (.cells [o,I 4,.str r.t.name,i,u,I r.t.aL,I r.t.agg,.own ER q3 ((r.t.rules.map cu).length+1) 0 ((r.t.rules.map cu).length+1)])).2;rw[e3]at hap jb hk;rw[e3]at hv;simp only[e3]at fin;simp only[cu,bM]at c2;refine eS.go ?_;unfold eY;intro Q aC aD aE;cases b
  ·repeat' first|simp (disch:=omega) only[go_sem,aC,aD,aE,hk,hap,qR,jb,iQ,bF,aB,if_false,bO,aT]|refine aG ?_|refine aF ?_ ?_<;>intro hw<;>try omega|fail
   all_goals first|(exfalso;omega)|(exfalso;contradiction)|exact⟨rfl,_,_,rfl,fin _ _⟩|skip
  ·repeat' first|simp (disch:=omega) only[go_sem,aC,aD,aE,hk,hap,qR,jb,iQ,bF,aB,if_false,bO,aT]|refine aG ?_|refine aF ?_ ?_<;>intro hw<;>try omega|fail
   all_goals first|(exfalso;omega)|(exfalso;contradiction)|skip
   all_goals refine mg (hv _) ok ?_
   all_goals cases hst:ei { r.t with rules:=r.t.rules++[C] }
   all_goals
    repeat' first|simp (disch:=omega) only[go_sem,aC,aD,aE,hk,hap,qR,jb,iQ,bF,aB,if_false,bO,aT]|refine aG ?_|refine aF ?_ ?_<;>intro hw<;>try omega|fail
   all_goals first|exact⟨by simp[hst,oneOf],_,_,rfl,fin _ _⟩|skip
   all_goals refine sI (hv _) (zO hst).1 ?_
   all_goals cases hl:kH { r.t with rules:=r.t.rules++[C] } s
   all_goals
    repeat' first|simp (disch:=omega) only[go_sem,aC,aD,aE,hk,hap,qR,jb,iQ,bF,aB,if_false,bO,aT]|refine aG ?_|refine aF ?_ ?_<;>intro hw<;>try omega|fail
   all_goals first|exact⟨by simp[hst,hl,oneOf],_,_,rfl,fin _ _⟩|skip
end Go.Proofs.YtcjcnfcedihckaaGreatDoor
namespace Go.Proofs.YtcjcnfcedihckaaGreatDoor
open Go.AM
set_option maxRecDepth 4000
def Fz(el:El)(v:AV)(ys:List AV): Prop:=(ys=[]/\v = .au)\/v = .aO false el ys
def Fz.view{σ : ae}{el:El}{v:AV}{ys:List AV}(h:Fz el v ys)(hp:AV.cB ys=true): View σ v (.aO false el ys):=by
 rcases h with⟨rfl,rfl⟩|rfl
 ·exact .au _
 ·exact .refl _ (by simpa[AV.dF]using hp)
def cR.Ub {P : Program} {f : FuncId} {args : List AV} {S : ae} {R : Out -> ae -> Prop} {k q : Nat} {el : El} {v : AV} {ys pre post : List AV} (hk : S[k]? = some (.cells (pre ++ v :: post))) (h : Lv S el q v ys)
    (hR:∀ S' v',Fz el v' ys->S'[k]? = some (.cells (pre++v'::post))->(∀ j o,S[j]? = some o->j≠k->(ys≠[]->j≠q)->S'[j]? = some o)->cR P f args S' R):cR P f args S R:=by
 rcases h with⟨rfl,rfl⟩|⟨h1,rfl,h3⟩
 ·exact hR S .au (.inl ⟨rfl,rfl⟩) hk (fun j o hj _ _=>hj)
 ·have hkq:k≠q:=fun e=>by subst e;rw[hk]at h3;cases h3
  refine cR.agE (pre++ .aO false el ys::post) h3 hk h1 (by simp) (fun i=>?_) (hR _ _ (.inr rfl) ?_ ?_)
  ·by_cases e:i=pre.length
   ·subst e;right;simp[aj]
   ·left;simp only[aj];rcases Nat.lt_or_ge i pre.length with hl|hl
    ·rw[aH hl,aH hl]
    ·rw[bL hl,bL hl];obtain⟨m,hm⟩:∃ m,i-pre.length=m+1:=⟨i-pre.length-1,by omega⟩;rw[hm,dQ,dQ]
  ·rw[List.getElem?_set_self (by simpa using ey hk)]
  ·intro j o hj hne hq;rw[List.getElem?_set_ne (Ne.symm hne),List.getElem?_set_ne (Ne.symm (hq h1))];exact hj
def LL{σ : ae}{xs ys:List AV}{a b:AV}(h:bS σ xs ys)(hab:View σ a b): bS σ (xs++[a]) (ys++[b]):=by
 refine⟨by simp[h.1],fun i hi=>?_⟩;simp only[aj];rcases Nat.lt_or_ge i xs.length with hl|hl
 ·rw[aH hl,aH (by have:=h.1;omega)];have:=h.2 i hl;simpa only[aj]using this
 ·have:i=xs.length:=by simp at hi;omega
  subst this;rw[bL (Nat.le_refl _),bL (by have:=h.1;omega),h.1];simpa using hab
def O7{S S':ae}{k q:Nat}{l:List ef}{o x:AV}{q0:Nat}{ys:List AV}{c:ef}(h:jV S k l o q0 ys)(hy:ys=[])(hx:View [] x (dU c))(h1:S'[q]? = some (.vec EK [x])): jV S' k (l++[c]) (.own EK q 1 0 1) q (ys++[x]):=by
 subst hy;exact⟨by rw[gD];exact LL h.vw hx,.inr ⟨by simp,by simp,by simpa using h1⟩⟩
def O8{S S':ae}{k:Nat}{l:List ef}{o x:AV}{q0:Nat}{ys:List AV}{c:ef}(h:jV S k l o q0 ys)(hx:View [] x (dU c))(h1:S'[q0]? = some (.vec EK (ys++[x]))): jV S' k (l++[c]) (.own EK q0 (ys.length+1) 0 (ys.length+1)) q0 (ys++[x]) :=
 ⟨by rw[gD];exact LL h.vw hx,.inr ⟨by simp,by simp,h1⟩⟩
def Io{S:ae}{k:Nat}{l:List ef}{o:AV}{q0:Nat}{ys:List AV}(h:jV S k l o q0 ys): ys.length=l.length:=by
 have:=h.vw.1;simpa using this
def QA {S : ae} {k : Nat} {r : fV} {o i u p : AV} {q0 : Nat} {ys : List AV} (hn : 3 <= r.now) (hl : r.out.length < 64)
    (hk:S[k]? = some (.cells [o,I r.now,.str r.t.name,i,u,I r.t.aL,I r.t.agg,p])) (h0:jV S k r.out o q0 ys) (hi:Fz EC i (r.t.ins.map bu)) (hu:Fz EC u (r.t.outs.map bu)) (hp:Fz ER p (r.t.rules.map cu)) (si:i.scalar=true) (su:u.scalar=true) (sp:p.scalar=true) :
    cR aK 60 [.ref k 0,.str mI] S fun o' S'=>o' = .ret (.bool true)/\ ∃ o1 q1 W6,S'[k]? = some (.cells [o1,I 0,.str r.t.name,i,u,I r.t.aL,I r.t.agg,p])/\jV S' k (r.out++[{ eV with kind:=1,table:=r.t }]) o1 q1 W6:=by
 have c1:=nG mI 32 (by decide);have e1:cD 32 mI=(mI,[],false):=by decide
 rw[e1]at c1;simp only[vN]at c1;have lt:=ey hk
 have hx:View [] (.agg [I 1,.str r.t.name,i,u,I r.t.aL,I r.t.agg,p,.str [],I 0,.au,I 0,I 0]) (dU { eV with kind:=1,table:=r.t }) :=
  F9 (c:= { eV with kind:=1,table:=r.t }) (hi.view (xk _)) (hu.view (xk _)) (hp.view (CB _)) (.au _)
 have hlen:=Io h0;have hsc:True/\[AV.str r.t.name,i,u,I r.t.aL,I r.t.agg,p].all AV.scalar=true/\7<=12:=⟨trivial,by simp only[List.all_cons,List.all_nil,si,su,sp];rfl,by decide⟩;have hfit:AV.fits ⟨true,12⟩ (.agg [.int .i64 1,.str r.t.name,i,u,I r.t.aL,I r.t.agg,p,W.e0,W.z0,.au,W.z0,W.z0])=true/\0<1:=⟨by simp only[AV.fits,List.all_cons,List.all_nil,si,su,sp];rfl,by decide⟩;have C7:([AV.agg [.int .i64 1,.str r.t.name,i,u,I r.t.aL,I r.t.agg,p,W.e0,W.z0,.au,W.z0,W.z0]].all fun a=>AV.fits ⟨true,12⟩ a)=true:=by rw[List.all_cons,hfit.1];rfl
 have hr1:([AV.agg [.int .i64 1,.str r.t.name,i,u,I r.t.aL,I r.t.agg,p,W.e0,W.z0,.au,W.z0,W.z0]].all fun a=>AV.fits ⟨true,12⟩ a)=true/\fR 1 ⟨true,12⟩:=⟨C7,by unfold fR;decide⟩;have h0':=h0;rcases h0.o with⟨he,rfl⟩|⟨he,rfl,hq⟩
 ·have hap:∀ d:aZ,(S++[d])[k]? = some (.cells [.au,I r.now,.str r.t.name,i,u,I r.t.aL,I r.t.agg,p]):=fun d=>by rw[aH lt];exact hk
  have iQ:∀ d c:aZ,((S++[d]).set k c)[k]? = some c:=fun d c=>List.getElem?_set_self (by simp;omega)
  have fin:∀ c:aZ,jV ((S++[aZ.vec EK [.agg [I 1,.str r.t.name,i,u,I r.t.aL,I r.t.agg,p,.str [],I 0,.au,I 0,I 0]]]).set k c) k (r.out++[{ eV with kind:=1,table:=r.t }]) (.own EK S.length 1 0 1) S.length (ys++[.agg [I 1,.str r.t.name,i,u,I r.t.aL,I r.t.agg,p,.str [],I 0,.au,I 0,I 0]]):=fun c =>
   O7 h0 he hx (by rw[List.getElem?_set_ne (by omega)];simp)
  refine eS.go ?_;unfold eY;intro Q aC aD aE;repeat' first|simp (disch:=omega) only[go_sem,aC,aD,aE,hk,hap,iQ,si,su,sp,bF,aB,if_false,bO,aT]|refine aG ?_|refine aF ?_ ?_<;>intro hw<;>try omega|fail
  all_goals first|(exfalso;omega)|(exfalso;simp_all;done)|exact⟨rfl,_,_,_,rfl,fin _⟩|skip
 ·have sC:q0≠k:=fun e=>by subst e;rw[hq]at hk;cases hk
  have hap:∀ e:aZ,(S.set q0 e)[k]? = some (.cells [.own EK q0 ys.length 0 ys.length,I r.now,.str r.t.name,i,u,I r.t.aL,I r.t.agg,p]):=fun e=>by rw[List.getElem?_set_ne sC];exact hk
  have iQ:∀ e c:aZ,((S.set q0 e).set k c)[k]? = some c:=fun e c=>List.getElem?_set_self (by simp;omega)
  have fin:∀ c:aZ,jV ((S.set q0 (aZ.vec EK (ys++[.agg [I 1,.str r.t.name,i,u,I r.t.aL,I r.t.agg,p,.str [],I 0,.au,I 0,I 0]]))).set k c) k (r.out++[{ eV with kind:=1,table:=r.t }]) (.own EK q0 (ys.length+1) 0 (ys.length+1)) q0 (ys++[.agg [I 1,.str r.t.name,i,u,I r.t.aL,I r.t.agg,p,.str [],I 0,.au,I 0,I 0]]):=fun c =>
   O8 h0 hx (by rw[List.getElem?_set_ne (Ne.symm sC),List.getElem?_set_self (ey hq)])
  refine eS.go ?_;unfold eY;intro Q aC aD aE;repeat' first|simp (disch:=omega) only[go_sem,aC,aD,aE,hk,hap,hq,iQ,si,su,sp,bF,aB,if_false,bO,aT]|refine aG ?_|refine aF ?_ ?_<;>intro hw<;>try omega|fail
  all_goals first|(exfalso;omega)|(exfalso;simp_all;done)|exact⟨rfl,_,_,_,rfl,fin _⟩|skip
