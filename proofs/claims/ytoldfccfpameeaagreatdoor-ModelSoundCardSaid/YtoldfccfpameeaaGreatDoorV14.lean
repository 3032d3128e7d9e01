/- Part. -/
import Derived.Test.YtoldfccfpameeaaGreatDoorV13
set_option linter.all false
set_option maxHeartbeats 4000000
namespace Go.Proofs.YtoldfccfpameeaaGreatDoor
open Go.AM
def tH(e:Int): Prop:=e=2\/e=5\/e=13\/e=14\/e=15\/e=16
def Ho{e:Int}(h:tH e): e≠0/\e≠21/\0<=e/\e<=99:=by unfold tH at h;omega
def aio{cs:List cJ}{row:List aW}(hrow:∀ w ∈ row,ug w)(v:aW){t:Test}(ht:zb t): (uN cs row v t).2=0\/tH (uN cs row v t).2:=by
 have ga:=pV (cs:=cs) hrow ht.1.1;have gb:=pV (cs:=cs) hrow ht.2.1
 have hT:∀ a b,(zg t v a b).2=0\/tH (zg t v a b).2:=fun a b=>by
  unfold zg;split
  ·exact .inl rfl
  exact .inr (.inr (.inr (.inr (.inl rfl))))
 unfold uN;revert ga gb;generalize j0 t.a cs row=ra;generalize j0 t.b cs row=rb;intro ga gb;cases ra with
 | err e=>exact .inr ga
 | ok a =>
   dsimp only;split
   ·cases rb with
    | err e=>exact .inr gb
    | ok b=>exact hT _ _
   exact hT _ _
def Tq{cs:List cJ}{row:List aW}(hrow:∀ w ∈ row,ug w)(v:aW)(any neg:Bool): ∀ {l:List Test},(∀ t ∈ l,zb t)->(uO cs row v any neg l).2=0\/tH (uO cs row v any neg l).2
 | [],_=> .inl rfl
 | t :: r, h => by
   have ht:=aio (cs:=cs) hrow v (h t aR);unfold uO;split
   ·rename_i he;rcases ht with ht|ht
    ·exact absurd ht he
    exact .inr ht
   split
   ·exact .inl rfl
   exact Tq hrow v any neg (fun t ht=>h t (by simp[ht]))
def ad3{cs:List cJ}{row:List aW}(hrow:∀ w ∈ row,ug w)(v:aW){c:Cell}(hc:pS c): (nF c v cs row).2=0\/tH (nF c v cs row).2:=by
 unfold nF;split
 ·exact Tq hrow v _ _ hc.2
 exact .inr (.inl rfl)
def Tr{cs:List cJ}{row:List aW}(hrow:∀ w ∈ row,ug w): ∀ {l:List Cell} {k:Nat},(∀ c ∈ l,pS c)->(nG cs row l k).2=0\/tH (nG cs row l k).2
 | [],_,_=> .inl rfl
 | c :: r, k, h => by
   rw[Ij];split
   ·exact ad3 hrow _ (h c aR)
   exact Tr hrow (fun c hc=>h c (by simp[hc]))
def Gx {Gb : Int} {cs : List cJ} {row : List aW} (hrow : ∀ w ∈ row, ug w) : ∀ {ls : List kF} {k : Nat} {acc : List Int}, (∀ l ∈ ls, ∀ c ∈ l.cells, pS c) -> acc.Pairwise (· < ·) -> (∀ i ∈ acc, 0 <= i /\ i < k) ->
    let R:=s5 Gb cs row ls k acc
    (R.1.Pairwise (· < ·)/\ ∀ i ∈ R.1,0<=i/\i<(k+ls.length:Nat))/\(R.2.2=0\/(R.1=[]/\tH R.2.2/\0<=R.2.1/\R.2.1<(k+ls.length:Nat)))
 | [],k,acc,_,h1,h2=>⟨⟨h1,fun i hi=>by have:=h2 i hi;simp;omega⟩,.inl rfl⟩
 | l :: r, k, acc, hc, h1, h2 => by
   have he:=Tr (cs:=cs) hrow (k:=0) (hc l aR);have hr:∀ l ∈ r,∀ c ∈ l.cells,pS c:=fun l hl=>hc l (by simp[hl])
   have a1:(acc++[(k:Int)]).Pairwise (· < ·):=fS.2 ⟨h1,aR,fun a ha b hb=>by
    have:=h2 a ha;obtain rfl:b=k:=by simpa using hb
    omega⟩
   have a2:∀ i ∈ acc++[(k:Int)],0<=i/\i<(k+1:Nat):=fun i hi=>by
    rcases List.mem_append.1 hi with hi|hi
    ·have:=h2 i hi;omega
    obtain rfl:i=k:=by simpa using hi
    omega
   have e:k+(l::r).length=k+1+r.length:=by simp;omega
   rw[e];dsimp only;rw[Ik];split
   ·rename_i hne;refine⟨⟨.nil,fun i hi=>by cases hi⟩,.inr ⟨rfl,?_,by dsimp only;omega,by dsimp only;omega⟩⟩;rcases he with he|he
    ·exact absurd he hne
    exact he
   split
   ·split
    ·exact ⟨⟨aR, fun i hi => by
      obtain rfl:i=k:=by simpa using hi
      omega⟩,.inl rfl⟩
    exact Gx hrow hr a1 a2
   exact Gx hrow hr h1 (fun i hi=>by have:=h2 i hi;omega)
def O9: ∀ {l:List Int} {n:Int},l.Pairwise (· < ·)->(∀ i ∈ l,n<=i)-> ∀ {m:Nat},(∀ i ∈ l,i<n+m)->l.length<=m
 | [],_,_,_,_,_=>by simp
 | a :: r, n, h1, h2, m, h3 => by
   have ha:=h2 a aR;have hb:=h3 a aR;have h4:=fB.1 h1;obtain⟨m',rfl⟩:∃ m',m=m'+1:=⟨m-1,ae⟩;have:=O9 (l:=r) (n:=n+1) h4.2 (fun i hi=>by have:=h4.1 i hi;omega) (m:=m') (fun i hi=>by have:=h3 i (by simp[hi]);omega);simp only[aO];omega
def O_ {r : Ready} (hr : Hl r) {row : List aW} (hrow : mM row) :
    ((eJ r row).1.Pairwise (· < ·) /\ (∀ i ∈ (eJ r row).1, 0 <= i /\ i.toNat < r.lines.length) /\ (eJ r row).1.length <= 24) /\
      ((eJ r row).2.2=0\/(eJ r row).2.2=21\/(tH (eJ r row).2.2/\0<=(eJ r row).2.1/\(eJ r row).2.1.toNat<r.lines.length)):=by
 unfold eJ;split
 ·have h:=Gx (Gb:=r.table.bY) (cs:=r.table.ins) hrow.2 (ls:=r.lines) (k:=0) (acc:=[]) (fun l hl=>(hr.line l hl).1.2) .nil (fun i hi=>by cases hi);dsimp only at h;generalize s5 r.table.bY r.table.ins row r.lines 0 []=R at *;have hl:=hr.lines;refine⟨⟨h.1.1,fun i hi=>by have:=h.1.2 i hi;omega,?_⟩,?_⟩
  ·have:=O9 (n:=0) h.1.1 (fun i hi=>(h.1.2 i hi).1) (m:=r.lines.length) (fun i hi=>by have:=h.1.2 i hi;omega);omega
  rcases h.2 with h2|⟨_,h3,h4,h5⟩
  ·exact .inl h2
  exact .inr (.inr ⟨h3,h4,ae⟩)
 exact⟨⟨.nil,⟨fun i hi=>(by cases hi),Nat.zero_le _⟩⟩,.inr (.inl rfl)⟩
def LU {cs : List cJ} {row : List aW} (hrow : ∀ w ∈ row, ug w) : ∀ {xs : List Expr} {acc : List aW}, (∀ x ∈ xs, jj x) -> (∀ v ∈ acc, iw v) ->
    ((jM cs row xs acc).2=0/\(jM cs row xs acc).1.length=acc.length+xs.length/\ ∀ v ∈ (jM cs row xs acc).1,iw v)\/tH (jM cs row xs acc).2
 | [],acc,_,h=> .inl ⟨rfl,by simp[jM],h⟩
 | x :: r, acc, hx, h => by
   have g:=pV (cs:=cs) hrow (hx x aR);simp only[jM];revert g;cases j0 x cs row with
   | err e=>intro g;exact .inr g
   | ok v =>
     intro g
     have:=LU (cs:=cs) hrow (xs:=r) (acc:=acc++[v]) (fun x h=>hx x (by simp[h])) (fun w hw=>by
      rcases List.mem_append.1 hw with hw|hw
      ·exact h w hw
      ·obtain rfl:w=v:=by simpa using hw
       exact g)
     rcases this with⟨h1,h2,h3⟩|h1
     ·exact .inl ⟨h1,by rw[h2];simp;omega,h3⟩
     exact .inr h1
def JR {r : Ready} (hr : Hl r) {row : List aW} (hrow : mM row) : ∀ {q : List Int} {acc : List (List aW)}, (∀ i ∈ q, 0 <= i /\ i.toNat < r.lines.length) -> (∀ a ∈ acc, a.length = r.table.outs.length /\ ∀ v ∈ a, iw v) ->
    ((lW r row q acc).2.2=0/\(lW r row q acc).1.length=acc.length+q.length/\ ∀ a ∈ (lW r row q acc).1,a.length=r.table.outs.length/\ ∀ v ∈ a,iw v)\/(tH (lW r row q acc).2.2/\(lW r row q acc).2.1 ∈ q)
 | [],acc,_,h=> .inl ⟨rfl,by simp[lW],h⟩
 | i :: q, acc, hq, h => by
   have hi:=hq i aR;have hl:=hr.line _ (bx hi.2);have ho:=LU (cs:=r.table.ins) hrow.2 (xs:=(r.lines.getD i.toNat default).outs) (acc:=[]) (fun x hx=>(hl.2.2 x hx).1) (fun v hv=>by cases hv);rw[LR];rcases ho with⟨h1,h2,h3⟩|h1
   ·rw[aj ae]
    have:=JR hr hrow (q:=q) (acc:=acc++[(jM r.table.ins row (r.lines.getD i.toNat default).outs []).1]) (fun j hj=>hq j (by simp[hj])) (fun a ha=>by
     rcases List.mem_append.1 ha with ha|ha
     ·exact h a ha
     ·obtain rfl:=eC.1 ha;exact⟨by rw[h2,hl.2.1];simp,h3⟩)
    rcases this with⟨k1,k2,k3⟩|⟨k1,k2⟩
    ·exact .inl ⟨k1,by rw[k2];simp;omega,k3⟩
    exact .inr ⟨k1,dm _ k2⟩
   rw[au (Ho h1).1];exact .inr ⟨h1,aR⟩
set_option maxRecDepth 4000
def Gy(p:uQ × Int): AV:= .bR [ow p.1,I p.2]
def yx{σ : ai}{r0 r1:AV}{o:uQ}{e c:Int}{p:uQ × Int}(hp:p=(o,c))(h:I o.err=I e)(h1:View σ r0 (ep o.rules))(h2:View σ r1 (ez o.rows)): ∃ r,Out.ret (oneOf [.agg [I e,r0,r1],I c])=Out.ret r/\View σ r (Gy p):=by
 subst hp;unfold Gy ow;rw[h];exact gN (.cons (View.nO (.cons (.refl _ rfl) (.cons h1 (.cons h2 (.nil _))))) (.cons (.refl _ rfl) (.nil _)))
structure YG (r:Ready) (row:List aW):Prop where
 LV:Hl r
 WB:mM row
 aip:0<r.table.outs.length
 ord:∀ c ∈ r.table.outs,c.order.length<=2 ^ 60
 agg:r.table.bY=5->0<=r.table.agg/\r.table.agg<=4
 sum:mu r.table.ins row=true->r.table.bY=5->r.table.agg=1-> ∀ l ∈ r.lines,(jM r.table.ins row l.outs []).2=0->(aeW (jM r.table.ins row l.outs []).1).kind=0\/(aeW (jM r.table.ins row l.outs []).1).kind=1
def Ei{r:Ready}{row:List aW}(h:(eJ r row).2.2=21): jk r row=(⟨0,[],[]⟩,21):=by unfold jk;exact if_pos h
def Im{r:Ready}{row:List aW}(h:(eJ r row).2.2≠21)(h0:(eJ r row).2.2≠0): jk r row=(⟨(eJ r row).2.2,[(eJ r row).2.1],[]⟩,0):=by unfold jk;rw[if_neg h,if_pos h0]
def Cq{r:Ready}{row:List aW}(h0:(eJ r row).2.2=0)(h1:r.table.bY=1/\1<(eJ r row).1.length): jk r row=(⟨19,(eJ r row).1,[]⟩,0):=by unfold jk;rw[if_neg ae,if_neg ae,if_pos h1]
def Gz{r:Ready}{row:List aW}(h0:(eJ r row).2.2=0)(h1:¬ (r.table.bY=1/\1<(eJ r row).1.length)): jk r row=if(lW r row (eJ r row).1 []).2.2≠0 then(⟨(lW r row (eJ r row).1 []).2.2,[(lW r row (eJ r row).1 []).2.1],[]⟩,0)else (nQ r.table (eJ r row).1 (lW r row (eJ r row).1 []).1,0):=by unfold jk;rw[if_neg ae,if_neg ae,if_neg h1]
def Ts{o1 o2 o3:aX}{τ : List aX}{M:List (List aW)}{n:Nat}(h:n=M.length): View (o1::o2::o3::kr M:: τ) (.own E1 3 n 0 n) (ez M):=by
 subst h
 have:=View.own (σ:=o1::o2::o3::kr M:: τ) none E1 3 0 M.length (M.map br) (M.map br) rfl aR aR (fun i hi=>by
  rw[bJ];exact .refl _ (j6 (Tk _) i))
 rw[dF]at this;exact this
def YH(r:Ready)(row:List aW)(h:YG r row): aQ aI 65 [lB r,br row] (Gy (jk r row)):=by
 have c1:=aa8 r h.LV row h.WB;have hR:=(O_ h.LV h.WB).1;have d1:=Ei (r:=r) (row:=row);have d2:=Im (r:=r) (row:=row);have d3:=Cq (r:=r) (row:=row);have d4:=Gz (r:=r) (row:=row);obtain⟨D,hD⟩:=cq (jk r row);rw[hD]at d1 d2 d3 d4 ⊢;clear hD;have cT:=fun o1 o2=>ad1 r h.LV row h.WB (eJ r row).1 hR.2.1 hR.2.2 o1 o2;have hT:=JR h.LV h.WB (q:=(eJ r row).1) (acc:=[]) hR.2.1 (fun a h=>by cases h);have cC:=fun(hp:¬ (r.table.bY=5/\r.table.agg=0)) rows hr hlen hw=>YE r.table hp (eJ r row).1 rows h.LV.outs h.aip h.ord hr hlen hw;have hs:=fun(hp:r.table.bY=5) (ha:r.table.agg=0) rows (hl:rows.length<40) hw σ k iz=>LS r.table hp ha (eJ r row).1 rows hl hw σ k iz;have ami:=h.LV.outs;have h24:=hR.2.2;clear h hR;generalize eJ r row=R at *;obtain⟨rules,aof,e⟩:=R;dsimp only at *;have hch:∀ rows,nQ r.table rules rows=nQ r.table rules rows:=fun _=>rfl;simp only[lB,b_,eL,qb,br,eRu,ep]at c1 cT ⊢;by_cases Pa:e=21
 ·have d1:=d1 Pa;subst d1;subst Pa;clear cT cC hs d2 d3 d4 hT;refine aY tD ?_ (by simp[Gy,ow,AV.dy,AV.cE]);intro Q aJ aK aL;repeat' first|refine aC ?_|refine aB ?_ ?_<;>intro hw<;>try omega|fail
  all_goals first|exact yx rfl rfl (.aU _) (.aU _)|exact bI|skip
 by_cases h0:e≠0
 ·have d2:=d2 Pa h0;subst d2;clear cT cC hs d1 d3 d4 hT;refine aY tD ?_ (by simp[Gy,ow,AV.dy,AV.cE]);intro Q aJ aK aL;repeat' first|refine aC ?_|refine aB ?_ ?_<;>intro hw<;>try omega|fail
  all_goals first|exact yx rfl rfl uT (.aU _)|exact bI|skip
 have h0:e=0:=ae;subst h0;by_cases hu:r.table.bY=1/\1<rules.length
 ·have d3:=d3 rfl hu;subst d3;clear cT cC hs d1 d2 d4 hT;refine aY tD ?_ (by simp[Gy,ow,AV.dy,AV.cE]);intro Q aJ aK aL;repeat' first|refine aC ?_|refine aB ?_ ?_<;>intro hw<;>try omega|fail
  all_goals first|exact yx rfl rfl ov (.aU _)|exact bI|skip
 have d4:=d4 rfl hu;clear d1 d2 d3;generalize lW r row rules []=T at *;obtain⟨rows,aog,e⟩:=T;dsimp only at *;refine aY tD ?_ (by simp[Gy,ow,AV.dy,AV.cE]);intro Q aJ aK aL;repeat' first|refine aC ?_|with_reducible refine bS ((cT _ _)) ?_|refine aB ?_ ?_<;>intro hw<;>try omega|fail
 all_goals
  rintro o s (⟨he,rfl,τ,rfl⟩|⟨he,rfl,o3,τ,rfl⟩)
  ·dsimp only at he;rw[au he]at d4;subst d4;clear cT cC hs hT hch;repeat' first|refine aC ?_|refine aB ?_ ?_<;>intro hw<;>try omega|fail
   all_goals first|exact yx rfl rfl uT (.aU _)|exact bI|skip
  dsimp only at he;subst he;rw[aj aR]at d4
  obtain⟨_,hlen,hw⟩:(0:Int)=0/\rows.length=[].length+rules.length/\ ∀ a ∈ rows,a.length=r.table.outs.length/\ ∀ v ∈ a,iw v:=by
   rcases hT with hT|hT
   ·exact hT
   exact absurd rfl (Ho hT.1).1
  have hlen:rules.length=rows.length:=by simp at hlen;omega
  clear hT cT;by_cases hp:r.table.bY=5/\r.table.agg=0
  ·have hs3:=fun o1 o2 o3 τ=>hs hp.1 hp.2 rows ae (fun a h=>by have:=(hw a h).1;omega) (o1::o2::o3::kr rows:: τ) 3 rfl;have hch:nQ r.table rules rows=⟨0,rules,eR rows⟩:=by unfold nQ;rw[if_pos hp.1,if_pos hp.2];rfl
   rw[hch]at d4;have hlM:=oJ rows;clear hs cC;generalize eR rows=M at *;subst d4;simp only[dP,fU,b_,eL,ep]at hs3;repeat' first|refine aC ?_|with_reducible refine bS ((hs3 _ _ _ _)) ?_|refine aB ?_ ?_<;>intro hw<;>try omega|fail
   rintro o s' ⟨rfl,k_,rfl⟩;repeat' first|refine aC ?_|refine aB ?_ ?_<;>intro hw<;>try omega|fail
   all_goals first|exact yx rfl rfl ov (Ts hlM.symm)|exact bI|skip
  have iJ:=cC hp rows ae hlen (fun a h=>⟨(hw a h).1,fun v hv=>((hw a h).2 v hv).2.1⟩);clear hs cC;generalize nQ r.table rules rows=O at *;subst d4;have hf:=fun o1 o2 o3 τ=>aQ.freeze (az:=[dP r.table,ep rules,tS 3 rows]) (σ:=o1::o2::o3::kr rows:: τ) (q:=3) (o:=kr rows) iJ rfl rfl (.cons (.refl _ aR) (.cons (.refl _ aR) (.cons (Ts (o1:= .dead) (o2:= .dead) (o3:= .dead) (τ:=[]) rfl) (.nil _)))) aR;simp only[dP,fU,b_,eL,ep,ow,ez]at hf;clear iJ;repeat' first|refine aC ?_|with_reducible refine bS ((hf _ _ _ _)) ?_|refine aB ?_ ?_<;>intro hw<;>try omega|fail
  rintro o s' ⟨rfl,rfl⟩;repeat' first|refine aC ?_|refine aB ?_ ?_<;>intro hw<;>try omega|fail
  all_goals first|exact yx rfl rfl ov Au|exact bI|skip
def Av(n:Int): Nat:=if n<0 then(2*(-1-n)+1).toNat else(2*n).toNat
def zl: Nat->Nat->aT
 | 0,c=>[UInt8.ofNat c]
 | f+1,c=>if c<128 then [UInt8.ofNat c]else UInt8.ofNat (128+c % 128)::zl f (c / 128)
def iN(n:Int): aT:=zl 9 (Av n)
def ic(s:aT): aT:=iN s.length++s
def ad4{n:Int}(h : -9223372036854775808<=n)(h':n<=9223372036854775807): Av n<18446744073709551616:=by
 unfold Av;split<;>omega
def u8(n:Nat)(h:n<256): (UInt8.ofNat n).toNat=n:=by simp[UInt8.toNat_ofNat'];omega
def oz(v:aW): aT:=iN v.kind++(if v.kind=2 then ic v.s else if v.kind=1\/v.kind=3 then iN v.n else [])
def po(l:List aW): aT:=iN l.length++l.flatMap oz
def Io{v:aW}(h:bZ v=true): v.kind=0/\v=v0\/v.kind=1/\v.s=[]\/v.kind=2/\v.n=0/\v.s.length<=40\/v.kind=3/\v.s=[]:=by
 obtain⟨k,n,s⟩:=v;unfold bZ at h;dsimp only at h ⊢;split at h
 ·left;simp at h;simp[v0, *]
 split at h
 ·right;left;simp at h;simp[*]
 split at h
 ·right;right;left;simp[mj]at h;simp[*]
 split at h
 ·right;right;right;simp at h;simp[*]
 ·cases h
def pC(n:Int): Prop:= -9223372036854775808<=n/\n<=9223372036854775807
def w_(l:List aW): Prop:=l.length<=2 ^ 30/\ ∀ v ∈ l,pC v.n/\v.s.length<=2 ^ 30
def wB(o:Bool)(c:cJ): aT:=ic c.name++iN c.kind++(if o then po c.order else [])
def sk(o:Bool)(l:List cJ): aT:=iN l.length++l.flatMap (wB o)
def mN(r:h_): aT:=r.cells.flatMap ic++r.outs.flatMap ic
def LW(t:Table): aT:=ic t.name++iN t.bY++iN t.agg++sk false t.ins++sk true t.outs++iN t.rules.length++t.rules.flatMap mN
def mT(t:Table): aT × Int:=if(fW t).2.2.2≠0 then([],(fW t).2.2.2)else if yq (fW t).1 t=false then([],4)else if 1400<(LW t).length then([],5)else (LW t,0)
def YI(o:Bool)(c:cJ): Prop:=c.name.length<=1400/\pC c.kind/\(o=false->c.order=[])/\c.order.length<=8/\ ∀ v ∈ c.order,bZ v=true/\pC v.n
def ajX(t:Table): Prop:=t.name.length<=1400/\pC t.bY/\pC t.agg/\(t.ins.length<=6/\ ∀ c ∈ t.ins,YI false c)/\(0<t.outs.length/\t.outs.length<=6/\ ∀ c ∈ t.outs,YI true c)/\t.rules.length<=24 /\
 ∀ r ∈ t.rules,r.cells.length=t.ins.length/\r.outs.length=t.outs.length/\(∀ s ∈ r.cells,s.length<=1400)/\ ∀ s ∈ r.outs,s.length<=1400
def Ip{t:Table}{s:aT}(h:mT t=(s,0)): (fW t).2.2.2=0/\yq (fW t).1 t=true/\s=LW t/\s.length<=1400:=by
 unfold mT at h;split at h
 ·rename_i h1;injection h with _ h2;exact absurd h2 h1
 split at h
 ·injection h with _ h2;cases h2
 split at h
 ·injection h with _ h2;cases h2
 rename_i h1 h2 h3;injection h with h4 _;exact⟨ae,by simpa using h2,h4.symm,by rw[<-h4];omega⟩
def Np{α : Type}{f : α->aT}{l:List α}{x : α}(h:x ∈ l): (f x).length<=(l.flatMap f).length:=by
 induction l with
 | nil=>cases h
 | cons y l ih =>
   rw[jz,aA];rcases List.mem_cons.1 h with rfl|h
   ·omega
   have:=ih h;omega
def Aw{l:List cJ}(h:lg l=0): l.length<=6/\ ∀ c ∈ l,iL c.name=true/\1<=c.kind/\c.kind<=3:=by
 have h6:l.length<=6:=by
  unfold lg at h;split at h
  ·omega
  omega
 refine⟨h6,fun c hc=>?_⟩;obtain⟨i,hi,rfl⟩:=bP hc;have e:l[i]=l.getD i default:=by rw[aq,aG hi];rfl
 rw[e];refine⟨?_,Dr h hi⟩;unfold lg at h;rw[aj ae]at h;split at h
 ·rename_i j hj;have:=fA hj;simp[h]at this
 rename_i hn;have:=fC.1 hn i (by simpa using hi);have h0:vT l i=0:=by simpa using this
 unfold vT at h0;split at h0
 ·omega
 rename_i hh;have:=not_or.1 hh;simpa using this.1
def vY{s:aT}(h:iL s=true): s.length<=16:=by
 simp only[iL,aD,aM]at h;exact h.1.2
def DN{l:List cJ}{b:Bool}(h:mq l b=0): lg l=0/\0<l.length/\ ∀ c ∈ l,lD c b=true:=by
 obtain⟨h1,h2⟩:=rG h;refine⟨h1,h2,fun c hc=>?_⟩;unfold mq at h;rw[aj ae]at h;split at h
 ·omega
 rename_i hh;have:=(not_or.1 hh).2;rw[List.any_eq_true]at this;cases hq:lD c b with
 | true=>rfl
 | false=>exact absurd ⟨c,hc,by rw[hq];rfl⟩ this
def LX{c:cJ}{b:Bool}(h:lD c b=true)(hk:wv c): (b=false->c.order=[])/\c.order.length<=8/\ ∀ v ∈ c.order,bZ v=true/\pC v.n:=by
 unfold lD at h;cases b with
 | false =>
   rw[aj aR,aM]at h;have:=dn.1 h;rw[this];exact⟨fun _=>rfl,aR,aR⟩
 | true =>
   rw[au rfl,aD,aM,aZ]at h;refine⟨fun h=>(by cases h),h.2.2,fun v hv=>?_⟩;refine⟨?_,(hk.2.2 v hv).1⟩;obtain⟨i,hi,rfl⟩:=bP hv;have:=h.1 i (by simpa using hi);simp only[FX,aD]at this;have e:c.order[i]=c.order.getD i default:=by rw[aq,aG hi];rfl
   rw[e];exact this.1.1
def Iq{t:Table}(h:mJ t=true): 1<=t.bY/\t.bY<=6/\0<=t.agg/\t.agg<=4:=by
 unfold mJ at h;split at h
 ·cases h
 split at h
 ·omega
 split at h
 ·cases h
 omega
def agh{t:Table}{s:aT}(ok:jV t)(h:mT t=(s,0)): ajX t:=by
 obtain⟨h1,h2,h3,h4⟩:=Ip h;obtain⟨h5,_,_⟩:=Ig h1;obtain⟨hf,hl,_⟩:=yc h5
 have hn:iL t.name=true:=by
  unfold jU at hf;split at hf
  ·omega
  rename_i hh;simpa using hh
 have hp:mq t.ins false=0/\mq t.outs (decide (t.bY=3))=0/\mJ t=true/\t.rules.length<=24:=by
  unfold jU at hf;rw[hn,aj aR]at hf;split at hf
  ·contradiction
  split at hf
  ·contradiction
  split at hf
  ·cases hf
  split at hf
  ·cases hf
  rename_i a b c d;exact⟨by simpa using a,by simpa using b,by simpa using c,ae⟩
 obtain⟨p1,p2,p3,p4⟩:=hp;obtain⟨i1,i2,i3⟩:=DN p1;obtain⟨o1,o2,o3⟩:=DN p2;have pp:=Iq p3;have hi:=Aw i1;have ho:=Aw o1
 have hc:∀ (b b':Bool) (c:cJ),(iL c.name=true/\1<=c.kind/\c.kind<=3)->lD c b=true->wv c->(b'=false->b=false)->YI b' c:=fun b b' c q1 q2 q3 q4=>by
  have w1:=vY q1.1;have w2:=LX q2 q3;exact⟨ae,⟨ae,ae⟩,fun e=>w2.1 (q4 e),w2.2⟩
 refine⟨by have:=vY hn;omega,⟨ae,ae⟩,⟨ae,ae⟩,⟨hi.1,fun c hm=>hc false false c (hi.2 c hm) (i3 c hm) (ok.2.1.2 c hm) (fun _=>rfl)⟩,
  ⟨o2,ho.1,fun c hm=>hc _ true c (ho.2 c hm) (o3 c hm) (ok.2.2.1.2 c hm) (fun h=>(by cases h))⟩,p4,fun r hr=>?_⟩
 obtain⟨j,hj,rfl⟩:=bP hr;have e:t.rules[j]=t.rules.getD j default:=by rw[aq,aG hj];rfl
 have hz:=hl j hj;unfold kW at hz;rw[<-e]at hz;obtain⟨z1,z2,_⟩:=LA hz;have l1:(mN t.rules[j]).length<=(t.rules.flatMap mN).length:=Np hr
 have l2:(t.rules.flatMap mN).length<=1400:=by
  rw[h3]at h4;unfold LW at h4;simp only[aA]at h4;omega
 have e1:(mN t.rules[j]).length=(t.rules[j].cells.flatMap ic).length+(t.rules[j].outs.flatMap ic).length:=by unfold mN;rw[List.length_append]
 have e2:∀ s,(ic s).length=(iN s.length).length+s.length:=fun s=>by unfold ic;rw[List.length_append]
 refine⟨z1,z2,fun s hs=>?_,fun s hs=>?_⟩
 ·have:=Np (f:=ic) hs;have:=e2 s;omega
 have:=Np (f:=ic) hs;have:=e2 s;omega
def aiq: pC 0:=⟨da,da⟩
def Tt{v:aW}(h:bZ v=true): v.s.length<=40:=by
 rcases Io h with⟨_,h⟩|⟨_,h⟩|⟨_,_,h⟩|⟨_,h⟩
 ·rw[h];decide
 ·rw[h];decide
 ·exact h
 rw[h];decide
def ad5: ∀(k c:Nat),(zl k c).length<=k+1:=by
 intro k
 induction k with
 | zero=>intro c;simp[zl]
 | succ k ih => intro c; rw [zl]; split
                ·simp
                have:=ih (c / 128);simp;omega
def iT(n:Int): (iN n).length<=10:=ad5 9 _
structure iY where
 table:aT
 ver:Int
 input:List aW
 err:Int
 rules:List Int
 rows:List (List aW)
deriving Inhabited
def uU: iY:=⟨[],0,[],0,[],[]⟩
def ko(l:List aW): Bool:=decide (l.length<=6) && l.all bZ
def uV(l:List Int)(k:Nat): Int:=if k=0 then -1 else l.getD (k-1) 0
def Ax(l:List Int)(k:Nat): Bool:=decide (uV l k<l.getD k 0/\l.getD k 0<24)
def tI(l:List Int): Bool:=(List.range l.length).all (Ax l)
def rN(e:iY): Bool:=iL e.table && decide (1<=e.ver/\e.ver<=2147483648) && decide (0<=e.err/\e.err<=99) && tI e.rules && decide (e.rows.length<=24) && ko e.input && e.rows.all ko
def sn(e:iY): aT:=ic e.table++iN e.ver++po e.input++(iN e.err++iN e.rules.length)++e.rules.flatMap iN++iN e.rows.length++e.rows.flatMap po
def td(e:iY): Int:=if rN e=false then 2 else if 1400<(sn e).length then 5 else 0
def gV(e:iY): aT × Int:=if td e≠0 then([],td e)else (sn e,0)
def Nq{l:List Int}(h:tI l=true){k:Nat}(hk:k<l.length): uV l k<l.getD k 0/\l.getD k 0<24:=by
 have:=aZ.1 h k (eN.2 hk);simpa[Ax]using this
def agi{l:List Int}(h:tI l=true): ∀ k,k<l.length->(k:Int)<=l.getD k 0:=by
 intro k
 induction k with
 | zero=>intro hk;have:=(Nq h hk).1;unfold uV at this;rw[if_pos rfl]at this;omega
 | succ k ih =>
   intro hk;have h1:=ih ae;have h2:=(Nq h hk).1;unfold uV at h2;rw[aj ae,Nat.add_sub_cancel]at h2;omega
def ad6{l:List Int}(h:tI l=true): l.length<=24:=by
 rcases Nat.lt_or_ge 24 l.length with hn|hn
 ·have h1:=agi h 24 hn;have h2:=(Nq h hn).2;omega
 exact hn
def YJ{e:iY}(h:rN e=true): iL e.table=true/\(1<=e.ver/\e.ver<=2147483648)/\(0<=e.err/\e.err<=99)/\tI e.rules=true/\e.rows.length<=24/\ko e.input=true/\ ∀ l ∈ e.rows,ko l=true:=by
 simp only[rN,aD,aM,aZ]at h;obtain⟨⟨⟨⟨⟨⟨h1,h2⟩,h3⟩,h4⟩,h5⟩,h6⟩,h7⟩:=h;exact⟨h1,h2,h3,h4,h5,h6,h7⟩
def oA(e:iY): Prop:=e.table.length<=2 ^ 30/\pC e.ver/\w_ e.input/\pC e.err/\(e.rules.length<=2 ^ 30/\ ∀ n ∈ e.rules,pC n)/\e.rows.length<=2 ^ 30/\ ∀ l ∈ e.rows,w_ l
def YK{l:List aW}(h:ko l=true): l.length<=6/\ ∀ v ∈ l,bZ v=true:=by
 simp only[ko,aD,aM,aZ]at h;exact h
def Ir{e:iY}(h:td e=0): rN e=true/\(sn e).length<=1400:=by
 unfold td at h;split at h
 ·cases h
 rename_i h1;split at h
 ·cases h
 exact⟨by simpa using h1,ae⟩
def U4{e:iY}(h:(gV e).2=0): td e=0/\gV e=(sn e,0):=by
 unfold gV at *;split at h
 ·rename_i h1;exact absurd h h1
 rename_i h1;exact⟨ae,by rw[aj h1]⟩
def Hp: oA uU:=⟨da,aiq,⟨da,fun c hc=>(by cases hc)⟩,aiq,⟨da,fun c hc=>(by cases hc)⟩,da,fun c hc=>(by cases hc)⟩
def wC(a b:iY): Bool:=decide (a.table=b.table) && decide (a.ver=b.ver) && fq (fun x y=>x==y) a.input b.input && decide (a.err=b.err) && fq (fun x y:Int=>x==y) a.rules b.rules && fq (fq fun x y=>x==y) a.rows b.rows
def LY(a:iY): wC a a=true:=by
 unfold wC;rw[Dv a.input (fun x _=>by simp),Dv a.rules (fun x _=>by simp),Dv a.rows (fun x _=>Dv x (fun y _=>by simp))];simp
def wrap_u64(x:Int): di .u64 x=x % 18446744073709551616:=rfl
def wrap_u8(x:Int): di .u8 x=x % 256:=rfl
def xor_zero(k:IntKind)(x:Nat)(h:x<2 ^ k.bits): ((BitVec.ofInt k.bits (x:Int)) ^^^ (BitVec.ofInt k.bits 0)).toNat=x:=by
 have:BitVec.ofInt k.bits 0=0#k.bits:=aR;rw[this,BitVec.xor_zero];simp[Nat.mod_eq_of_lt h]
def YL(x:Nat)(h:x<18446744073709551616)(y:Int)(hy:y % 18446744073709551616=18446744073709551615): ((BitVec.ofInt 64 (x:Int)) ^^^ (BitVec.ofInt 64 y)).toNat=18446744073709551615-x:=by
 have e:BitVec.ofInt 64 y=BitVec.allOnes 64:=by
  apply BitVec.eq_of_toNat_eq;rw[BitVec.toNat_ofInt,BitVec.toNat_allOnes];omega
 rw[e,BitVec.xor_allOnes,BitVec.toNat_not];have:(BitVec.ofInt 64 (x:Int)).toNat=x:=by rw[BitVec.toNat_ofInt];omega
 rw[this]
def abi{n:Int}(h : -9223372036854775808<=n/\n<=9223372036854775807): iW .xor .u64 (di .u64 (di .u64 n*2)) (di .u64 (n.fdiv 9223372036854775808))=Av n:=by
 rw[oH];show di .u64 (((BitVec.ofInt 64 (di .u64 (di .u64 n*2))) ^^^ (BitVec.ofInt 64 (di .u64 (n.fdiv 9223372036854775808)))).toNat:Int)=Av n;rw[Int.fdiv_eq_ediv_of_nonneg _ da];simp only[wrap_u64];unfold Av;by_cases hn:n<0
 ·rw[au hn];have e1:(n % 18446744073709551616*2 % 18446744073709551616:Int)=((2*n+18446744073709551616).toNat:Int):=ae;rw[e1,YL _ ae _ ae];omega
 rw[aj hn];have e1:(n % 18446744073709551616*2 % 18446744073709551616:Int)=((2*n).toNat:Int):=ae;have e2:(n / 9223372036854775808 % 18446744073709551616:Int)=0:=ae;rw[e1,e2];have:=xor_zero .u64 (2*n).toNat (by show _<18446744073709551616;omega);have e3:IntKind.u64.bits=64:=rfl;rw[e3]at this;rw[this];omega
def ad7(w k x:Nat)(hx:x<2 ^ w)(hk:k<=w): ((BitVec.ofInt w (x:Int)) &&& (BitVec.ofInt w ((2 ^ k-1:Nat):Int))).toNat=x % 2 ^ k:=by
 have h2:2 ^ k-1<2 ^ w:=c7 (Nat.sub_lt (Nat.pow_pos da) da) (Nat.pow_le_pow_right da hk);rw[BitVec.toNat_and];have e1:(BitVec.ofInt w (x:Int)).toNat=x:=by rw[BitVec.ofInt_natCast,BitVec.toNat_ofNat,Nat.mod_eq_of_lt hx]
 have e2:(BitVec.ofInt w ((2 ^ k-1:Nat):Int)).toNat=2 ^ k-1:=by rw[BitVec.ofInt_natCast,BitVec.toNat_ofNat,Nat.mod_eq_of_lt h2]
 rw[e1,e2,Nat.and_two_pow_sub_one_eq_mod]
def ad8{x:Int}{c:Nat}(h:x % 256=((c % 256:Nat):Int)): iW .and .u8 (di .u8 x) 127=((c % 128:Nat):Int):=by
 rw[oH];show di .u8 (((BitVec.ofInt 8 (di .u8 x)) &&& (BitVec.ofInt 8 127)).toNat:Int)=_;have:=ad7 8 7 (c % 256) ae da;have e:((2 ^ 7-1:Nat):Int)=127:=da;rw[e]at this;rw[wrap_u8 x,h,this,wrap_u8];omega
def air{w k x:Nat}{y:Nat}(hx:x<2 ^ k)(hw:2 ^ k*y+x<2 ^ w): ((BitVec.ofInt w (x:Int)) |||(BitVec.ofInt w ((2 ^ k*y:Nat):Int))).toNat=2 ^ k*y+x:=by
 rw[BitVec.toNat_or];have e1:(BitVec.ofInt w (x:Int)).toNat=x:=by rw[BitVec.ofInt_natCast,BitVec.toNat_ofNat,Nat.mod_eq_of_lt ae]
 have e2:(BitVec.ofInt w ((2 ^ k*y:Nat):Int)).toNat=2 ^ k*y:=by rw[BitVec.ofInt_natCast,BitVec.toNat_ofNat,Nat.mod_eq_of_lt ae]
 rw[e1,e2,Nat.or_comm,Nat.two_pow_add_eq_or_of_lt hx]
def abj{d:Nat}(h:d<128): iW .or .u8 (d:Int) 128=((128+d:Nat):Int):=by
 rw[oH];show di .u8 (((BitVec.ofInt 8 (d:Int)) |||(BitVec.ofInt 8 128)).toNat:Int)=_;have:=air (w:=8) (k:=7) (x:=d) (y:=1) ae ae;have e:((2 ^ 7*1:Nat):Int)=128:=da;rw[e]at this;rw[this,wrap_u8];omega
def Nr(c:Nat): UInt8:=UInt8.ofNat (c % 128)
def QJ(c:Nat): UInt8:=UInt8.ofNat (128+c % 128)
def Tv(c:Nat): ((c % 128:Nat):Int)=((Nr c).toNat:Int):=by rw[Nr,u8 _ ae]
def abk(c:Nat): iW .or .u8 ((Nr c).toNat:Int) 128=((QJ c).toNat:Int):=by
 rw[<-Tv,abj ae,QJ,u8 _ ae]
def WC(s:aT)(b:UInt8): sS s++[AV.int .u8 b.toNat]=sS (s++[b]):=aR
def ad9{k c:Nat}(h:c<128): zl k c=[Nr c]:=by
 rw[Nr,Nat.mod_eq_of_lt h];cases k with
 | zero=>rfl
 | succ k=>rw[zl,au h]
def abl{k c:Nat}(h:128<=c): zl (k+1) c=QJ c::zl k (c / 128):=by rw[zl,aj ae];rfl
def YM(n:Int)(h:pC n): aQ aI 100 [I n] (.int .u64 (Av n)):=by
 refine aY Qc ?_;intro Q aJ aK aL;repeat' first|refine aC ?_|refine aB ?_ ?_<;>intro hw<;>try omega|fail
 refine a_ ?_ rfl;exact bj (AV.int .u64) (abi h)
def U5(c:Nat): aQ aI 101 [.int .u64 c] (.int .u8 ((Nr c).toNat)):=by
 refine aY Ez ?_;intro Q aJ aK aL;repeat' first|refine aC ?_|refine aB ?_ ?_<;>intro hw<;>try omega|fail
 refine a_ ?_ rfl;refine bj (AV.int .u8) ?_;rw[<-Tv];exact ad8 ae
def kz(n:Int)(h:pC n): aQ aI 61 [I n] (.str (iN n)):=by
 have hc:=ad4 h.1 h.2;obtain⟨E,hE⟩:=cq (iN n);rw[hE];unfold iN at hE;have h1:=YM n h;generalize Av n=c0 at *;refine aY RQ ?_;intro Q aJ aK aL;repeat' first|refine aC ?_|refine aB ?_ ?_<;>intro hw<;>try omega|fail
 with_reducible refine bG [3,2,8,10] (fun q:Nat × aT × Nat=>[(3,.int .u64 q.2.2),(4,.own E1 0 q.2.1.length 0 q.2.1.length)]) (fun q=>[.vec E1 (sS q.2.1)]) (fun q=>q.1<=9/\q.2.1.length=q.1/\q.2.2*128 ^ q.1<18446744073709551616/\E=q.2.1++zl (9-q.1) q.2.2) (fun q=>10-q.1) ((0,[],c0)) ?_ ?_ ?_ ?_
 ·exact⟨ae,rfl,by show c0*1<_;omega,by simp[hE]⟩
 ·rfl
 ·exact at_
 rintro⟨i,s,c⟩ r ⟨g1,g2,g3,g4⟩;dsimp only at g1 g2 g3 g4;have hl:=U5 c;have hm:=abk c
 have hq:(c:Int).fdiv (2 ^ (Int.toNat 7).min 64)=((c / 128:Nat):Int):=by
  show(c:Int).fdiv 128=_;rw[Int.fdiv_eq_ediv_of_nonneg _ da];omega
 by_cases hb:128<=c
 ·have hi : i < 9 := by
   rcases Nat.lt_or_ge i 9 with h|h
   ·exact h
   obtain rfl:i=9:=ae;have e:(128:Nat) ^ 9=9223372036854775808:=da;rw[e]at g3;omega
  obtain⟨k,hk⟩:∃ k,9-i=k+1:=⟨8-i,ae⟩;rw[hk,abl hb]at g4;repeat' first|simp (disch:=omega) only[go_sem,aJ,aK,aL,hm,hq,WC]|refine aC ?_|refine aB ?_ ?_<;>intro hw<;>try omega|fail
  refine⟨(i+1,s++[QJ c],c / 128),?_,?_,?_,c8,at_⟩<;>(try dsimp only)
  ·refine⟨ae,by simp[g2],?_,?_⟩
   ·have e2 : c / 128 * 128 ^ (i + 1) = 128 * (c / 128) * 128 ^ i := by
     rw[Nat.pow_succ,Nat.mul_comm (128 ^ i) 128,<-Nat.mul_assoc,Nat.mul_comm (c / 128) 128]
    exact Nat.lt_of_le_of_lt (by rw[e2];exact bM _ ae) g3
   have:9-(i+1)=k:=ae;rw[this];simp[g4]
  ·omega
  all_goals (simp[g2];done)
 rw[ad9 ae]at g4;repeat' first|simp (disch:=omega) only[go_sem,aJ,aK,aL,WC]|refine aC ?_|refine aB ?_ ?_<;>intro hw<;>try omega|fail
 exact a_ (by rw[g4]) rfl
def uW(s:aT)(hs:s.length<=2 ^ 61): aQ aI 60 [.str s] (.str (ic s)):=by
 have h1:=kz s.length ⟨ae,ae⟩;have h2:=iT s.length;unfold ic;generalize iN s.length=x at *;refine aY Qb ?_;intro Q aJ aK aL;have YN:((x.length+s.length:Nat):Int)<=IntKind.i64.max:=by show _<=(9223372036854775807:Int);omega
 repeat' first|refine aC ?_|refine aB ?_ ?_<;>intro hw<;>try omega|fail
 exact a_ rfl rfl
def zm(v:aW): aT × Int:=if bZ v then(oz v,0)else ([],2)
def LZ(v:aW): (oz v).length<=30+v.s.length:=by
 have h1:=iT v.kind;have h2:=iT v.n;have h3:=iT v.s.length;unfold oz ic;rw[aA];split
 ·rw[aA];omega
 split
 ·omega
 simp;omega
def U6(k n:Int)(s:aT)(hn:pC n)(hs:s.length<=2 ^ 60): aQ aI 102 [.agg [I k,I n,.str s]] (.bR [.str (zm ⟨k,n,s⟩).1,I (zm ⟨k,n,s⟩).2]):=by
 have c1:=lR k n s hn.1 hn.2;obtain⟨E,hE⟩:=cq (zm ⟨k,n,s⟩);rw[hE];unfold zm oz at hE;dsimp only at hE;have hk:=@Io ⟨k,n,s⟩;dsimp only at hk;generalize bZ ⟨k,n,s⟩=b at *;cases b
 ·simp only[ji,aP,if_false]at c1 hE;refine aY BX ?_;intro Q aJ aK aL;repeat' first|refine aC ?_|refine aB ?_ ?_<;>intro hw<;>try omega|fail
  exact cg (by rw[<-hE]) rfl
 have hk:=hk rfl;simp only[ji,if_true]at c1 hE;have c2:=kz k ⟨ae,ae⟩;have c3:=kz n hn;have c4:=uW s ae;have l1:=iT k;have l2:=iT n;have l3:(ic s).length<=10+s.length:=by unfold ic;have:=iT s.length;rw[List.length_append];omega
 generalize iN k=x at *;generalize iN n=y at *;generalize ic s=z at *;have a1:((x.length+y.length:Nat):Int)<=IntKind.i64.max:=by show _<=(9223372036854775807:Int);omega
 have a2:((x.length+z.length:Nat):Int)<=IntKind.i64.max:=by show _<=(9223372036854775807:Int);omega
 refine aY BX ?_;intro Q aJ aK aL;repeat' first|refine aC ?_|refine aB ?_ ?_<;>intro hw<;>try omega|fail
 all_goals first
  | exact bI
  |(refine cg ?_ rfl;rw[<-hE];simp_all;done)
  |(refine cg ?_ rfl;rw[<-hE,aj ae,aj ae,bW];done)
def DO(l:List aW): aT × Int:=if l.all bZ then(po l,0)else ([],2)
def abm{l:List aW}{i:Nat}(hi:i<l.length)(x:aT): x++(l.take (i+1)).flatMap oz=(x++(l.take i).flatMap oz)++oz (l.getD i default):=by
 rw[take_succ hi,List.flatMap_append];simp
def Pb(l:List aW)(hl:w_ l): aQ aI 63 [br l] (.bR [.str (DO l).1,I (DO l).2]):=by
 obtain⟨Rw,hl2⟩:=hl;have h1:=kz l.length ⟨ae,ae⟩;have h2:=iT l.length;obtain⟨E,hE⟩:=cq (DO l);rw[hE];unfold DO po at hE;generalize iN l.length=x at *;simp only[br];refine aY RV ?_;intro Q aJ aK aL;repeat' first|refine aC ?_|refine aB ?_ ?_<;>intro hw<;>try omega|fail
 with_reducible refine bG [2,3,6,3,14,16] (fun q:Nat × List aX=>[(14,I q.1),(4,.str (x++(l.take q.1).flatMap oz))]) (fun q=>q.2) (fun q=>q.1<=l.length/\(∀ k,k<q.1->bZ (l.getD k default)=true)/\x.length+((l.take q.1).flatMap oz).length<=10+q.1*2147483648) (fun q=>l.length-q.1) ((0,[])) ?_ ?_ ?_ ?_
 ·simp;omega
 ·rfl
 ·simp only[gO,List.flatMap_nil,bW];simp (disch:=omega) only[nC,lH,and_true,go_sem,aJ,aK,aL,bC,bn]<;>(try trivial)<;>(try omega)<;>(try (repeat (first|trivial|(refine And.intro ?_ ?_)|(congr 1;omega))))
 rintro⟨i,τ⟩ r ⟨g1,g2,g3⟩;dsimp only at g1 g2 g3;by_cases hi:i<l.length
 ·have hv:=hl2 _ (bx hi);have hne:=fun h=>F5 (p:=bZ) hi h;have eF:=fun he=>cn (q:=fun k=>bZ (l.getD k default)=true) g2 (i:=i) he;have mR:=abm hi x;obtain⟨v,WD⟩:=cq (l.getD i default);rw[WD]at hv hne eF mR;have h3:=U6 v.kind v.n v.s hv.1 ae;have Ea:=LZ v;have ev:zm ⟨v.kind,v.n,v.s⟩=zm v:=rfl;rw[ev]at h3;unfold zm at h3;obtain⟨y,hy⟩:=cq (x++(l.take i).flatMap oz);have Ku:y.length=x.length+((l.take i).flatMap oz).length:=by rw[<-hy,aA]
  have hsl:=bj List.length mR;rw[hy]at mR;simp only[aA]at hsl;have YN:((y.length+(oz v).length:Nat):Int)<=IntKind.i64.max:=by show _<=(9223372036854775807:Int);omega
  generalize bZ v=b at *;cases b
  ·simp only[aP,if_false]at h3;rw[hne rfl]at hE;simp only[aP,if_false]at hE;repeat' first|refine cB (zA WD hy) ?_|refine aC ?_|refine aB ?_ ?_<;>intro hw<;>try omega|fail
   all_goals first|exact bI|(exact cg (by rw[<-hE]) rfl)
  simp only[if_true]at h3;repeat' first|refine cB (zA WD hy) ?_|refine aC ?_|refine aB ?_ ?_<;>intro hw<;>try omega|fail
  all_goals first
   | exact bI
   | (refine ⟨(i + 1, τ ++ [aX.cells [I v.kind, I v.n, .str v.s]]), ?_, ?_, ?_, c8, ?_⟩
      ·refine⟨by dsimp only;omega,eF rfl,?_⟩;dsimp only;omega
      ·dsimp only;omega
      ·first|rfl|(simp[go_sem];done)
      ·dsimp only;rw[mR];simp (disch:=omega) only[nC,lH,and_true,go_sem,aJ,aK,aL,Int.natCast_add,Int.cast_ofNat_Int]<;>(try trivial)<;>(try omega)<;>(try (repeat (first|trivial|(refine And.intro ?_ ?_)|(congr 1;omega)))))
 have ht:l.take i=l:=bH ae;rw[F4 (fun k hk=>g2 k ae),au rfl]at hE;repeat' first|refine cB ht ?_|refine aC ?_|refine aB ?_ ?_<;>intro hw<;>try omega|fail
 exact cg (by rw[<-hE]) rfl
def abn(l:List aW): aQ aI 25 [br l] (.bool (decide (l.length<=12) && l.all rI)):=by
 obtain⟨E,hE⟩:=cq ((decide (l.length<=12) && l.all rI));rw[hE];simp only[br];refine aY Jf ?_;intro Q aJ aK aL;repeat' first|refine aC ?_|refine aB ?_ ?_<;>intro hw<;>try omega|fail
 ·exact a_ (by rw[<-hE,cI ae,gP]) rfl
 have h12:l.length<=12:=ae;rw[bN h12,gH]at hE;with_reducible refine bG [2,2,7,13] (fun q:Nat=>[(3,I q)]) (fun _=>[]) (fun q=>q<=l.length/\ ∀ k,k<q->rI (l.getD k default)=true) (fun q=>l.length-q) (0) ?_ ?_ ?_ ?_
 ·simp
 ·rfl
 ·exact at_
 rintro i r ⟨g1,g2⟩;by_cases hi:i<l.length
 ·have hne:=fun h=>F5 (p:=rI) hi h;have eF:=fun he=>cn (q:=fun k=>rI (l.getD k default)=true) g2 (i:=i) he;obtain⟨v,WD⟩:=cq (l.getD i default);rw[WD]at hne eF;have hS:rI v=decide (v.s.length<=300):=rfl;rw[hS]at hne eF;repeat' first|refine cB WD ?_|refine aC ?_|refine aB ?_ ?_<;>intro hw<;>try omega|fail
  all_goals first
   | exact bI
   |(exact a_ (by rw[<-hE,hne (cI ae)]) rfl)
   | (refine ⟨i + 1, ?_, ?_, by first | rfl | (simp [go_sem]; done), c8, at_⟩ <;> (try dsimp only)
      ·exact⟨ae,eF (bN ae)⟩
      ·omega)
 repeat' first|refine aC ?_|refine aB ?_ ?_<;>intro hw<;>try omega|fail
 exact a_ (by rw[<-hE,F4 (fun k hk=>g2 k ae)]) rfl
def Cr{α : Type}[Inhabited α](f : α->aT){l:List α}{i:Nat}(hi:i<l.length)(x:aT): x++(l.take (i+1)).flatMap f=(x++(l.take i).flatMap f)++f (l.getD i default):=by
 rw[take_succ hi,List.flatMap_append];simp
def GA(c:cJ): Prop:=c.name.length<=2 ^ 30/\pC c.kind/\c.order.length<=8/\ ∀ v ∈ c.order,bZ v=true/\pC v.n
def Ns(l:List aT): Prop:=l.length<=6/\ ∀ s ∈ l,s.length<=2 ^ 30
def ais(t:Table): Prop:=t.name.length<=2 ^ 30/\pC t.bY/\pC t.agg/\(t.ins.length<=6/\ ∀ c ∈ t.ins,GA c)/\(t.outs.length<=6/\ ∀ c ∈ t.outs,GA c)/\t.rules.length<=24/\ ∀ r ∈ t.rules,Ns r.cells/\Ns r.outs
def abo{c:cJ}(h:GA c): w_ c.order/\c.order.all bZ=true:=by
 refine⟨⟨by have:=h.2.2.1;omega,fun v hv=>⟨(h.2.2.2 v hv).2,by have:=Tt (h.2.2.2 v hv).1;omega⟩⟩,aZ.2 fun v hv=>(h.2.2.2 v hv).1⟩
def ait{t:Table}(ok:jV t)(h:(fW t).2.2.2=0): ais t:=by
 obtain⟨h5,_,_⟩:=Ig h;obtain⟨hf,hl,_⟩:=yc h5
 have hn:iL t.name=true:=by
  unfold jU at hf;split at hf
  ·omega
  rename_i hh;simpa using hh
 obtain⟨p1,p2,p3,p4⟩:mq t.ins false=0/\mq t.outs (decide (t.bY=3))=0/\mJ t=true/\t.rules.length<=24:=by
  unfold jU at hf;rw[hn,aj aR]at hf;split at hf
  ·contradiction
  split at hf
  ·contradiction
  split at hf
  ·cases hf
  split at hf
  ·cases hf
  rename_i a b c d;exact⟨by simpa using a,by simpa using b,by simpa using c,ae⟩
 obtain⟨i1,i2,i3⟩:=DN p1;obtain⟨o1,o2,o3⟩:=DN p2;have pp:=Iq p3;have hi:=Aw i1;have ho:=Aw o1
 have hc:∀ (b:Bool) (c:cJ),(iL c.name=true/\1<=c.kind/\c.kind<=3)->lD c b=true->wv c->GA c:=fun b c q1 q2 q3=>by
  have w1:=vY q1.1;have w2:=LX q2 q3;exact⟨ae,⟨ae,ae⟩,w2.2⟩
 refine⟨by have:=vY hn;omega,⟨ae,ae⟩,⟨ae,ae⟩,⟨hi.1,fun c hm=>hc false c (hi.2 c hm) (i3 c hm) (ok.2.1.2 c hm)⟩,⟨ho.1,fun c hm=>hc _ c (ho.2 c hm) (o3 c hm) (ok.2.2.1.2 c hm)⟩,p4,fun r hr=>?_⟩;obtain⟨j,hj,rfl⟩:=bP hr;have e:t.rules[j]=t.rules.getD j default:=by rw[aq,aG hj];rfl
 have hz:=hl j hj;unfold kW at hz;rw[<-e]at hz;obtain⟨z1,z2,_⟩:=LA hz;have ro:=ok.2.2.2.2 _ hr;exact⟨⟨by have:=hi.1;omega,ro.1.2⟩,⟨by have:=ho.1;omega,ro.2.2⟩⟩
def xe(s:aT): (ic s).length<=10+s.length:=by unfold ic;have:=iT s.length;rw[List.length_append];omega
def Tw{l:List aW}(hl:l.length<=8)(h:∀ v ∈ l,bZ v=true): (po l).length<=1000:=by
 have h1:=iT l.length
 have h2:(l.flatMap oz).length<=70*l.length:=by
  clear h1 hl
  induction l with
  | nil=>simp
  | cons v l ih =>
    have a1:=LZ v;have a2:=Tt (h v aR);have a3:=ih (fun w hw=>h w (by simp[hw]));rw[jz,aA,aO];omega
 unfold po;rw[List.length_append];omega
def Pc(o:Bool){c:cJ}(h:GA c): (wB o c).length<=1073750000:=by
 have h1:=xe c.name;have h2:=iT c.kind;have h3:=Tw h.2.2.1 (fun v hv=>(h.2.2.2 v hv).1);have h4:=h.1;unfold wB;simp only[aA];cases o
 ·simp;omega
 simp;omega
def abp{α : Type}{f : α->aT}{b:Nat}: ∀ {l:List α},(∀ x ∈ l,(f x).length<=b)->(l.flatMap f).length<=l.length*b:=by
 intro l
 induction l with
 | nil=>intro _;simp
 | cons x l ih =>
   intro h;have a1:=h x aR;have a2:=ih (fun y hy=>h y (by simp[hy]));rw[jz,aA,aO,cj];omega
def Pd(o:Bool){l:List cJ}(hl:l.length<=6)(h:∀ c ∈ l,GA c): (sk o l).length<=6442500010:=by
 have h1:=iT l.length;have h2:=abp (f:=wB o) (fun c hc=>Pc o (h c hc));unfold sk;rw[List.length_append];omega
def Ay{l:List aT}(h:Ns l): (l.flatMap ic).length<=6442451004:=by
 have h2:=abp (f:=ic) (l:=l) (b:=1073741834) (fun s hs=>by have:=xe s;have:=h.2 s hs;omega);have:=h.1;omega
def Nt(c:cJ): aQ aI 83 [dU c] (.str []):=by
 refine aY HD ?_;intro Q aJ aK aL;repeat' first|refine aC ?_|refine aB ?_ ?_<;>intro hw<;>try omega|fail
 exact a_ rfl rfl
def Tx(c:cJ)(h:GA c): aQ aI 84 [dU c] (.str (po c.order)):=by
 have hv:=abo h;have h1:=Pb c.order hv.1;unfold DO at h1;rw[hv.2,au rfl]at h1;simp only[br]at h1;simp only[dU,br];refine aY K4 ?_;intro Q aJ aK aL;repeat' first|refine aC ?_|refine aB ?_ ?_<;>intro hw<;>try omega|fail
 exact a_ rfl rfl
def Ct (l : List cJ) (o : Bool) (F : FuncId) (hl : l.length <= 6) (h : ∀ c ∈ l, GA c) (hF : ∀ c ∈ l, aQ aI F [dU c] (.str (if o then po c.order else []))) :
    aQ aI 82 [b_ l,.fn (.func F) [] []] (.str (sk o l)):=by
 have h1:=kz l.length ⟨ae,ae⟩;have h2:=iT l.length;obtain⟨E,hE⟩:=cq (sk o l);rw[hE];unfold sk at hE;generalize iN l.length=x at *;simp only[b_];refine aY HE ?_;intro Q aJ aK aL;repeat' first|refine aC ?_|refine aB ?_ ?_<;>intro hw<;>try omega|fail
 with_reducible refine bG [5,1,7,1,13,18] (fun q:Nat × List aX=>[(13,I q.1),(5,.str (x++(l.take q.1).flatMap (wB o)))]) (fun q=>q.2) (fun q=>q.1<=l.length/\x.length+((l.take q.1).flatMap (wB o)).length<=10+q.1*1073750000) (fun q=>l.length-q.1) ((0,[])) ?_ ?_ ?_ ?_
 ·simp;omega
 ·rfl
 ·simp only[gO,List.flatMap_nil,bW];simp (disch:=omega) only[nC,lH,and_true,go_sem,aJ,aK,aL,bC,bn]<;>(try trivial)<;>(try omega)<;>(try (repeat (first|trivial|(refine And.intro ?_ ?_)|(congr 1;omega))))
 rintro⟨i,τ⟩ r ⟨g1,g3⟩;dsimp only at g1 g3;by_cases hi:i<l.length
 ·have hc:=h _ (bx hi);have hf:=hF _ (bx hi);have mR:=Cr (wB o) hi x;obtain⟨c,hce⟩:=cq (l.getD i default);rw[hce]at hc hf mR;have c1:=uW c.name (by have:=hc.1;omega);have c2:=kz c.kind hc.2.1;have Ea:=Pc o hc;obtain⟨y,hy⟩:=cq (x++(l.take i).flatMap (wB o));have Ku:y.length=x.length+((l.take i).flatMap (wB o)).length:=by rw[<-hy,aA]
  have hsl:=bj List.length mR;rw[hy]at mR;simp only[aA]at hsl;have aiu:wB o c=ic c.name++iN c.kind++(if o then po c.order else []):=rfl;generalize ic c.name=u1 at *;generalize iN c.kind=u2 at *;generalize (if o then po c.order else [])=u3 at *;have N6:=bj List.length aiu;simp only[aA]at N6;have a1:((u1.length+u2.length:Nat):Int)<=IntKind.i64.max:=by show _<=(9223372036854775807:Int);omega
  have a2:(((u1++u2).length+u3.length:Nat):Int)<=IntKind.i64.max:=by rw[aA];show _<=(9223372036854775807:Int);omega
  have a3:((y.length+(u1++u2++u3).length:Nat):Int)<=IntKind.i64.max:=by simp only[aA];show _<=(9223372036854775807:Int);omega
  simp only[dU,br]at hf;repeat' first|refine cB (zC hce hy a1 (zA a2 a3)) ?_|refine aC ?_|refine aB ?_ ?_<;>intro hw<;>try omega|fail
  refine⟨(i+1,τ++[aX.cells [.str c.name,I c.kind,.aS false EV (c.order.map cR)]]),?_,?_,?_,c8,?_⟩
  ·dsimp only;omega
  ·dsimp only;omega
  ·first|rfl|(simp[go_sem];done)
  dsimp only;rw[mR,aiu];simp (disch:=omega) only[nC,lH,and_true,go_sem,aJ,aK,aL,Int.natCast_add,Int.cast_ofNat_Int]<;>(try trivial)<;>(try omega)<;>(try (repeat (first|trivial|(refine And.intro ?_ ?_)|(congr 1;omega))))
 have ht:l.take i=l:=bH ae;repeat' first|refine cB ht ?_|refine aC ?_|refine aB ?_ ?_<;>intro hw<;>try omega|fail
 exact a_ (by rw[<-hE]) rfl
def GB(l:List aT)(h:Ns l): aQ aI 85 [jL l] (.str (l.flatMap ic)):=by
 obtain⟨hl,hs⟩:=h;obtain⟨E,hE⟩:=cq (l.flatMap ic);rw[hE];simp only[jL];refine aY K5 ?_;intro Q aJ aK aL;repeat' first|refine aC ?_|refine aB ?_ ?_<;>intro hw<;>try omega|fail
 with_reducible refine bG [3,1,5,1,8,9] (fun q:Nat=>[(8,I q),(3,.str ((l.take q).flatMap ic))]) (fun _=>[]) (fun q=>q<=l.length/\((l.take q).flatMap ic).length<=q*1073741834) (fun q=>l.length-q) (0) ?_ ?_ ?_ ?_
 ·simp
 ·rfl
 ·simp only[gO,List.flatMap_nil];simp (disch:=omega) only[nC,lH,and_true,go_sem,aJ,aK,aL,bC,bn]<;>(try trivial)<;>(try omega)<;>(try (repeat (first|trivial|(refine And.intro ?_ ?_)|(congr 1;omega))))
 rintro i r ⟨g1,g3⟩;by_cases hi:i<l.length
 ·have hs1:=hs _ (bx hi);have mR:=Cr ic hi [];simp only[bX]at mR;obtain⟨s,hse⟩:=cq (l.getD i default);rw[hse]at hs1 mR;have c1:=uW s ae;have Ea:=xe s;obtain⟨y,hy⟩:=cq ((l.take i).flatMap ic);rw[hy]at mR g3;have a1:((y.length+(ic s).length:Nat):Int)<=IntKind.i64.max:=by show _<=(9223372036854775807:Int);omega
  have hg:(List.map eZ l).getD i .undef = .str s:=by rw[getD_map _ _ _ hi,hse];rfl
  repeat' first|refine cB (zC hse hy a1 hg) ?_|refine aC ?_|refine aB ?_ ?_<;>intro hw<;>try omega|fail
  refine⟨i+1,?_,?_,?_,c8,?_⟩
  ·refine⟨ae,?_⟩;rw[mR,aA];omega
  ·dsimp only;omega
  ·first|rfl|(simp[go_sem];done)
  dsimp only;rw[mR];simp (disch:=omega) only[nC,lH,and_true,go_sem,aJ,aK,aL,Int.natCast_add,Int.cast_ofNat_Int]<;>(try trivial)<;>(try omega)<;>(try (repeat (first|trivial|(refine And.intro ?_ ?_)|(congr 1;omega))))
 have ht:l.take i=l:=bH ae;repeat' first|refine cB ht ?_|refine aC ?_|refine aB ?_ ?_<;>intro hw<;>try omega|fail
 exact a_ (by rw[<-hE]) rfl
def JT{a b:Nat}(h:a+b<=9223372036854775807): ((a+b:Nat):Int)<=IntKind.i64.max:=by show _<=(9223372036854775807:Int);omega
def Hq(t:Table): aT:=ic t.name++iN t.bY++iN t.agg++sk false t.ins++sk true t.outs++iN t.rules.length
def ad_(t:Table): LW t=Hq t++t.rules.flatMap mN:=rfl
def abq{t:Table}(h:ais t): (Hq t).length<=17179869184:=by
 have h1:=xe t.name;have h2:=iT t.bY;have h3:=iT t.agg;have h4:=Pd false h.2.2.2.1.1 h.2.2.2.1.2;have h5:=Pd true h.2.2.2.2.1.1 h.2.2.2.2.1.2;have h6:=iT t.rules.length;have h7:=h.1;unfold Hq;simp only[List.length_append];omega
def abr{r:h_}(h:Ns r.cells/\Ns r.outs): (mN r).length<=12884902008:=by
 have h1:=Ay h.1;have h2:=Ay h.2;unfold mN;rw[List.length_append];omega
def eB(p:aT × Int): AV:= .bR [.str p.1,I p.2]
abbrev aiv(t:Table): aX:= .cells [.str t.name,.aS false EC (t.ins.map dU),.aS false EC (t.outs.map dU),I t.bY,I t.agg,.aS false ER (t.rules.map fZ)]
def Ty(t:Table)(ok:jV t): aQ aI 53 [dP t] (eB (mT t)):=by
 obtain⟨E,hE⟩:=cq (mT t);rw[hE];unfold mT at hE;have c1:=F0 t ok;have c2:=UL (fW t).1 t (adq ok) (aaJ ok);have hb:=fun h=>ait ok h;obtain⟨C,hC⟩:=cq (fW t);rw[hC]at c1 c2 hE hb;obtain⟨C,m1,m2,e⟩:=C;dsimp only at hE c2 hb;simp only[eT4,dP,fU,b_,eL]at c1 c2 ⊢;by_cases he:e≠0
 ·rw[au he]at hE;refine aY uD ?_ (by simp[eB]);intro Q aJ aK aL;repeat' first|refine aC ?_|refine aB ?_ ?_<;>intro hw<;>try omega|fail
  all_goals first|exact bI|exact cg (by rw[<-hE]) rfl
 rw[aj he]at hE;obtain rfl:e=0:=ae;cases hs:yq C t with
 | false =>
   rw[hs]at hE c2;rw[au rfl]at hE;refine aY uD ?_ (by simp[eB]);intro Q aJ aK aL;repeat' first|refine aC ?_|refine aB ?_ ?_<;>intro hw<;>try omega|fail
   all_goals first|exact bI|exact cg (by rw[<-hE]) rfl
 | true =>
 rw[hs]at hE c2;rw[aj aR,ad_]at hE;have h:=hb rfl;have hl:=abq h;have hd:Hq t=ic t.name++iN t.bY++iN t.agg++(sk false t.ins++sk true t.outs++iN t.rules.length):=by unfold Hq;simp only[List.append_assoc]
 obtain⟨b1,b2,b3,b4,b5,b6,b7⟩:=h;have k1:=uW t.name ae;have k2:=kz t.bY b2;have k3:=kz t.agg b3;have k4:=Ct t.ins false 83 b4.1 b4.2 (fun c _=>Nt c);have k5:=Ct t.outs true 84 b5.1 b5.2 (fun c hc=>Tx c (b5.2 c hc));have k6:=kz t.rules.length ⟨ae,ae⟩;generalize Hq t=x at *;generalize ic t.name=u1 at *;generalize iN t.bY=u2 at *;generalize iN t.agg=u3 at *;generalize sk false t.ins=u4 at *;generalize sk true t.outs=u5 at *;generalize iN t.rules.length=u6 at *;have N6:=bj List.length hd;simp only[aA]at N6;have a1:=JT (a:=u1.length) (b:=u2.length) ae;have a2:=JT (a:=(u1++u2).length) (b:=u3.length) (by simp only[aA];omega);have a3:=JT (a:=u4.length) (b:=u5.length) ae;have a4:=JT (a:=(u4++u5).length) (b:=u6.length) (by simp only[aA];omega);have a5:=JT (a:=(u1++u2++u3).length) (b:=(u4++u5++u6).length) (by simp only[aA];omega);have hd':=hd.symm;clear hd;simp only[b_]at k4 k5;refine aY uD ?_ (by simp[eB]);intro Q aJ aK aL;repeat' first|refine cB (zC a1 a2 a3 (zB a4 a5 hd')) ?_|refine aC ?_|refine aB ?_ ?_<;>intro hw<;>try omega|fail
 all_goals first|exact bI|skip
 with_reducible refine bG [8,1,10,1,55,14] (fun q:Nat × List aX=>[(55,I q.1),(8,.str (x++(t.rules.take q.1).flatMap mN))]) (fun q=>aiv t::aiv C::q.2) (fun q=>q.1<=t.rules.length/\x.length+((t.rules.take q.1).flatMap mN).length<=17179869184+q.1*12884902008) (fun q=>t.rules.length-q.1) ((0,[])) ?_ ?_ ?_ ?_
 ·simp;omega
 ·rfl
 ·simp only[gO,List.flatMap_nil,bW];simp (disch:=omega) only[nC,lH,and_true,go_sem,aJ,aK,aL,bC,bn]<;>(try trivial)<;>(try omega)<;>(try (repeat (first|trivial|(refine And.intro ?_ ?_)|(congr 1;omega))))
 rintro⟨i,τ⟩ r ⟨g1,g3⟩;dsimp only at g1 g3;by_cases hi:i<t.rules.length
 ·have hr:=b7 _ (bx hi);have mR:=Cr mN hi x;obtain⟨ru,hre⟩:∃ c,t.rules.getD i default=c:=⟨_,rfl⟩;rw[hre]at hr mR;have Ee:=abr hr;obtain⟨y,hy⟩:=cq (x++(t.rules.take i).flatMap mN);have Ku:y.length=x.length+((t.rules.take i).flatMap mN).length:=by rw[<-hy,aA]
  have hsl:=bj List.length mR;rw[hy]at mR;simp only[aA]at hsl;have hrd:mN ru=ru.cells.flatMap ic++ru.outs.flatMap ic:=rfl;have d1:=GB ru.cells hr.1;have d2:=GB ru.outs hr.2;have f1:=Ay hr.1;have f2:=Ay hr.2;generalize ru.cells.flatMap ic=v1 at *;generalize ru.outs.flatMap ic=v2 at *;have e1:=JT (a:=v1.length) (b:=v2.length) ae;have e2:=JT (a:=y.length) (b:=(v1++v2).length) (by simp only[aA];omega);simp only[jL]at d1 d2;repeat' first|refine cB (zC hre hy e1 e2) ?_|refine aC ?_|refine aB ?_ ?_<;>intro hw<;>try omega|fail
  refine⟨(i+1,τ++[aX.cells [.aS false E1 (ru.cells.map eZ),.aS false E1 (ru.outs.map eZ)]]),?_,?_,?_,c8,?_⟩
  ·dsimp only;omega
  ·dsimp only;omega
  ·first|rfl|(simp[go_sem];done)
  dsimp only;rw[mR,hrd];simp (disch:=omega) only[nC,lH,and_true,go_sem,aJ,aK,aL,Int.natCast_add,Int.cast_ofNat_Int]<;>(try trivial)<;>(try omega)<;>(try (repeat (first|trivial|(refine And.intro ?_ ?_)|(congr 1;omega))))
 have ht:t.rules.take i=t.rules:=bH ae;rw[ht]at g3;have hxl:(x++t.rules.flatMap mN).length=x.length+(t.rules.flatMap mN).length:=aA;by_cases hbig:1400<(x++t.rules.flatMap mN).length
 ·rw[au hbig]at hE;obtain⟨z,hz⟩:=cq (x++t.rules.flatMap mN);rw[hz]at hbig hxl;repeat' first|refine cB (zA ht hz) ?_|refine aC ?_|refine aB ?_ ?_<;>intro hw<;>try omega|fail
  exact cg (by rw[<-hE]) rfl
 rw[aj hbig]at hE;obtain⟨z,hz⟩:=cq (x++t.rules.flatMap mN);rw[hz]at hbig hxl hE;repeat' first|refine cB (zA ht hz) ?_|refine aC ?_|refine aB ?_ ?_<;>intro hw<;>try omega|fail
 exact cg (by rw[<-hE]) rfl
def lK(e:iY): List AV:=[.str e.table,I e.ver,br e.input,I e.err,ep e.rules,ez e.rows]
def iU(e:iY): AV:= .agg (lK e)
attribute [go_sem] sJ ep ez lK iU
def zn(e:iY): (iU e).dy=true:=by simp[iU,lK,AV.dy,AV.cE,O2,O4]
attribute [simp] zn
def Ql(v:aW)(hn:pC v.n): aQ aI 135 [cR v] (.bool (!bZ v)):=by
 have c:=lR v.kind v.n v.s hn.1 hn.2;have ev:bZ ⟨v.kind,v.n,v.s⟩=bZ v:=rfl;rw[ev]at c;obtain⟨b,hb⟩:=cq (bZ v);rw[hb]at c ⊢;simp only[cR];refine aY Jl ?_;intro Q aJ aK aL;cases b
 all_goals
  simp only[ji,if_true,aP,if_false]at c;repeat' first|refine aC ?_|refine eS c ?_|refine aB ?_ ?_<;>intro hw<;>try omega|fail
  exact a_ rfl rfl
def Bq (fn : FuncId) (p : aW -> Bool) (l : List aW) (h : ∀ k, k < l.length -> aQ aI fn [cR (l.getD k default)] (.bool (p (l.getD k default)))) (hl : l.length <= 2 ^ 62) :
    aQ aI 176 [br l,.fn (.func fn) [] []] (I (kP p l)):=by
 refine aY x7 ?_ (by simp[AV.dy,AV.cE,uc]);intro Q aJ aK aL;repeat' first|refine aC ?_|refine aB ?_ ?_<;>intro hw<;>try omega|fail
 with_reducible refine bG [4,2,8,11] (fun i:Nat=>[(8,I i)]) (fun _=>[]) (fun i=>i<=l.length/\ ∀ k,k<i->p (l.getD k default)=false) (fun i=>l.length-i) (0) ?_ ?_ ?_ ?_
 ·simp
 ·rfl
 ·exact at_
 rintro i r ⟨hi,hp⟩;by_cases hin:i<l.length
 ·have hx:=h i hin;simp only[cR]at hx;repeat' first|refine aC ?_|refine aB ?_ ?_<;>intro hw<;>try omega|fail
  ·refine a_ ?_ rfl;refine bj I ?_;exact(qz hin hp hw).symm
  refine⟨i+1,?_,?_,by first|rfl|(simp[go_sem];done),c8,at_⟩<;>(try dsimp only)
  ·exact⟨ae,cn hp hw⟩
  omega
 repeat' first|refine aC ?_|refine aB ?_ ?_<;>intro hw<;>try omega|fail
 refine a_ ?_ rfl;refine bj I ?_;exact(nu fun k hk=>hp k ae).symm
def yf (fn : FuncId) (p : aW -> Bool) (l : List aW) (h : ∀ k, k < l.length -> aQ aI fn [cR (l.getD k default)] (.bool (p (l.getD k default)))) (hl : l.length <= 2 ^ 62) :
    aQ aI 134 [br l,.fn (.func fn) [] []] (.bool (l.any p)):=by
 refine aY vL ?_ (by simp[AV.dy,AV.cE,uc]);intro Q aJ aK aL;have hc:=Bq fn p l h hl;simp only[br]at hc;repeat' first|refine aC ?_|refine aB ?_ ?_<;>intro hw<;>try omega|fail
 all_goals refine a_ ?_ rfl
 all_goals rw[<-vS]
def agj(l:List aW): (!l.any fun v=> !bZ v)=l.all bZ:=by
 induction l with
 | nil=>rfl
 | cons a l ih=>rw[List.any_cons,List.all_cons,<-ih];cases bZ a<;>simp
def Iu(l:List aW)(hl:w_ l): aQ aI 97 [br l] (.bool (ko l)):=by
 have c:=yf 135 (fun v=> !bZ v) l (fun k hk=>Ql _ (hl.2 _ (bx hk)).1) (by have:=hl.1;omega);obtain⟨E,hE⟩:=cq (ko l);rw[hE];unfold ko at hE;rw[<-agj]at hE;generalize (l.any fun v=> !bZ v)=b at *;simp only[br]at c ⊢;refine aY ML ?_;intro Q aJ aK aL;repeat' first|refine aC ?_|refine eS c ?_|refine aB ?_ ?_<;>intro hw<;>try omega|fail
 all_goals first
  | exact bI
  |(refine a_ ?_ rfl;rw[<-hE,bN ae,gH];done)
  |(refine a_ ?_ rfl;rw[<-hE,cI ae,gP];done)
def Tz{l:List Int}(h:∀ k,k<l.length->Ax l k=true): tI l=true:=aZ.2 fun k hk=>h k (eN.1 hk)
def agk{l:List Int}{i:Nat}(hi:i<l.length)(h:Ax l i=false): tI l=false:=by
 cases hr:tI l with
 | false=>rfl
 | true=>have:=List.all_eq_true.1 hr i (List.mem_range.2 hi);rw[h]at this;cases this
def TA(l:List Int)(hl:l.length<=2 ^ 30): aQ aI 96 [ep l] (.bool (tI l)):=by
 obtain⟨E,hE⟩:=cq (tI l);rw[hE];simp only[ep];refine aY KQ ?_;intro Q aJ aK aL;repeat' first|refine aC ?_|refine aB ?_ ?_<;>intro hw<;>try omega|fail
 with_reducible refine bG [2,2,5,1,8,13] (fun q:Nat=>[(8,I q),(3,I (uV l q))]) (fun _=>[]) (fun q=>q<=l.length/\ ∀ k,k<q->Ax l k=true) (fun q=>l.length-q) (0) ?_ ?_ ?_ ?_
 ·simp
 ·rfl
 ·have:uV l 0 = -1:=rfl;rw[this];simp (disch:=omega) only[nC,lH,and_true,go_sem,aJ,aK,aL,bC,bn]<;>(try trivial)<;>(try omega)<;>(try (repeat (first|trivial|(refine And.intro ?_ ?_)|(congr 1;omega))))
 rintro i r ⟨g1,g2⟩;by_cases hi:i<l.length
 ·have hne:=fun h=>agk (l:=l) hi h;have eF:=fun he=>cn (q:=fun k=>Ax l k=true) g2 (i:=i) he;have hk:Ax l i=decide (uV l i<l.getD i default/\l.getD i default<24):=rfl;have hs:uV l (i+1)=l.getD i default:=by unfold uV;rw[if_neg ae,Nat.add_sub_cancel];rfl
  obtain⟨n,hn⟩:=cq (l.getD i default);rw[hn]at hk hs;generalize uV l i=m at *;repeat' first|refine cB hn ?_|refine aC ?_|refine aB ?_ ?_<;>intro hw<;>try omega|fail
  all_goals first
   | exact bI
   |(exact a_ (by rw[<-hE,hne (by rw[hk,cI ae])]) rfl)
   | (refine ⟨i + 1, ?_, ?_, ?_, c8, ?_⟩
      ·exact⟨ae,eF (by rw[hk,bN ae])⟩
      ·dsimp only;omega
      ·first|rfl|(simp[go_sem];done)
      ·dsimp only;rw[hs];simp (disch:=omega) only[nC,lH,and_true,go_sem,aJ,aK,aL,Int.natCast_add,Int.cast_ofNat_Int]<;>(try trivial)<;>(try omega)<;>(try (repeat (first|trivial|(refine And.intro ?_ ?_)|(congr 1;omega)))))
 repeat' first|refine aC ?_|refine aB ?_ ?_<;>intro hw<;>try omega|fail
 exact a_ (by rw[<-hE,Tz (fun k hk=>g2 k ae)]) rfl
def Qm(l:List aW)(hl:w_ l): aQ aI 99 [br l] (.bool (!ko l)):=by
 have c:=Iu l hl;generalize ko l=b at *;simp only[br]at c ⊢;refine aY Jm ?_;intro Q aJ aK aL;repeat' first|refine aC ?_|refine eS c ?_|refine aB ?_ ?_<;>intro hw<;>try omega|fail
 exact a_ rfl rfl
def aea(l:List (List aW)): (!l.any fun v=> !ko v)=l.all ko:=by
 induction l with
 | nil=>rfl
 | cons a l ih=>rw[List.any_cons,List.all_cons,<-ih];cases ko a<;>simp
def aeb{a b c d:Bool}{B D:Int}{n:Nat}(h:¬(a=true/\(1<=B/\B<=2147483648)/\(0<=D/\D<=99)/\b=true/\n<=24/\c=true)): (a && decide (1<=B/\B<=2147483648) && decide (0<=D/\D<=99) && b && decide (n<=24) && c && d)=false:=by
 cases hx:(a && decide (1<=B/\B<=2147483648) && decide (0<=D/\D<=99) && b && decide (n<=24) && c && d)with
 | false=>rfl
 | true =>
   simp only[aD,aM]at hx;exact absurd ⟨hx.1.1.1.1.1.1,hx.1.1.1.1.1.2,hx.1.1.1.1.2,hx.1.1.1.2,hx.1.1.2,hx.1.2⟩ h
def abt{a b c d:Bool}{B D:Int}{n:Nat}(h1:a=true)(h2:1<=B/\B<=2147483648)(h3:0<=D/\D<=99)(h4:b=true)(h5:n<=24)(h6:c=true): (a && decide (1<=B/\B<=2147483648) && decide (0<=D/\D<=99) && b && decide (n<=24) && c && d)=d:=by
 subst h1;subst h4;subst h6;rw[bN h2,bN h3,bN h5];simp
def tf{b:Bool}(h:b=true)(h':b=false): False:=by rw[h]at h';cases h'
def U7(e:iY)(ok:oA e): aQ aI 59 [iU e] (.bool (rN e)):=by
 obtain⟨o1,o2,o3,o4,o5,o6,o7⟩:=ok;have c1:=vP e.table ae;have c2:=TA e.rules o5.1;have c3:=Iu e.input o3;have c4:=qt 99 [] rfl (fun v=> !ko v) e.rows (fun k hk=>Qm _ (o7 _ (bx hk))) ae;obtain⟨E,hE⟩:=cq (rN e);rw[hE];unfold rN at hE;rw[<-aea]at hE;obtain⟨A,B,C,D,F,G⟩:=e;dsimp only at *;generalize iL A=a at *;generalize tI F=b at *;generalize ko C=c at *;generalize (G.any fun v=> !ko v)=d at *;simp only[ep,br,ez,iU,lK]at c2 c3 c4 ⊢;refine aY MN ?_;intro Q aJ aK aL;repeat' first|refine aC ?_|refine aB ?_ ?_<;>intro hw<;>try omega|fail
 all_goals first
  | exact bI
  | (refine a_ ?_ rfl
     rw[<-hE];refine bj AV.bool ?_
     first
      |(rw[abt (by assumption) ae ae (by assumption) ae (by assumption)];done)
      | (refine (aeb ?_).symm
         rintro⟨h1,h2,h3,h4,h5,h6⟩
         first
          | omega
          | exact tf h1 (by assumption)
          | exact tf h4 (by assumption)
          | exact tf h6 (by assumption)))
  | skip
def zo{a b:Nat}(h:a+b<=2 ^ 40): ((a+b:Nat):Int)<=IntKind.i64.max:=by show _<=(9223372036854775807:Int);omega
section
variable {σ : ai} {K Kp:AV->ai->Prop} {k:Nat}
def GC{s x:aT}{l:List aW}(hok:w_ l)(hr:l.all bZ=true)(hx:po l=x)(iz : σ[k]? = some (.cells [.str s]))(ha:((s.length+x.length:Nat):Int)<=IntKind.i64.max)(hk:kj (.bR []) (.mk:Tg fun r=>wh (σ.set k (.cells [.str (s++x)])) (.mk:Tg fun σ=>K r σ))): pP Tryz.prog 62 [.aS false EV (l.map cR),.ref k 0] σ (.mk:Tg (K,Kp)):=by
 have c:=Pb l hok;have e:DO l=(po l,0):=by unfold DO;rw[if_pos hr]
 rw[e,hx]at c;simp only[br]at c;refine KR.go ?_;unfold dO;intro Q aJ aK aL;repeat' first|refine cB iz ?_|refine aC ?_|refine eS c ?_|refine aB ?_ ?_<;>intro hw<;>try omega|fail
 exact hk
end
def Pe{l:List aW}(h:ko l=true): l.all bZ=true/\(po l).length<=1000:=by
 obtain⟨h1,h2⟩:=YK h;exact⟨aZ.2 h2,Tw ae h2⟩
def L0(e:iY)(ok:oA e)(h:rN e=true): aQ aI 38 [iU e] (.str (sn e)):=by
 obtain⟨z1,z2,z3,z4,z5,z6,z7⟩:=YJ h;obtain⟨o1,o2,o3,o4,o5,o6,o7⟩:=ok;have hl:=ad6 z4;have aoh:=vY z1;have c1:=uW e.table ae;have c2:=kz e.ver o2;have c3:=kz e.err o4;have c4:=kz e.rules.length ⟨ae,ae⟩;have c5:=kz e.rows.length ⟨ae,ae⟩;have l1:=xe e.table;have l2:=iT e.ver;have l3:=iT e.err;have l4:=iT e.rules.length;have l5:=iT e.rows.length;have p1:=Pe z6;obtain⟨E,hE⟩:=cq (sn e);rw[hE];unfold sn at hE;obtain⟨A,B,C,D,F,G⟩:=e;dsimp only at *;obtain⟨xc,zP⟩:∃ x,po C=x:=⟨_,rfl⟩;rw[zP]at hE p1;generalize ic A=xa at *;generalize iN B=xb at *;generalize iN D=xd at *;generalize iN F.length=xf at *;generalize iN G.length=xg at *;have a1:=zo (a:=xa.length) (b:=xb.length) ae;have a2:=zo (a:=(xa++xb).length) (b:=xc.length) (by rw[aA];omega);have a3:=zo (a:=xd.length) (b:=xf.length) ae;have a4:=zo (a:=(xa++xb++xc).length) (b:=(xd++xf).length) (by simp only[aA];omega);simp only[aA]at a2 a4;obtain⟨X,hX⟩:∃ x,xa++xb++xc++(xd++xf)=x:=⟨_,rfl⟩;have lX:=bj List.length hX;simp only[aA]at lX;rw[hX]at hE;simp only[ep,br,ez,iU,lK]at c1 c2 c3 c4 c5 ⊢;refine aY P4 ?_;intro Q aJ aK aL;repeat' first|refine cB hX ?_|refine aC ?_|with_reducible refine GC o3 p1.1 zP rfl (by simp only[aA];exact a2) ?_|refine aB ?_ ?_<;>intro hw<;>try omega|fail
 with_reducible refine bG [6,1,37,9] (fun q:Nat=>[(37,I q)]) (fun q=>[.cells [.str A,I B,.aS false EV (C.map cR),I D,.aS false E1 (F.map sJ),.aS false E1 (G.map br)],.cells [.str (X++(F.take q).flatMap iN)]]) (fun q=>q<=F.length/\((F.take q).flatMap iN).length<=q*10) (fun q=>F.length-q) (0) ?_ ?_ ?_ ?_
 ·simp
 ·simp only[gO,List.flatMap_nil,bW]
 ·exact at_
 rintro i r ⟨g1,g2⟩;try dsimp only at g1 g2
 by_cases hi:i<F.length
 ·have hn:=o5.2 _ (bx hi);have mR:=Cr iN hi X;obtain⟨n,hne⟩:=cq (F.getD i default);rw[hne]at hn mR;have c6:=kz n hn;have l6:=iT n;have hsl:=bj List.length mR;obtain⟨y,hy⟩:=cq (X++(F.take i).flatMap iN);have Ku:=bj List.length hy;simp only[aA]at hsl Ku;rw[hy]at mR;have YN:=zo (a:=y.length) (b:=(iN n).length) ae;repeat' first|refine cB (zA hne hy) ?_|refine aC ?_|refine aB ?_ ?_<;>intro hw<;>try omega|fail
  refine⟨i+1,?_,?_,?_,c8,at_⟩
  ·exact⟨ae,ae⟩
  ·dsimp only;omega
  dsimp only;rw[mR]
 have ht:F.take i=F:=bH ae;rw[ht]at g2;obtain⟨Y,hY⟩:∃ y,X++F.flatMap iN=y:=⟨_,rfl⟩;have lY:=bj List.length hY;simp only[aA]at lY;have a5:=zo (a:=Y.length) (b:=xg.length) ae;rw[hY]at hE;obtain⟨Z,hZ⟩:∃ y,Y++xg=y:=⟨_,rfl⟩;have lZ:=bj List.length hZ;simp only[aA]at lZ;rw[hZ]at hE;repeat' first|refine cB (zB ht hY hZ) ?_|refine aC ?_|refine aB ?_ ?_<;>intro hw<;>try omega|fail
 with_reducible refine bG [8,1,57,8] (fun q:Nat=>[(57,I q)]) (fun q=>[.cells [.str A,I B,.aS false EV (C.map cR),I D,.aS false E1 (F.map sJ),.aS false E1 (G.map br)],.cells [.str (Z++(G.take q).flatMap po)]]) (fun q=>q<=G.length/\((G.take q).flatMap po).length<=q*1000) (fun q=>G.length-q) (0) ?_ ?_ ?_ ?_
 ·simp
 ·simp only[gO,List.flatMap_nil,bW]
 ·exact at_
 rintro i' r' ⟨f1,f2⟩;try dsimp only at f1 f2
 by_cases hi':i'<G.length
 ·have hv:=o7 _ (bx hi');have qK:=Pe (z7 _ (bx hi'));have mR:=Cr po hi' Z;obtain⟨n,hne⟩:=cq (G.getD i' default);rw[hne]at hv mR qK;obtain⟨xr,hxr⟩:∃ x,po n=x:=⟨_,rfl⟩;have hsl:=bj List.length mR;obtain⟨y,hy⟩:=cq (Z++(G.take i').flatMap po);have Ku:=bj List.length hy;simp only[aA]at hsl Ku;rw[hy]at mR;rw[hxr]at mR hsl qK;have YN:=zo (a:=y.length) (b:=xr.length) ae;repeat' first|refine cB (zA hne hy) ?_|refine aC ?_|with_reducible refine GC hv qK.1 hxr rfl YN ?_|refine aB ?_ ?_<;>intro hw<;>try omega|fail
  refine⟨i'+1,?_,?_,?_,c8,at_⟩
  ·exact⟨ae,ae⟩
  ·dsimp only;omega
  dsimp only;rw[mR]
 have ht':G.take i'=G:=bH ae;repeat' first|refine cB ht' ?_|refine aC ?_|refine aB ?_ ?_<;>intro hw<;>try omega|fail
 exact a_ (by rw[<-hE]) rfl
def Iv(e:iY)(ok:oA e): aQ aI 37 [iU e] (I (td e)):=by
 have c1:=U7 e ok;have c2:=fun h=>L0 e ok h;unfold td;generalize rN e=b at *;cases b with
 | false =>
   simp only[iU,lK,ep,br,ez]at c1 ⊢;refine aY BR ?_;intro Q aJ aK aL;repeat' first|refine aC ?_|refine aB ?_ ?_<;>intro hw<;>try omega|fail
   all_goals first|exact bI|exact a_ rfl rfl
 | true =>
   have c2:=c2 rfl;generalize sn e=t at *;rw[aj aR];simp only[iU,lK,ep,br,ez]at c1 c2 ⊢;refine aY BR ?_;intro Q aJ aK aL;repeat' first|refine aC ?_|refine aB ?_ ?_<;>intro hw<;>try omega|fail
   ·exact a_ (by rw[au ae]) rfl
   exact a_ (by rw[aj ae]) rfl
def WE(p:aT × Int): AV:= .bR [.str p.1,I p.2]
def Br(e:iY)(ok:oA e): aQ aI 14 [iU e] (WE (gV e)):=by
 have c1:=Iv e ok;have hz:=@Ir e;have c2:=fun h=>L0 e ok h;unfold gV;generalize td e=k at *;by_cases h0:k≠0
 ·rw[au h0];simp only[WE,iU,lK,ep,br,ez]at c1 ⊢;refine aY BQ ?_;intro Q aJ aK aL;repeat' first|refine aC ?_|refine aB ?_ ?_<;>intro hw<;>try omega|fail
  all_goals first|exact bI|exact cg rfl rfl
 rw[aj h0];obtain rfl:k=0:=ae;have c2:=c2 (hz rfl).1;generalize sn e=t at *;simp only[WE,iU,lK,ep,br,ez]at c1 c2 ⊢;refine aY BQ ?_;intro Q aJ aK aL;repeat' first|refine aC ?_|refine aB ?_ ?_<;>intro hw<;>try omega|fail
 all_goals first|exact bI|exact cg rfl rfl
def Nu(l m:List Int)(hl:l.length<=2 ^ 60)(hm:m.length<=2 ^ 60): aQ aI 111 [ep l,ep m] (.bool (fq (fun a b=>a==b) l m)):=by
 simp only[ep];refine aY Hz ?_;intro Q aJ aK aL;repeat' first|refine aC ?_|refine aB ?_ ?_<;>intro hw<;>try omega|fail
 ·refine a_ ?_ rfl;rw[oW ae]
 have rq:l.length=m.length:=ae;with_reducible refine bG [4,2,11,15] (fun i:Nat=>[(5,I i)]) (fun _=>[]) (fun i=>i<=l.length/\ ∀ k,k<i->(l.getD k default==m.getD k default)=true) (fun i=>l.length-i) (0) ?_ ?_ ?_ ?_
 ·simp
 ·rfl
 ·exact at_
 rintro i r ⟨h1,h2⟩;by_cases hi:i<l.length
 ·repeat' first|refine aC ?_|refine aB ?_ ?_<;>intro hw<;>try omega|fail
  ·refine a_ ?_ rfl;rw[rj (p:=fun a b=>a==b) hi (by rw[<-Bool.not_eq_true];simp_all) ae]
  refine⟨i+1,?_,?_,by first|rfl|(simp[go_sem];done),c8,at_⟩<;>(try dsimp only)
  ·exact⟨ae,cn h2 (by simp_all)⟩
  omega
 repeat' first|refine aC ?_|refine aB ?_ ?_<;>intro hw<;>try omega|fail
 refine a_ ?_ rfl;rw[oX (p:=fun a b=>a==b) rq (fun k hk=>h2 k ae)]
def Nv(l m:List (List aW))(hl:l.length<=2 ^ 60)(hm:m.length<=2 ^ 60)(hl2:∀ r ∈ l,r.length<=2 ^ 60)(HS:∀ r ∈ m,r.length<=2 ^ 60): aQ aI 112 [ez l,ez m] (.bool (fq (fq fun a b=>a==b) l m)):=by
 simp only[ez];refine aY HA ?_;intro Q aJ aK aL;repeat' first|refine aC ?_|refine aB ?_ ?_<;>intro hw<;>try omega|fail
 ·refine a_ ?_ rfl;rw[oW ae]
 have rq:l.length=m.length:=ae;with_reducible refine bG [4,2,11,16] (fun i:Nat=>[(5,I i)]) (fun _=>[]) (fun i=>i<=l.length/\ ∀ k,k<i->fq (fun a b=>a==b) (l.getD k default) (m.getD k default)=true) (fun i=>l.length-i) (0) ?_ ?_ ?_ ?_
 ·simp
 ·rfl
 ·exact at_
 rintro i r ⟨h1,h2⟩;by_cases hi:i<l.length
 ·have c:=Eh _ _ (hl2 _ (bx hi)) (HS _ (bx (show i<m.length by omega)));have hne:=fun h=>rj (p:=fq fun a b=>a==b) hi h (show i<m.length by omega);have eF:=fun he=>cn (q:=fun k=>fq (fun a b=>a==b) (l.getD k default) (m.getD k default)=true) h2 (i:=i) he;generalize fq (fun a b=>a==b) (l.getD i default) (m.getD i default)=v at c hne eF;simp only[br]at c;repeat' first|refine aC ?_|refine eS c ?_|refine aB ?_ ?_<;>intro hw<;>try omega|fail
  all_goals first
   | exact bI
   |(refine a_ ?_ rfl;rw[hne (by simp_all)])
   | (refine ⟨i + 1, ?_, ?_, ?_, c8, at_⟩ <;> (try dsimp only)
      ·exact⟨ae,eF (by simp_all)⟩
      ·omega
      all_goals (first|rfl|(simp[go_sem];done)))
 repeat' first|refine aC ?_|refine aB ?_ ?_<;>intro hw<;>try omega|fail
 refine a_ ?_ rfl;rw[oX rq (fun k hk=>h2 k ae)]
def L1(e:iY): Prop:=e.input.length<=2 ^ 60/\e.rules.length<=2 ^ 60/\e.rows.length<=2 ^ 60/\ ∀ r ∈ e.rows,r.length<=2 ^ 60
def oA.sm{e:iY}(h:oA e): L1 e:=by
 obtain⟨h1,h2,h3,h4,h5,h6,h7⟩:=h;refine⟨by have:=h3.1;omega,by have:=h5.1;omega,ae,fun r hr=>?_⟩;have:=(h7 r hr).1;omega
def GD(e:iY): List AV:=[I e.err,ep e.rules,ez e.rows]
def YO(a b:iY)(ha:L1 a)(hb:L1 b): aQ aI 72 [.agg (GD a),.agg (GD b)] (.bool (decide (a.err=b.err) && fq (fun x y=>x==y) a.rules b.rules && fq (fq fun x y=>x==y) a.rows b.rows)):=by
 have c1:=Nu a.rules b.rules ha.2.1 hb.2.1;have c2:=Nv a.rows b.rows ha.2.2.1 hb.2.2.1 ha.2.2.2 hb.2.2.2;generalize fq (fun x y=>x==y) a.rules b.rules=v1 at *;generalize fq (fq fun x y=>x==y) a.rows b.rows=v2 at *;obtain⟨n,hn⟩:=cq a.err;obtain⟨m,hm⟩:∃ n,b.err=n:=⟨_,rfl⟩;simp only[GD,hn,hm,ep,ez]at c1 c2 ⊢;refine aY PW ?_;intro Q aJ aK aL;repeat' first|refine aC ?_|refine aB ?_ ?_<;>intro hw<;>try omega|fail
 all_goals first|exact bI|skip
 all_goals (refine a_ ?_ rfl;simp_all)
def YP(a b:iY)(ha:L1 a)(hb:L1 b): aQ aI 46 [iU a,iU b] (.bool (wC a b)):=by
 have c1:=Eh a.input b.input ha.1 hb.1;have c2:=YO a b ha hb
 have e:wC a b=(decide (a.table=b.table) && decide (a.ver=b.ver) && fq (fun x y=>x==y) a.input b.input && (decide (a.err=b.err) && fq (fun x y=>x==y) a.rules b.rules && fq (fq fun x y=>x==y) a.rows b.rows)):=by
  unfold wC;simp only[Bool.and_assoc]
 rw[e];clear e;generalize fq (fun x y=>x==y) a.input b.input=v1 at *;generalize (decide (a.err=b.err) && fq (fun x y=>x==y) a.rules b.rules && fq (fq fun x y=>x==y) a.rows b.rows)=v2 at *;simp only[iU,lK,GD,ep,ez,br]at c1 c2 ⊢;refine aY PX ?_;intro Q aJ aK aL;repeat' first|refine aC ?_|refine HZ c2 ?_|refine aB ?_ ?_<;>intro hw<;>try omega|fail
 all_goals first|exact bI|skip
 all_goals (refine a_ ?_ rfl;simp_all)
def JU(l m:List Int)(hl:l.length<=2 ^ 60)(hm:m.length<=2 ^ 60): aQ aI 108 [ep l,ep m] (.bool (fq (fun a b=>a==b) l m)):=by
 simp only[ep];refine aY EB ?_;intro Q aJ aK aL;repeat' first|refine aC ?_|refine aB ?_ ?_<;>intro hw<;>try omega|fail
 ·refine a_ ?_ rfl;rw[oW ae]
 have rq:l.length=m.length:=ae;with_reducible refine bG [4,2,13,13] (fun i:Nat=>[(13,I i)]) (fun _=>[]) (fun i=>i<=l.length/\ ∀ k,k<i->(l.getD k default==m.getD k default)=true) (fun i=>l.length-i) (0) ?_ ?_ ?_ ?_
 ·simp
 ·rfl
 ·exact at_
 rintro i r ⟨h1,h2⟩;by_cases hi:i<l.length
 ·repeat' first|refine aC ?_|refine aB ?_ ?_<;>intro hw<;>try omega|fail
  ·refine a_ ?_ rfl;rw[rj (p:=fun a b=>a==b) hi (by rw[<-Bool.not_eq_true];simp_all) ae]
  refine⟨i+1,?_,?_,by first|rfl|(simp[go_sem];done),c8,at_⟩<;>(try dsimp only)
  ·exact⟨ae,cn h2 (by simp_all)⟩
  omega
 repeat' first|refine aC ?_|refine aB ?_ ?_<;>intro hw<;>try omega|fail
 refine a_ ?_ rfl;rw[oX (p:=fun a b=>a==b) rq (fun k hk=>h2 k ae)]
def zI (fn : FuncId) (cap : List AV) (hcap : AV.cE cap = true) (p : List aW -> List aW -> Bool) (l m : List (List aW))
    (h:∀ k,k<l.length->k<m.length->aQ aI fn (br (l.getD k default)::br (m.getD k default)::cap) (.bool (p (l.getD k default) (m.getD k default)))) (hl:l.length<=2 ^ 62) (hm:m.length<=2 ^ 62) :
    aQ aI 109 [ez l,ez m,.fn (.func fn) [] cap] (.bool (fq p l m)):=by
 refine aY xq ?_ (by simp[AV.dy,AV.cE,hcap]);intro Q aJ aK aL;simp only[ez];repeat' first|refine aC ?_|refine aB ?_ ?_<;>intro hw<;>try omega|fail
 ·refine a_ ?_ rfl;rw[oW ae]
 have rq:l.length=m.length:=ae;with_reducible refine bG [6,4,17,15] (fun i:Nat=>[(17,I i)]) (fun _=>[]) (fun i=>i<=l.length/\ ∀ k,k<i->p (l.getD k default) (m.getD k default)=true) (fun i=>l.length-i) (0) ?_ ?_ ?_ ?_
 ·simp
 ·rfl
 ·exact at_
 rintro i r ⟨h1,h2⟩;by_cases hi:i<l.length
 ·have hy:=h i hi ae;simp only[br]at hy;repeat' first|refine aC ?_|refine aB ?_ ?_<;>intro hw<;>try omega|fail
  ·refine a_ ?_ rfl;rw[rj hi hw ae]
  refine⟨i+1,?_,?_,by first|rfl|(simp[go_sem];done),c8,at_⟩<;>(try dsimp only)
  ·exact⟨ae,cn h2 hw⟩
  omega
 repeat' first|refine aC ?_|refine aB ?_ ?_<;>intro hw<;>try omega|fail
 refine a_ ?_ rfl;rw[oX rq (fun k hk=>h2 k ae)]
def YQ(a b:List aW)(ha:a.length<=2 ^ 60)(hb:b.length<=2 ^ 60): aQ aI 110 [br a,br b] (.bool (fq (fun x y=>x==y) a b)):=by
 have c:=oq a b ha hb;generalize fq (fun x y=>x==y) a b=v at *;simp only[br]at c ⊢;refine aY P6 ?_;intro Q aJ aK aL;repeat' first|refine aC ?_|refine eS c ?_|refine aB ?_ ?_<;>intro hw<;>try omega|fail
 exact a_ rfl rfl
def aec(a b:iY)(ha:L1 a)(hb:L1 b): aQ aI 67 [.agg (GD a),.agg (GD b)] (.bool (decide (a.err=b.err) && fq (fun x y=>x==y) a.rules b.rules && fq (fq fun x y=>x==y) a.rows b.rows)):=by
 have c1:=JU a.rules b.rules ha.2.1 hb.2.1;have c2:=zI 110 [] rfl (fq fun x y=>x==y) a.rows b.rows (fun k h1 h2=>YQ _ _ (ha.2.2.2 _ (bx h1)) (hb.2.2.2 _ (bx h2))) (by have:=ha.2.2.1;omega) (by have:=hb.2.2.1;omega);generalize fq (fun x y=>x==y) a.rules b.rules=v1 at *;generalize fq (fq fun x y=>x==y) a.rows b.rows=v2 at *;obtain⟨n,hn⟩:=cq a.err;obtain⟨m,hm⟩:∃ n,b.err=n:=⟨_,rfl⟩;simp only[GD,hn,hm,ep,ez]at c1 c2 ⊢;refine aY Ui ?_;intro Q aJ aK aL;repeat' first|refine aC ?_|refine aB ?_ ?_<;>intro hw<;>try omega|fail
 all_goals first|exact bI|skip
 all_goals (refine a_ ?_ rfl;simp_all)
def YR(a b:iY)(ha:L1 a)(hb:L1 b): aQ aI 40 [iU a,iU b] (.bool (wC a b)):=by
 have c1:=oq a.input b.input ha.1 hb.1;have c2:=aec a b ha hb
 have e:wC a b=(decide (a.table=b.table) && decide (a.ver=b.ver) && fq (fun x y=>x==y) a.input b.input && (decide (a.err=b.err) && fq (fun x y=>x==y) a.rules b.rules && fq (fq fun x y=>x==y) a.rows b.rows)):=by
  unfold wC;simp only[Bool.and_assoc]
 rw[e];clear e;generalize fq (fun x y=>x==y) a.input b.input=v1 at *;generalize (decide (a.err=b.err) && fq (fun x y=>x==y) a.rules b.rules && fq (fq fun x y=>x==y) a.rows b.rows)=v2 at *;simp only[iU,lK,GD,ep,ez,br]at c1 c2 ⊢;refine aY PZ ?_;intro Q aJ aK aL;repeat' first|refine aC ?_|refine aB ?_ ?_<;>intro hw<;>try omega|fail
 all_goals first|exact bI|skip
 all_goals (refine a_ ?_ rfl;simp_all)
def aed{v:aW}{a:List aW}(h:∀ v ∈ a,iw v)(h0:0<a.length)(e:v=a.getD 0 default): iw v:=by subst e;exact h _ (bx h0)
def Pf: ∀ {l:List aW} {n:Int} {v:aW},kQ n->Bn l n = .ok v->iw v
 | [], n, v, hn, h => by
   have h:jG.ok ⟨1,n,[]⟩ = .ok v:=h;cases h;exact⟨by simp[bZ],hn,aR⟩
 | u :: r, n, v, hn, h => by
   rw[Gv]at h;rcases DM (n+u.n)with ⟨e,hr⟩|e
   ·rw[e]at h;exact Pf (l:=r) hr h
   rw[e]at h;cases h
def Iw: ∀ {l:List aW} {m:aW},(∀ v ∈ l,iw v)->iw m->iw (qj l m)
 | [],_,_,h=>h
 | v :: r, m, hl, h => by
   rw[Il];refine Iw (fun w hw=>hl w (by simp[hw])) ?_;split
   ·exact hl v aR
   exact h
def L2: ∀ {l:List aW} {m:aW},(∀ v ∈ l,iw v)->iw m->iw (uP l m)
 | [],_,_,h=>h
 | v :: r, m, hl, h => by
   rw[LN];refine L2 (fun w hw=>hl w (by simp[hw])) ?_;split
   ·exact hl v aR
   exact h
def YS{agg:Int}{rows:List (List aW)}{v:aW}(hr:rows.length<=2 ^ 30)(hw:∀ a ∈ rows,0<a.length/\ ∀ v ∈ a,iw v)(h:mL agg rows = .ok v): iw v:=by
 have hh:∀ v ∈ kJ rows,iw v:=fun v hv=>by
  obtain⟨a,ha,e⟩:=LO hv;exact aed (hw a ha).2 (hw a ha).1 e
 by_cases h4:agg=4
 ·subst h4;rw[Wx]at h;cases h;exact⟨by simp[bZ],⟨by dsimp only;omega,by dsimp only;omega⟩,aR⟩
 cases hL:kJ rows with
 | nil=>rw[O5 h4 hL]at h;cases h;exact Hj
 | cons m l =>
   rw[hL]at hh;have hm:=hh m aR;have hl:∀ v ∈ l,iw v:=fun w hw=>hh w (by simp[hw]);by_cases h1:agg=1
   ·subst h1;rw[Wy,hL,aj aR]at h;exact Pf (n:=0) (by unfold kQ;omega) h
   by_cases h2:agg=2
   ·subst h2;rw[Wz hL]at h;cases h;exact Iw hl hm
   rw[WA h4 h1 h2 hL]at h;cases h;exact L2 hl hm
structure L3 (n:Nat) (o:uQ):Prop where
 err:0<=o.err/\o.err<=99
 amj:o.rules.Pairwise (· < ·)
 rules:∀ i ∈ o.rules,0<=i/\i<24
 few:o.rules.length<=24
 rows:o.rows.length<=24
 row:∀ a ∈ o.rows,a.length<=n/\ ∀ v ∈ a,iw v
def Qn{t:Table}{rules:List Int}{rows:List (List aW)}{n:Nat}(hn:n=t.outs.length)(h0:0<n)(hr:rules.Pairwise (· < ·))(hi:∀ i ∈ rules,0<=i/\i<24)(hf:rules.length<=24)(hl:rows.length=rules.length)(hw:∀ a ∈ rows,a.length=n/\ ∀ v ∈ a,iw v): L3 n (nQ t rules rows):=by
 have W:∀ a ∈ rows,a.length<=n/\ ∀ v ∈ a,iw v:=fun a h=>⟨by have:=(hw a h).1;omega,(hw a h).2⟩
 have one:∀ b,rules≠[]->b<rows.length->L3 n ⟨0,[rules.getD b default],[rows.getD b default]⟩:=fun b hne hb =>
  ⟨⟨by dsimp only;omega,by dsimp only;omega⟩,aR,fun i h=>by obtain rfl:=List.mem_singleton.1 h;exact hi _ (bx ae),aR,aR,fun a h=>by obtain rfl:=List.mem_singleton.1 h;exact W _ (bx hb)⟩
 unfold nQ;split
 ·split
  ·have hp:(yd rows []).Perm rows:=by simpa using Dz rows []
   exact⟨⟨by dsimp only;omega,by dsimp only;omega⟩,hr,hi,hf,by show(yd rows []).length<=24;rw[hp.length_eq];omega,fun a h=>W a (hp.mem_iff.1 h)⟩
  split
  ·rename_i e he;have:=O7 he;subst this;exact⟨⟨by dsimp only;omega,by dsimp only;omega⟩,hr,hi,hf,aR,fun a h=>by cases h⟩
  rename_i v hv;have:=YS ae (fun a h=>⟨by have:=(hw a h).1;omega,(hw a h).2⟩) hv;refine⟨⟨by dsimp only;omega,by dsimp only;omega⟩,hr,hi,hf,aR,fun a h=>?_⟩;obtain rfl:=eC.1 h;exact⟨by simp only[aO,bu];omega,fun w hw=>by obtain rfl:=eC.1 hw;exact this⟩
 split
 ·split
  ·exact⟨⟨by dsimp only;omega,by dsimp only;omega⟩,hr,hi,hf,aR,fun a h=>by cases h⟩
  exact⟨⟨by dsimp only;omega,by dsimp only;omega⟩,hr,hi,hf,by show(rows.take 1).length<=24;rw[List.length_take];omega,fun a h=>W a (List.mem_of_mem_take h)⟩
 split
 ·exact⟨⟨by dsimp only;omega,by dsimp only;omega⟩,hr,hi,hf,by show rows.length<=24;omega,W⟩
 split
 ·exact⟨⟨by dsimp only;omega,by dsimp only;omega⟩,aR,fun i h=>(by cases h),aR,aR,fun a h=>by cases h⟩
 rename_i hne;have hl0:0<rows.length:=by rw[hl];exact iR.2 hne
 split
 ·exact one _ hne (Gu ae hl0)
 exact one 0 hne hl0
def Qo{r:Ready}{row:List aW}(h:YG r row)(h2:(jk r row).2=0): mu r.table.ins row=true/\L3 r.table.outs.length (jk r row).1:=by
 have hR:=O_ h.LV h.WB;have hl:=h.LV.lines
 have hin:(eJ r row).2.2≠21->mu r.table.ins row=true:=fun hne=>by
  unfold eJ at hne;split at hne
  ·assumption
  exact absurd rfl hne
 have H24:∀ i ∈ (eJ r row).1,0<=i/\i<24:=fun i hi=>by have:=hR.1.2.1 i hi;omega
 have aiw:∀ (e a:Int),tH e->0<=a/\a.toNat<r.lines.length->L3 r.table.outs.length ⟨e,[a],[]⟩:=fun e a he ha =>
  ⟨(Ho he).2.2,aR,fun i h=>by obtain rfl:=List.mem_singleton.1 h;omega,aR,aR,fun a h=>by cases h⟩
 by_cases Pa:(eJ r row).2.2=21
 ·rw[Ei Pa]at h2;exact absurd h2 da
 refine⟨hin Pa,?_⟩;by_cases h0:(eJ r row).2.2=0
 ·by_cases hu:r.table.bY=1/\1<(eJ r row).1.length
  ·rw[Cq h0 hu];exact⟨⟨by dsimp only;omega,by dsimp only;omega⟩,hR.1.1,H24,hR.1.2.2,aR,fun a h=>by cases h⟩
  rw[Gz h0 hu];rcases JR h.LV h.WB (q:=(eJ r row).1) (acc:=[]) hR.1.2.1 (fun a h=>by cases h)with ⟨k1,k2,k3⟩|⟨k1,k2⟩
  ·rw[aj ae];exact Qn rfl h.aip hR.1.1 H24 hR.1.2.2 (by simpa using k2) k3
  rw[au (Ho k1).1];exact aiw _ _ k1 (hR.1.2.1 _ k2)
 rw[Im Pa h0];rcases hR.2 with h3|h3|h3
 ·exact absurd h3 h0
 ·exact absurd h3 Pa
 exact aiw _ _ h3.1 h3.2
def Bt{t:Table}(h:jU t=0): iL t.name=true/\mq t.ins false=0/\mq t.outs (decide (t.bY=3))=0/\mJ t=true/\t.rules.length<=24:=by
 unfold jU at h;by_cases h1:iL t.name=false
 ·rw[au h1]at h;omega
 rw[aj h1]at h;by_cases h2:mq t.ins false≠0
 ·rw[au h2]at h;exact absurd h h2
 rw[aj h2]at h;by_cases h3:mq t.outs (decide (t.bY=3))≠0
 ·rw[au h3]at h;exact absurd h h3
 rw[aj h3]at h;by_cases h4:mJ t=false
 ·rw[au h4]at h;omega
 rw[aj h4]at h;by_cases h5:24<t.rules.length
 ·rw[au h5]at h;omega
 exact⟨by simpa using h1,ae,ae,by simpa using h4,ae⟩
def Az{l:List cJ}(h:lg l=0): l.length<=6:=by
 unfold lg at h;by_cases h6:6<l.length
 ·rw[au h6]at h;omega
 omega
def L4{t:Table}{r:h_}(h:(lU t r).2.2=0): r.cells.length=t.ins.length/\r.outs.length=t.outs.length/\(lU t r).1=⟨mK t r r.cells.length,pT t r r.outs.length⟩/\ ∀ k,k<r.outs.length->(lA t r k).2=0:=by
 unfold lU at h ⊢;by_cases h1:r.cells.length≠t.ins.length\/r.outs.length≠t.outs.length
 ·rw[au h1]at h;exact absurd h da
 rw[aj h1]at h ⊢;refine⟨ae,ae,?_⟩;split at h
 ·rename_i k hk;have:=fA hk;simp at this;exact absurd h this
 rename_i hn;try rw[hn]
 try dsimp only
 split at h
 ·rename_i k hk;have:=fA hk;simp at this;exact absurd h this
 rename_i hn2;try rw[hn2]
 refine⟨rfl,fun k hk=>?_⟩;have:=fC.1 hn2 k (by simpa using hk);simpa using this
def L5{t:Table}(h:(er t).2.2.2=0): jU t=0/\(er t).1=⟨t,m_ t t.rules.length⟩/\ ∀ j,j<t.rules.length->(kW t j).2.2=0:=by
 unfold er at h ⊢;by_cases h1:jU t≠0
 ·rw[au h1]at h;exact absurd h h1
 rw[aj h1]at h ⊢;refine⟨ae,?_⟩;split at h
 ·rename_i k hk;have:=fA hk;simp at this;exact absurd h this
 rename_i hn;try rw[hn]
 refine⟨rfl,fun k hk=>?_⟩;have:=fC.1 hn k (by simpa using hk);simpa using this
def abu{t:Table}{r:h_}{n:Nat}{c:Cell}(h:c ∈ mK t r n): pS c:=by
 unfold mK at h;obtain⟨k,_,rfl⟩:=dG.1 h;exact Ls _
def aee{t:Table}{r:h_}{n:Nat}{x:Expr}(h:x ∈ pT t r n): jj x/\gM x<=2 ^ 30:=by
 unfold pT at h;obtain⟨k,_,rfl⟩:=dG.1 h;exact Al _
def Pg{t:Table}{n:Nat}{l:kF}(h:l ∈ m_ t n): ∃ j,j<n/\l=(kW t j).1:=by
 unfold m_ at h;obtain⟨k,hk,rfl⟩:=dG.1 h;exact⟨k,by simpa using hk,rfl⟩
def U8{ins:List cJ}{row:List aW}(h:mu ins row=true)(hk:∀ i,i<ins.length->1<=(ins.getD i default).kind): ∀ i,i<ins.length->(row.getD i default).kind=0\/(row.getD i default).kind=(ins.getD i default).kind:=fun i hi=>by
 have hl:=JO h;unfold mu at h;rw[aD,aZ]at h;have:=h.2 i (by simp;omega);rw[aD]at this;have h3:=this.2;have:=hk i hi;simp only[cG,cH,aM]at h3;omega
def TC{ins:List cJ}{row:List aW}(h:mu ins row=true): ∀ v ∈ row,bZ v=true:=fun v hv=>by
 unfold mu at h;rw[aD,aZ]at h;obtain⟨i,hi,rfl⟩:=bP hv;have:=h.2 i (by simpa using hi);rw[aD,aq,aG hi]at this;exact this.1
def abv{t:Table}{k:Nat}{s:aT}(h:(yb t k s).2=0): dY (yb t k s).1=true/\ ∃ K,jX t.ins (yb t k s).1=(K,0)/\cG K (t.outs.getD k default).kind=true:=by
 unfold yb at h ⊢;dsimp only at h ⊢;generalize (jS s).1=x at *;by_cases h1:(jS s).2.2≠0
 ·rw[au h1]at h;exact absurd h h1
 rw[aj h1]at h
 have hz:(jT t.ins x).2=0:=by
  split at h
  ·omega
  exact h
 have hr:dY x=true:=by
  cases hr:dY x with
  | true=>rfl
  | false=>unfold jT at hz;rw[hr]at hz;simp at hz
 have hk:jT t.ins x=jX t.ins x:=by unfold jT;rw[if_pos hr]
 rw[hk]at h hz;refine⟨hr,(jX t.ins x).1,Prod.ext rfl hz,?_⟩;cases hf:cG (jX t.ins x).1 (t.outs.getD k default).kind with
 | true=>rfl
 | false=>rw[au ⟨hz,hf⟩]at h;omega
def Ph{t:Table}(ht:jV t)(h:(er t).2.2.2=0){row:List aW}(hrow:mM row): YG (er t).1 row:=by
 obtain⟨h0,h1,h2⟩:=L5 h;obtain⟨f1,f2,f3,f4,f5⟩:=Bt h0;obtain⟨i1,i2⟩:=rG f2;obtain⟨o1,o2⟩:=rG f3;have i6:=Az i1;have o6:=Az o1
 have ajY:∀ l ∈ m_ t t.rules.length,(l.cells.length=t.ins.length/\ ∀ c ∈ l.cells,pS c)/\l.outs.length=t.outs.length/\ ∀ x ∈ l.outs,jj x/\gM x<=2 ^ 30:=fun l hl=>by
  obtain⟨j,hj,rfl⟩:=Pg hl;obtain⟨l1,l2,l3,_⟩:=L4 (h2 j hj);have l3:(kW t j).1=_:=l3;rw[l3];exact⟨⟨by rw[Am];exact l1,fun c hc=>abu hc⟩,by rw[JC];exact l2,fun x hx=>aee hx⟩
 rw[h1];refine⟨⟨by dsimp only;omega,by dsimp only;omega,by dsimp only;rw[wZ];exact f5,ajY⟩,hrow,o2,fun c hc=>?_,fun hp=>?_,fun hin hp ha l hl he=>?_⟩
 ·exact(ht.2.2.1.2 c hc).2.1
 ·dsimp only at hp ⊢;unfold mJ at f4;rw[aj ae]at f4;by_cases h0:t.agg=0
  ·omega
  rw[aj h0]at f4;by_cases h3:t.bY≠5\/t.agg<1\/4<t.agg\/t.outs.length≠1
  ·rw[au h3]at f4;exact absurd f4 da
  omega
 dsimp only at hin hp ha hl he ⊢
 have Q6:t.outs.length=1/\(t.outs.getD 0 default).kind=1:=by
  unfold mJ at f4;rw[aj ae,aj ae]at f4;by_cases h3:t.bY≠5\/t.agg<1\/4<t.agg\/t.outs.length≠1
  ·rw[au h3]at f4;exact absurd f4 da
  rw[aj h3,aM]at f4;refine⟨ae,?_⟩;rcases f4 with h|h|h
  ·omega
  ·exact h
  exact absurd ha h.2
 obtain⟨j,hj,rfl⟩:=Pg hl;obtain⟨l1,l2,l3,l4⟩:=L4 (h2 j hj);have l3:(kW t j).1=_:=l3;rw[l3]at he ⊢;dsimp only at he ⊢;have e1:(t.rules.getD j default).outs.length=1:=by rw[l2];exact Q6.1
 have t0:=l4 0 ae;rw[e1]at he ⊢;have eo:pT t (t.rules.getD j default) 1=[(lA t (t.rules.getD j default) 0).1]:=rfl;rw[eo]at he ⊢;obtain⟨k1,K,k2,k3⟩:=abv t0;have k1:dY (lA t (t.rules.getD j default) 0).1=true:=k1;have k2:jX t.ins (lA t (t.rules.getD j default) 0).1=(K,0):=k2;have gx:=(Al ((t.rules.getD j default).outs.getD 0 default)).1;have gx:jj (lA t (t.rules.getD j default) 0).1:=gx;generalize (lA t (t.rules.getD j default) 0).1=x at *;have gg:=pV (cs:=t.ins) hrow.2 gx;cases hv:j0 x t.ins row with
 | err e=>rw[Gs hv]at he;rw[hv]at gg;exact absurd he (Co gg)
 | ok v =>
   rw[DI hv,Gt]
   have kv:(j0 x t.ins row).Ap K:=by
    unfold j0;split
    ·exact af1 (U8 hin (fun i hi=>(Dr i1 hi).1)) x K k1 k2
    trivial
   rw[hv]at kv;have kv:v.kind=0\/v.kind=K:=kv;rw[Q6.2]at k3;simp only[cG,cH,aM]at k3;show v.kind=0\/v.kind=1;omega
def zq(t:Table)(ver:Int)(row:List aW)(o:uQ): iY:=⟨t.name,ver,row,o.err,o.rules,o.rows⟩
def mU(t:Table)(ver:Int)(row:List aW): iY × Int :=
 if ver<1\/2147483648<ver then(uU,2)
 else if(er t).2.2.2≠0 then(uU,(er t).2.2.2)
 else if(jk (er t).1 row).2≠0 then(uU,(jk (er t).1 row).2)
 else if 1400<(sn (zq t ver row (jk (er t).1 row).1)).length then(uU,5)else (zq t ver row (jk (er t).1 row).1,0)
def agl: ∀ {l:List Int},l.Pairwise (· < ·)->(∀ i ∈ l,0<=i/\i<24)->tI l=true:=fun {l} h1 h2=>by
 refine Tz fun k hk=>?_;have hb:=h2 _ (bx hk)
 have hp:0<k->l.getD (k-1) default<l.getD k default:=fun h0=>by
  have:=List.pairwise_iff_getElem.1 h1 (k-1) k ae hk ae;rwa[aq,aq,aG hk,aG (by omega:k-1<l.length)]
 have hb:0<=l.getD k 0/\l.getD k 0<24:=hb;have hp:0<k->l.getD (k-1) 0<l.getD k 0:=hp;unfold Ax uV;rw[aM];split
 ·omega
 exact⟨hp ae,hb.2⟩
def Pj {t : Table} (ht : jV t) {ver : Int} (hv : 1 <= ver /\ ver <= 2147483648) {row : List aW} (hrow : mM row) (hm : (er t).2.2.2 = 0) (hd : (jk (er t).1 row).2 = 0) :
    rN (zq t ver row (jk (er t).1 row).1)=true/\oA (zq t ver row (jk (er t).1 row).1):=by
 have amk:=Ph ht hm hrow;obtain⟨h0,h1,_⟩:=L5 hm;obtain⟨f1,f2,f3,f4,f5⟩:=Bt h0;have i6:=Az (rG f2).1;have o6:=Az (rG f3).1;obtain⟨hin,ho⟩:=Qo amk hd;rw[h1]at hin ho;dsimp only at hin ho;have hl:=JO hin;have hr:=TC hin;rw[h1];generalize (jk ⟨t,m_ t t.rules.length⟩ row).1=o at *
 have pin:ko row=true:=by
  unfold ko;rw[bN ae,aZ.2 hr];rfl
 have aml:∀ a ∈ o.rows,ko a=true:=fun a ha=>by
  have:=ho.row a ha;unfold ko;rw[bN ae,aZ.2 (fun v hv=>(this.2 v hv).1)];rfl
 refine⟨?_,?_⟩
 ·unfold rN zq;dsimp only;rw[f1,bN hv,bN ho.err,agl ho.amj ho.rules,bN ho.rows,pin,aZ.2 aml];rfl
 have e1:=ho.err;refine⟨ht.1,⟨by show _<=ver;omega,by show ver<=_;omega⟩,⟨by have:=hrow.1;exact this,fun v hv=>⟨(hrow.2 v hv).1,(hrow.2 v hv).2⟩⟩,⟨by show _<=o.err;omega,by show o.err<=_;omega⟩,⟨by show o.rules.length<=_;have:=ho.few;omega,fun n hn=>?_⟩,by show o.rows.length<=_;have:=ho.rows;omega,fun l hl=>?_⟩
 ·have:=ho.rules n hn;exact⟨ae,ae⟩
 have:=ho.row l hl;exact⟨ae,fun v hv=>(this.2 v hv).2⟩
def abw{σ : ai}: View σ (.agg [.str [],I 0,.aU,I 0,.aU,.aU]) (iU uU) :=
 View.nO (.cons (.refl _ rfl) (.cons (.refl _ rfl) (.cons (.aU _) (.cons (.refl _ rfl) (.cons (.aU _) (.cons (.aU _) (.nil _)))))))
def Ix(p:iY × Int): AV:= .bR [iU p.1,I p.2]
def Hr{σ : ai}{e:Int}{p:iY × Int}(h:p=(uU,e)): ∃ r,Out.ret (oneOf [.agg [.str [],I 0,.aU,I 0,.aU,.aU],I e])=Out.ret r/\View σ r (Ix p):=by
 subst h;exact gN (.cons abw (.cons (.refl _ rfl) (.nil _)))
def aix{σ : ai}{x:iY}{p:iY × Int}(h:p=(x,0)): ∃ r,Out.ret (oneOf [.agg [.str x.table,I x.ver,.aS false EV (x.input.map cR),I x.err,.aS false E1 (x.rules.map sJ),.aS false E1 (x.rows.map br)],I 0])=Out.ret r/\View σ r (Ix p):=by
 subst h;exact gN (.cons (.refl (iU x) aR) (.cons (.refl _ rfl) (.nil _)))
def TD(t:Table)(ht:jV t)(ver:Int)(row:List aW)(hrow:mM row): aQ aI 39 [dP t,I ver,br row] (Ix (mU t ver row)):=by
 have c1:=Ib t ht;have c2:=fun hm=>YH (er t).1 row (Ph ht hm hrow);have hE:=fun hv hm hd=>Pj ht (ver:=ver) hv hrow hm hd;obtain⟨P,hP⟩:=cq (mU t ver row);rw[hP];unfold mU at hP;clear ht hrow;simp only[dP,fU,b_,eL,eR4,lB,qb,br,Gy,ow,ep,ez]at c1 c2 ⊢;by_cases hv:ver<1\/2147483648<ver
 ·rw[au hv]at hP;clear c1 c2 hE;refine aY sO ?_ (by simp[Ix,AV.dy,AV.cE]);intro Q aJ aK aL;repeat' first|refine aC ?_|refine aB ?_ ?_<;>intro hw<;>try omega|fail
  all_goals first|exact Hr hP.symm|exact bI|skip
 rw[aj hv]at hP;have hE:=hE ae;obtain⟨M,hM⟩:=cq (er t);rw[hM]at c1 c2 hE hP;clear hM;obtain⟨r,a1,a2,e1⟩:=M;dsimp only at c1 c2 hE hP;by_cases he:e1≠0
 ·rw[au he]at hP;clear c2 hE;refine aY sO ?_ (by simp[Ix,AV.dy,AV.cE]);intro Q aJ aK aL;repeat' first|refine aC ?_|refine aB ?_ ?_<;>intro hw<;>try omega|fail
  all_goals first|exact Hr hP.symm|exact bI|skip
 rw[aj he]at hP;have he:e1=0:=ae;subst he;have c2:=c2 rfl;have hE:=hE rfl;generalize jk r row=D at *;obtain⟨o,e2⟩:=D;dsimp only at c2 hE hP;by_cases he:e2≠0
 ·rw[au he]at hP;clear hE;refine aY sO ?_ (by simp[Ix,AV.dy,AV.cE]);intro Q aJ aK aL;repeat' first|refine aC ?_|refine aB ?_ ?_<;>intro hw<;>try omega|fail
  all_goals first|exact Hr hP.symm|exact bI|skip
 rw[aj he]at hP;have he:e2=0:=ae;subst he;obtain⟨k1,k2⟩:=hE rfl;have c3:=Iv (zq t ver row o) k2;have hC:td (zq t ver row o)=if 1400<(sn (zq t ver row o)).length then 5 else 0:=by unfold td;rw[if_neg (by rw[k1];decide)]
 rw[hC]at c3;clear k1 k2 hC;generalize sn (zq t ver row o)=s at *;simp only[iU,lK,zq,br,ep,ez]at c3;by_cases hs:1400<s.length
 ·rw[au hs]at hP c3;refine aY sO ?_ (by simp[Ix,AV.dy,AV.cE]);intro Q aJ aK aL;repeat' first|refine aC ?_|refine aB ?_ ?_<;>intro hw<;>try omega|fail
  all_goals first|exact Hr hP.symm|exact bI|skip
 rw[aj hs]at hP c3;refine aY sO ?_ (by simp[Ix,AV.dy,AV.cE]);intro Q aJ aK aL;repeat' first|refine aC ?_|refine aB ?_ ?_<;>intro hw<;>try omega|fail
 all_goals first|exact aix (x:=zq t ver row o) hP.symm|exact bI|skip
def JV{l:List aW}(h:w_ l): mM l:=⟨h.1,fun w hw=>⟨(h.2 w hw).1,(h.2 w hw).2⟩⟩
def L6{t:Table}(ht:jV t)(ver:Int){row:List aW}(hrow:mM row): oA (mU t ver row).1:=by
 unfold mU;by_cases h1:ver<1\/2147483648<ver
 ·rw[au h1];exact Hp
 rw[aj h1];by_cases h2:(er t).2.2.2≠0
 ·rw[au h2];exact Hp
 rw[aj h2];by_cases h3:(jk (er t).1 row).2≠0
 ·rw[au h3];exact Hp
 rw[aj h3];split
 ·exact Hp
 exact(Pj ht ae hrow ae ae).2
def Cu(x:iY)(t:Table): Bool:=decide ((mU t x.ver x.input).2=0) && wC x (mU t x.ver x.input).1
def Iy(x:iY)(hx:oA x)(t:Table)(ht:jV t): aQ aI 15 [iU x,dP t] (.bool (Cu x t)):=by
 have c1:=TD t ht x.ver x.input (JV hx.2.2.1);have c2:=YR x (mU t x.ver x.input).1 hx.sm (L6 ht x.ver (JV hx.2.2.1)).sm;unfold Cu;generalize mU t x.ver x.input=P at *;obtain⟨y,e⟩:=P;dsimp only at c2 ⊢;generalize wC x y=B at *;simp only[iU,lK,dP,fU,b_,eL,br,ep,ez,Ix]at c1 c2 ⊢;refine aY MK ?_;intro Q aJ aK aL;by_cases he:e=0
 ·subst he;repeat' first|refine aC ?_|refine aB ?_ ?_<;>intro hw<;>try omega|fail
  all_goals first|exact DH rfl aR|exact bI|skip
 repeat' first|refine aC ?_|refine aB ?_ ?_<;>intro hw<;>try omega|fail
 all_goals first|exact DH rfl (by simp[he])|exact bI|skip
