/- Part. -/
import Derived.Test.YtoldfccfpameeaaGreatDoorX13
set_option linter.all false
set_option maxHeartbeats 4000000
namespace Go.Proofs.YtoldfccfpameeaaGreatDoor
open Go.AM
set_option maxRecDepth 4000
section
variable {α : Type} (τ lq:List α) (x y z w : α)
def mg0: (τ++[z]++lq)[τ.length]? = some z:=by rw[aT,bp (bg _),Nat.sub_self];rfl
def ms0: (τ++[z]++lq).set τ.length w = τ++[w]++lq:=by rw[aT,dY _ _ (bg _),Nat.sub_self,aT];rfl
def mg2: (τ++[z]++lq++[x]++[y])[τ.length]? = some z:=by
 have:=mg0 τ (lq++[x]++[y]) z;simpa[aT]using this
def ms2: (τ++[z]++lq++[x]++[y]).set τ.length w = τ++[w]++lq++[x]++[y]:=by
 have:=ms0 τ (lq++[x]++[y]) z w;simpa[aT]using this
def ml: (τ++[z]++lq).length = τ.length+1+lq.length:=by simp;omega
def lx0: (τ++[z]++lq++[x])[τ.length+1+lq.length]? = some x:=by rw[<-ml τ lq z];simp
def lx1: (τ++[z]++lq++[x]).set (τ.length+1+lq.length) w = τ++[z]++lq++[w]:=by rw[<-ml τ lq z,dY _ _ (bg _),Nat.sub_self];rfl
def ly0: (τ++[z]++lq++[x]++[y])[τ.length+1+lq.length]? = some x:=by rw[<-ml τ lq z];exact aiQ _ _ _
def ly1: (τ++[z]++lq++[x]++[y])[τ.length+1+lq.length+1]? = some y:=by rw[<-ml τ lq z];exact amS _ _ _
def ly2: (τ++[z]++lq++[x]++[y]).set (τ.length+1+lq.length+1) w = τ++[z]++lq++[x]++[w]:=by rw[<-ml τ lq z];exact amT _ _ _ _
end
def MC (r : Ready) (row : List aX) (i : Int) (q : List Int) (acc : List (List aX)) : me r row (i :: q) acc = if (jJ r.table.ins row (r.lines.getD i.toNat default).outs []).2 ≠ 0 then ([], i, (jJ r.table.ins row (r.lines.getD i.toNat default).outs []).2)
    else me r row q (acc++[(jJ r.table.ins row (r.lines.getD i.toNat default).outs []).1]):=rfl
def akv(o1 o2:aY)(T:List (List aX) × Int × Int)(o:Out)(s:ai): Prop :=
 (T.2.2≠0/\o = .ret (.bU [.aV,I T.2.1,I T.2.2])/\ ∃ τ,s=o1::o2:: τ)\/(T.2.2=0/\o = .ret (.bU [ud 3 T.1,I 0,I 0])/\ ∃ o3 τ,s=o1::o2::o3::kB T.1:: τ)
def aey (r : Ready) (hr : HQ r) (row : List aX) (hrow : mT row) (rules : List Int) (WN : ∀ i ∈ rules, 0 <= i /\ i.toNat < r.lines.length) (h24 : rules.length <= 24) (o1 o2 : aY) :
    cE aH 106 [lH r,eN rules,bu row] [o1,o2] (akv o1 o2 (me r row rules [])):=by
 have hz:=fun i (hi:i<rules.length)=>WN _ (bq hi);have fy:=fun j (hj:j<r.lines.length) k (hk:k<(r.lines.getD j default).outs.length)=>(show aS aH 144 [br ((r.lines.getD j default).outs.getD k default),b_ r.table.ins,bu row] (BK (j5 ((r.lines.getD j default).outs.getD k default) r.table.ins row))/\(j5 ((r.lines.getD j default).outs.getD k default) r.table.ins row).good from⟨GX _ r.table.ins row ((hr.line _ (bq hj)).2.2 _ (bq hk)).1 (by have:=((hr.line _ (bq hj)).2.2 _ (bq hk)).2;omega) (by have:=hr.ins;omega) (by have:=hrow.1;omega) hrow.2,pV hrow.2 ((hr.line _ (bq hj)).2.2 _ (bq hk)).1⟩);have EE:=fun j (hj:j<r.lines.length)=>(hr.line _ (bq hj)).2.1;have amV:=hr.outs;clear WN hr hrow;obtain⟨T,hT⟩:=cq (me r row rules []);rw[hT];simp only[lH,b_,eR,qh,bu,eN];refine UU.go ?_;unfold dP;intro Q aJ aK aL;repeat' first|refine aB ?_|refine aA ?_ ?_<;>intro hw<;>try omega|fail
 with_reducible refine bE [6,4,11,2,14,3,19,38] (fun q:(Nat × List (List aX)) × List aY=>[(9,.own E1 3 q.1.2.length 0 q.1.2.length),(19,I q.1.1)]) (fun q=>o1::o2:: .cells [.str r.table.name,.aR false EC (r.table.ins.map dQ),.aR false EC (r.table.outs.map dQ),I r.table.bW,I r.table.agg,.aR false ER (r.table.rules.map fY),.aR false ER (r.lines.map mM)]:: .vec E1 (q.1.2.map bu)::q.2) (fun q=>q.1.1<=rules.length/\q.1.2.length=q.1.1/\me r row (rules.drop q.1.1) q.1.2=T) (fun q=>rules.length-q.1.1) ((0,[]),[]) ?_ ?_ ?_ ?_
 ·exact⟨aQ,rfl,hT⟩
 ·rfl
 ·exact at_
 rintro⟨⟨i,rows⟩,τ⟩ u ⟨g1,g2,g4⟩;dsimp only at g1 g2 g4;clear hT;by_cases hi:i<rules.length
 ·have hz:=hz i hi;rw[kG hi,MC]at g4;obtain⟨z,hz0⟩:=cq (rules.getD i default);rw[hz0]at hz g4;obtain⟨j,rfl⟩:∃ j:Nat,z=j:=⟨z.toNat,ae⟩;have hj:j<r.lines.length:=ae;have fy:=fy j hj;have EE:=EE j hj;rw[show ((j:Int)).toNat=j from rfl]at g4;obtain⟨ln,Cv⟩:=cq (r.lines.getD j default);rw[Cv]at fy EE g4;obtain⟨ps,hps⟩:=cq ln.outs;rw[hps]at fy EE g4;have qQ:ps.length<=2^30:=ae;obtain⟨P,hP⟩:=cq (jJ r.table.ins row ps []);rw[hP]at g4;repeat' first|refine cz (zB hz0 Cv hps) ?_|refine aB ?_|refine aA ?_ ?_<;>intro hw<;>try omega|fail
  with_reducible refine bE [6,3,12,1,14,3,30,22] (fun q:List aX × List aY=>[(12,.own EV (τ.length+4) q.1.length 0 q.1.length),(30,I q.1.length)]) (fun q=>o1::o2:: .cells [.str r.table.name,.aR false EC (r.table.ins.map dQ),.aR false EC (r.table.outs.map dQ),I r.table.bW,I r.table.agg,.aR false ER (r.table.rules.map fY),.aR false ER (r.lines.map mM)]:: .vec E1 (rows.map bu)::(τ++[.vec EV (q.1.map c8)]++q.2)) (fun q=>q.1.length<=ps.length/\jJ r.table.ins row (ps.drop q.1.length) q.1=P) (fun q=>ps.length-q.1.length) ([],[]) ?_ ?_ ?_ ?_
  ·exact⟨aQ,by simpa using hP⟩
  ·simp
  ·exact at_
  rintro⟨L,lq⟩ u' ⟨k1,k2⟩;dsimp only at k1 k2;clear hP;by_cases hk:L.length<ps.length
  ·have hx:=fy _ hk;rw[kG hk]at k2;obtain⟨x,hx0⟩:=cq (ps.getD L.length default);rw[hx0]at hx k2;obtain⟨cA,gA⟩:=hx;simp only[jJ]at k2;clear fy EE;generalize j5 x r.table.ins row=ra at *;rw[bM]at cA;simp only[b_,bu]at cA;cases ra with
   | err e =>
     rw[uf]at cA;have he:=CM gA;dsimp only at k2;simp only[iz]at cA;subst k2;rw[au he]at g4;repeat' first|simp (disch:=omega) only[go_sem,aJ,aK,aL,hx0,mg0,ms0,mg2,ms2,lx0,lx1,ly0,ly1,ly2]|refine aB ?_|refine aA ?_ ?_<;>intro hw<;>try omega|fail
     all_goals first
      | exact bJ
      | exact .inl (by rw[<-g4];exact⟨he,rfl,_,rfl⟩)
      | skip
   | ok a =>
     rw[CL]at cA;dsimp only at k2;simp only[iz]at cA;repeat' first|simp (disch:=omega) only[go_sem,aJ,aK,aL,hx0,mg0,ms0,mg2,ms2,lx0,lx1,ly0,ly1,ly2]|refine aB ?_|refine aA ?_ ?_<;>intro hw<;>try omega|fail
     all_goals first
      | exact bJ
      |(refine⟨(L++[a],lq++[.cells [I x.op,I x.v.kind,I x.v.n,.str x.v.s,.str x.s,.aR false EX (x.l.map br)]]++[.cells [I a.kind,I a.n,.str a.s]]),⟨by dsimp only;simp only[List.length_append,List.length_cons,List.length_nil];omega,by dsimp only;simp only[List.length_append,List.length_cons,List.length_nil];exact k2⟩,by dsimp only;simp only[List.length_append,List.length_cons,List.length_nil];omega,by simp[go_sem],da,at_⟩)
      | skip
  rw[cB ae]at k2;have k2:P=(L,0):=k2.symm;subst k2;rw[aj aQ]at g4;clear fy;repeat' first|simp (disch:=omega) only[go_sem,aJ,aK,aL,mg0,ms0,mg2,ms2]|refine aB ?_|refine aA ?_ ?_<;>intro hw<;>try omega|fail
  all_goals first
   | exact bJ
   |(refine⟨((i+1,rows++[L]),τ++[.dead]++lq),⟨by dsimp only;omega,by dsimp only;simp only[List.length_append,List.length_cons,List.length_nil];omega,g4⟩,by dsimp only;omega,by simp[go_sem,bu],da,at_⟩)
   | skip
 rw[cB ae]at g4;have g4:T=(rows,0,0):=g4.symm;subst g4;clear fy EE hz;repeat' first|refine aB ?_|refine aA ?_ ?_<;>intro hw<;>try omega|fail
 all_goals first
  | exact bJ
  | exact .inr ⟨rfl,rfl,_,_,rfl⟩
  | skip
def T4: ∀ {l:List aX} {n e:Int},BI l n = .err e->e=15
 | [],_,_,h=>by cases h
 | v :: r, n, e, h => by
   rw[G1]at h;rcases Ea (n+v.n)with ⟨e1,_⟩|e1
   ·rw[e1]at h;exact T4 h
   rw[e1]at h;cases h;rfl
def PW{agg:Int}{rows:List (List aX)}{e:Int}(h:mS agg rows = .err e): e=15:=by
 unfold mS at h;split at h
 ·cases h
 split at h
 ·cases h
 split at h
 ·exact T4 h
 split at h<;>cases h
def VA(agg:Int)(ha:agg≠0)(rules:List Int)(rows:List (List aX))(hr:rows.length<=2^30)(hw:∀ a ∈ rows,0<a.length/\ ∀ v ∈ a,kX v.n): aS aH 145 [I agg,eN rules,eX rows] (oF (Rp agg rules rows)):=by
 have c:=aex agg rows hr hw;have he:=fun e=>PW (agg:=agg) (rows:=rows) (e:=e);unfold Rp;generalize mS agg rows=R at *;obtain⟨O,hO⟩:=cq (aiT rules R);rw[hO];simp only[eN,eX]at c |-;cases R with
 | ok v =>
   rw[CL,iz]at c;refine a_ vT ?_;intro Q aJ aK aL;repeat' first|refine aB ?_|refine eU c ?_|refine aA ?_ ?_<;>intro hw<;>try omega|fail
   all_goals first|exact aiU hO.symm|exact bJ|skip
 | err e =>
   have he:=he e rfl;subst he;rw[uf,iz]at c;refine a_ vT ?_;intro Q aJ aK aL;repeat' first|refine aB ?_|refine eU c ?_|refine aA ?_ ?_<;>intro hw<;>try omega|fail
   all_goals first|exact agO hO.symm|exact bJ|skip
def aez{rows:List (List aX)}: List.take (if 1<(rows.length:Int)then (1:Int)else (rows.length:Int)).toNat (rows.map bu)=(rows.take 1).map bu:=by
 rw[List.map_take];split
 ·rfl
 rename_i h;have:rows.length<=1:=ae;rw[bG aQ,bG (by simpa using this)]
def AU{σ : ai}{f:Bool}{l:List (List aX)}: View σ (.aR f E1 (l.map bu)) (eX l):=View.weak _ _ _ (T1 _)
def Zl(t:Table)(hp:¬ (t.bW=5/\t.agg=0))(rules:List Int)(rows:List (List aX))(ho:t.outs.length<=2^30)(ho0:0<t.outs.length)(hc:∀ c ∈ t.outs,c.order.length<=2^60)(hr:rows.length<=2^30)(hlen:rules.length=rows.length)(hw:∀ a ∈ rows,a.length=t.outs.length/\ ∀ v ∈ a,kX v.n): aS aH 107 [dS t,eN rules,eX rows] (oF (nX t rules rows)):=by
 have cC:=fun ha=>VA t.agg ha rules rows hr (fun a h=>⟨by have:=(hw a h).1;omega,(hw a h).2⟩);have cU:=Zj rows hr (fun a h=>by have:=(hw a h).1;omega);have cF:=abI t.outs rows hc ho hr (fun a h=>(hw a h).1);have hF:=fun(h0:0<rows.length)=>G0 (outs:=t.outs) (rows:=rows) (l:=rows) (i:=0) (b:=0) ae h0;clear hc hw;obtain⟨O,hO⟩:=cq (nX t rules rows);rw[hO];unfold nX at hO;by_cases hp5:t.bW=5
 ·have ha:t.agg≠0:=fun h=>hp ⟨hp5,h⟩;have cC:=cC ha;rw[au hp5,aj ha]at hO
  have e:Rp t.agg rules rows=O:=by
   rw[<-hO];unfold Rp;cases mS t.agg rows<;>rfl
  rw[e]at cC;clear cU cF hF;simp only[dS,gK,b_,eR,eN,eX,oF]at cC |-;refine a_ kT ?_;intro Q aJ aK aL;repeat' first|refine aB ?_|refine aA ?_ ?_<;>intro hw<;>try omega|fail
  all_goals first|exact rO (o:=O) rfl oE AU|exact bJ|skip
 clear cC hp;rw[aj hp5]at hO;by_cases hp4:t.bW=4
 ·rw[au hp4]at hO;generalize Cw rows=B at *;clear cF hF;simp only[dS,gK,b_,eR,eN,eX]at cU |-;cases B with
  | true =>
    rw[au rfl]at hO;subst hO;refine a_ kT ?_;intro Q aJ aK aL;repeat' first|refine aB ?_|refine aA ?_ ?_<;>intro hw<;>try omega|fail
    all_goals first|exact rO (o:=⟨20,rules,[]⟩) rfl oE (.aV _)|exact bJ|skip
  | false =>
    rw[aj cW]at hO;subst hO;refine a_ kT ?_;intro Q aJ aK aL;repeat' first|simp (disch:=omega) only[go_sem,aJ,aK,aL,aez]|refine aB ?_|refine aA ?_ ?_<;>intro hw<;>try omega|fail
    all_goals first|exact rO (o:=⟨0,rules,rows.take 1⟩) rfl oE AU|exact bJ|skip
 rw[aj hp4]at hO;clear cU;by_cases hp6:t.bW=6
 ·rw[au hp6]at hO;subst hO;clear cF hF;simp only[dS,gK,b_,eR,eN,eX];refine a_ kT ?_;intro Q aJ aK aL;repeat' first|refine aB ?_|refine aA ?_ ?_<;>intro hw<;>try omega|fail
  all_goals first|exact rO (o:=⟨0,rules,rows⟩) rfl oE AU|exact bJ|skip
 rw[aj hp6]at hO;generalize qx t.outs rows rows 0 0=b at *;by_cases h0:rules=[]
 ·rw[au h0]at hO;subst hO;have hl0:rows.length=0:=by rw[<-hlen,h0];rfl
  have Iz:rules.length=0:=by rw[h0];rfl
  clear hF;by_cases R8:t.bW=3
  ·simp only[dS,gK,b_,eR,eN,eX]at cF |-;refine a_ kT ?_;intro Q aJ aK aL;repeat' first|refine aB ?_|refine aA ?_ ?_<;>intro hw<;>try omega|fail
   all_goals first|exact rO (o:=⟨0,[],[]⟩) rfl (.aV _) (.aV _)|exact bJ|skip
  clear cF;simp only[dS,gK,b_,eR,eN,eX];refine a_ kT ?_;intro Q aJ aK aL;repeat' first|refine aB ?_|refine aA ?_ ?_<;>intro hw<;>try omega|fail
  all_goals first|exact rO (o:=⟨0,[],[]⟩) rfl (.aV _) (.aV _)|exact bJ|skip
 rw[aj h0]at hO;have hl0:0<rules.length:=iR.2 h0;have hb:=hF ae;clear hF;by_cases R8:t.bW=3
 ·rw[au R8]at hO;subst hO;have s1:=MB sM (l:=rules) (b:=b) ae (n:=b+1-b) ae;have s2:=MB bu (l:=rows) (b:=b) ae (n:=b+1-b) ae;simp only[dS,gK,b_,eR,eN,eX]at cF |-;refine a_ kT ?_;intro Q aJ aK aL;repeat' first|refine cz (zA s1 s2) ?_|refine aB ?_|refine aA ?_ ?_<;>intro hw<;>try omega|fail
  all_goals first|exact rO (o:=⟨0,[rules.getD b default],[rows.getD b default]⟩) rfl vi PV|exact bJ|skip
 rw[aj R8]at hO;subst hO;clear cF;have s1:(rules.map sM).take (((0:Int)+1).toNat-0)=[sM (rules.getD 0 default)]:=MB sM (l:=rules) (b:=0) ae rfl;have s2:(rows.map bu).take (((0:Int)+1).toNat-0)=[bu (rows.getD 0 default)]:=MB bu (l:=rows) (b:=0) ae rfl;simp only[dS,gK,b_,eR,eN,eX];refine a_ kT ?_;intro Q aJ aK aL;repeat' first|refine cz (zA s1 s2) ?_|refine aB ?_|refine aA ?_ ?_<;>intro hw<;>try omega|fail
 all_goals first|exact rO (o:=⟨0,[rules.getD 0 default],[rows.getD 0 default]⟩) rfl vi PV|exact bJ|skip
section
variable {σ : ai} {k:Nat} {o:aY}
def kl(h : σ[k]? = some o): k < σ.length:=(aE.1 h).1
def ks1(h : σ[k]? = some o)(v x:aY): (σ++[x]).set k v = σ.set k v++[x]:=by rw[iN _ _ (kl h)]
def kg1(h : σ[k]? = some o)(x:aY): (σ++[x])[k]? = some o:=by rw[aI (kl h)];exact h
def kt1(v x:aY): (σ.set k v++[x])[σ.length]? = some x:=by
 have:(σ.set k v).length = σ.length:=dN;rw[<-this];simp
def ku1(v x y:aY): (σ.set k v++[x]).set σ.length y = σ.set k v++[y]:=by
 have:(σ.set k v).length = σ.length:=dN;rw[<-this,dY _ _ (bg _),Nat.sub_self];rfl
def ks2(h : σ[k]? = some o)(v x y:aY): (σ++[x]++[y]).set k v = σ.set k v++[x]++[y]:=by rw[aT,iN _ _ (kl h),aT]
def kl2(v x:aY): (σ.set k v++[x]).length = σ.length+1:=aQ
def kg3(v x y z:aY): (σ.set k v++[x]++[y]++[z])[σ.length+1]? = some y:=by rw[<-kl2 (k:=k) v x];exact aiQ _ _ _
def ku3(v x y z w:aY): (σ.set k v++[x]++[y]++[z]).set (σ.length+1) w = σ.set k v++[x]++[w]++[z]:=by
 rw[<-kl2 (k:=k) v x,ap2,dY _ _ (bg _),Nat.sub_self,aT _ [w] [z]];rfl
end
def Kt (rules : List Int) (L : List Row) (hl : L.length < 40) (hw : ∀ a ∈ L, a.length <= 2^30) (σ : ai) (k : Nat) (iE : σ[k]? = some (kB L)) :
    cE aH 145 [I 0,eN rules,ud k L] σ fun o s=>o = .ret (.agg [I 0,eN rules,ud k L])/\ ∃ c,s = σ.set k (kB (eW L))++[c]:=by
 have h:=Za 192 L (fun x hx y hy=>Q0 x y (hw x hx) (hw y hy)) hl;obtain⟨M,hM⟩:=cq (eW L);rw[hM]at h |-;have s1:=ks1 iE;have g1:=kg1 iE;have t1:=fun v x=>kt1 (σ:=σ) (k:=k) v x;have u1:=fun v x y=>ku1 (σ:=σ) (k:=k) v x y;simp only[eN];refine vT.go ?_;unfold dP;intro Q aJ aK aL;repeat' first|refine cz (zC g1 s1 t1 u1) ?_|refine aB ?_|with_reducible refine W3 h (g1 _) ?_|refine aA ?_ ?_<;>intro hw<;>try omega|fail
 all_goals first|exact⟨rfl,_,rfl⟩|exact bJ|skip
def MD (t : Table) (hp : t.bW = 5) (ha : t.agg = 0) (rules : List Int) (L : List Row) (hl : L.length < 40) (hw : ∀ a ∈ L, a.length <= 2^30) (σ : ai) (k : Nat) (iE : σ[k]? = some (kB L)) :
    cE aH 107 [dS t,eN rules,ud k L] σ fun o s=>o = .ret (.agg [I 0,eN rules,ud k L])/\ ∃ τ,s = σ.set k (kB (eW L))++ τ:=by
 have hc:=fun(b c:aY)=>Kt rules L hl hw (σ++[b]++[c]) k (by
  rw[aT,aI (kl iE)];exact iE)
 have hk:=kl iE;obtain⟨M,hM⟩:=cq (eW L);rw[hM]at hc |-;simp only[dS,gK,b_,eR,eN]at hc |-;refine kT.go ?_;unfold dP;intro Q aJ aK aL;repeat' first|refine cz (zA hp ha) ?_|refine aB ?_|with_reducible refine bP ((hc _ _)) ?_|refine aA ?_ ?_<;>intro hw<;>try omega|fail
 rintro o s' ⟨rfl,c,rfl⟩;have s2:=ks2 iE;have g3:=fun v x y z=>kg3 (σ:=σ) (k:=k) v x y z;have u3:=fun v x y z w=>ku3 (σ:=σ) (k:=k) v x y z w;rw[s2];clear hc;repeat' first|refine cz (zA g3 u3) ?_|refine aB ?_|refine aA ?_ ?_<;>intro hw<;>try omega|fail
 all_goals first|exact⟨rfl,_,by rw[aT,aT]⟩|exact bJ|skip
end Go.Proofs.YtoldfccfpameeaaGreatDoor
namespace Go.AM
variable {P:Program}
def View.live{σ σ':ai}(hs:∀ (l:Nat) o,σ[l]? = some o->o.live=true->σ'[l]? = some o){a b:AV}(h:View σ a b): View σ' a b:=by
 induction h with
 | refl a h=>exact .refl a h
 | aV el=>exact .aV el
 | weak f el xs h=>exact .weak f el xs h
 | aR f el xs ys hl _ ih=>exact .aR f el xs ys hl ih
 | own T el l lo n xs ys hl hy hn _ ih=>exact .own T el l lo n xs ys (hs _ _ hl rfl) hy hn ih
 | agg cs ds hl _ ih=>exact .agg cs ds hl ih
 | bU cs ds hl _ ih=>exact .bU cs ds hl ih
 | cell l v hl h hp=>exact .cell l v (hs _ _ hl rfl) h hp
 | cells l n cs hl hn hp=>exact .cells l n cs (hs _ _ hl rfl) hn hp
 | zc l n cs ds hl hn hd h ih=>exact .zc l n cs ds (hs _ _ hl rfl) hn hd ih
 | nZ a l o hl ho h=>exact .nZ a l o (hs _ _ hl ho) ho h
 | fn f az bs cs ds hl _ hl' _ ih qN=>exact .fn f az bs cs ds hl ih hl' qN
def Zm(q:Nat)(o:aY): ai:=List.replicate q .dead++[o]
def abN{q:Nat}{o:aY}(l:Nat)(o':aY)(h:(Zm q o)[l]? = some o')(hl:o'.live=true): l=q/\o'=o:=by
 unfold Zm at h;by_cases h1:l<q
 ·rw[aI (by simpa using h1)]at h;simp[List.getElem?_replicate,h1]at h;subst h;cases hl
 rw[bp (by simpa using ja h1)]at h;simp only[gC]at h
 have:l-q=0:=by
  apply Nat.eq_zero_of_not_pos;intro hp;rw[List.getElem?_eq_none (by simp;omega)]at h;cases h
 rw[this]at h;simp at h;exact⟨ae,h.symm⟩
def aS.freeze {f : FuncId} {az bz : List AV} {r : AV} {σ : ai} {q : Nat} {o : aY} (h : aS P f bz r) (hq : σ[q]? = some o) (ho : o.live = true) (hv : cY (Zm q o) az bz) (hr : r.dy = true) :
    cE P f az σ fun out s=>out = .ret r/\s = σ.set q .dead:=by
 refine⟨(h []).1,fun g w vs hR hlen hvs=>?_⟩;have hqn:q<g.n:=by rw[<-hR.len];exact(aE.1 hq).1
 have T5:Live σ q:=⟨o,hq,ho⟩
 let I:Nat->Prop:=fun b=>g.fN b\/g.base q=some b
 have hlt:∀ b,I b->b<w.heap.size:=fun b hb=>by
  rcases hb with hb|hb
  ·exact hR.lt b hb
  exact hR.k8 T5 hb
 let PX:ai:=σ.zipIdx.map fun x=>if x.2=q then x.1 else .dead
 have T6:∀ (l:Nat) o',PX[l]? = some o'->o'.live=true->l=q/\σ[l]? = some o':=fun l o' hl hlv=>by
  simp only[PX,fP,List.getElem?_zipIdx,Option.map_map]at hl;obtain⟨x,hx,mJ⟩:=bj.1 hl;simp at mJ;split at mJ
  ·rename_i e;subst mJ;exact⟨e,hx⟩
  subst mJ;cases hlv
 have aiV:PX.length = σ.length:=by simp[PX]
 have akw:PX[q]? = some o:=by
  simp only[PX,fP,List.getElem?_zipIdx,Option.map_map];rw[hq];simp
 have hRq:Rel g w PX:=by
  refine⟨by rw[aiV];exact hR.len,hR.lt,fun l o' ho'=>?_,fun l l' b hl hl'=>?_,fun l b hl=>?_,hR.glob⟩
  ·by_cases hlv:o'.live=true
   ·exact hR.ok l o' (T6 l o' ho' hlv).2
   ·cases o'<;>simp[aY.live]at hlv;trivial
  ·obtain⟨o1,h1,h2⟩:=hl;obtain⟨o2,h3,h4⟩:=hl';exact hR.inj l l' b ⟨o1,(T6 l o1 h1 h2).2,h2⟩ ⟨o2,(T6 l' o2 h3 h4).2,h4⟩
  obtain⟨o1,h1,h2⟩:=hl;exact hR.qc l b ⟨o1,(T6 l o1 h1 h2).2,h2⟩
 have Dq:∀ {x y:AV},View (Zm q o) x y->View PX x y:=fun hxy=>hxy.live (fun l o' hl hlv=>by
  obtain⟨rfl,rfl⟩:=abN l o' hl hlv;exact akw)
 refine((h []).2 (aN.bare I) w vs (Rel.bare hlt ⟨fun b hb=> .inl (hR.glob.1 b hb),hR.glob.2⟩) (hv.1 ▸ hlen) (fun i hi=>?_)).mono ?_
 ·refine(Dq (hv.2 i (hv.1 ▸ hi))).vr (g':=aN.bare I) hRq (fun b hb=> .inl hb) (fun b hb=>?_) (hvs i (hv.1 ▸ hi));obtain⟨l,⟨o1,h1,h2⟩,hb⟩:=hb;obtain⟨rfl,_⟩:=T6 l o1 h1 h2;exact .inr hb
 rintro e w' ⟨out,g',σ',jf,hE,hO,rfl,rfl⟩;have hfr:∀ b,b<w.heap.size->w'.heap[b]? = w.heap[b]?:=fun b hb=>hE.frame b hb jm
 let g2:aN:= { g with fN:=fun b=>I b\/(w.heap.size<=b/\b<w'.heap.size) }
 have hm:kH g w g2 w':=⟨fun b hb=>⟨.inl (.inl hb),hfr b (hR.lt b hb)⟩,bg _,fun _ _=>⟨bg _,fun _=>⟨rfl,rfl,rfl⟩⟩⟩
 have sH:∀ (l:Nat) o',(σ.set q .dead)[l]? = some o'->o'.live=true->l≠q/\σ[l]? = some o':=fun l o' hl hlv=>by
  by_cases e:l=q
  ·subst e;rw[bw (aE.1 hq).1]at hl;cases hl;cases hlv
  rw[aF (Ne.symm e)]at hl;exact⟨e,hl⟩
 have Ev:Rel g2 w' (σ.set q .dead):=by
  refine⟨by simp[g2,hR.len],fun b hb=>?_,fun l o' ho'=>?_,fun l l' b hl hl'=>?_,fun l b hl hb hi=>?_,hR.glob.mono hm.fN⟩
  ·rcases hb with hb|hb
   ·exact di (hlt b hb) hE.size
   exact hb.2
  ·by_cases hlv:o'.live=true
   ·obtain⟨_,h2⟩:=sH l o' ho' hlv;have hl:l<g.n:=by rw[<-hR.len];exact(aE.1 h2).1
    exact(hR.ok l o' h2).step hm hl rfl (fun b hb=>hfr b (hR.k8 ⟨o',h2,hlv⟩ hb))
   ·cases o'<;>simp[aY.live]at hlv;trivial
  ·obtain⟨o1,h1,h2⟩:=hl;obtain⟨o2,h3,h4⟩:=hl';exact hR.inj l l' b ⟨o1,(sH l o1 h1 h2).2,h2⟩ ⟨o2,(sH l' o2 h3 h4).2,h4⟩
  obtain⟨o1,h1,h2⟩:=hl;obtain⟨hne,h3⟩:=sH l o1 h1 h2;rcases hi with(hi|hi)|hi
  ·exact hR.qc l b ⟨o1,h3,h2⟩ hb hi
  ·exact hne (hR.inj l q b ⟨o1,h3,h2⟩ T5 hb hi)
  have:=hR.k8 ⟨o1,h3,h2⟩ hb;omega
 refine⟨.ret r,g2,_,Ev,⟨hm,hE.size,hE.os,hE.tape,hE.output,fun b hb _=>hfr b hb,fun b hb hi=>?_,fun b hb ht=>?_⟩,?_,rfl,rfl⟩
 ·rcases hi with(hi|hi)|hi
  ·exact .inl hi
  ·exact .inr ⟨q,T5,hi⟩
  omega
 ·obtain⟨l,⟨o1,h1,h2⟩,iA⟩:=ht;exact⟨l,⟨o1,(sH l o1 h1 h2).2,h2⟩,iA⟩
 ·cases e with
  | returned v =>
    refine VR.dy (g:=g') (g':=g2) (fun b hb=>⟨?_,rfl⟩) hO hr;by_cases Ax:b<w.heap.size
    ·rcases hE.qW b Ax hb with h3|h3
     ·exact .inl h3
     exact absurd h3 jm
    exact .inr ⟨ae,jf.lt b hb⟩
  | panicked c=>exact hO.elim
  | outgrown=>exact hO.elim
end Go.AM
namespace Go.Proofs.YtoldfccfpameeaaGreatDoor
open Go.AM
def tQ(e:Int): Prop:=e=2\/e=5\/e=13\/e=14\/e=15\/e=16
def HR{e:Int}(h:tQ e): e≠0/\e≠21/\0<=e/\e<=99:=by unfold tQ at h;omega
def aiW{cs:List cV}{row:List aX}(hrow:∀ w ∈ row,uv w)(v:aX){t:Test}(ht:zz t): (u0 cs row v t).2=0\/tQ (u0 cs row v t).2:=by
 have ga:=pV (cs:=cs) hrow ht.1.1;have gb:=pV (cs:=cs) hrow ht.2.1
 have hT:∀ a b,(zG t v a b).2=0\/tQ (zG t v a b).2:=fun a b=>by
  unfold zG;split
  ·exact .inl rfl
  exact .inr (.inr (.inr (.inr (.inl rfl))))
 unfold u0;revert ga gb;generalize j5 t.a cs row=ra;generalize j5 t.b cs row=rb;intro ga gb;cases ra with
 | err e=>exact .inr ga
 | ok a =>
   dsimp only;split
   ·cases rb with
    | err e=>exact .inr gb
    | ok b=>exact hT _ _
   exact hT _ _
def T7{cs:List cV}{row:List aX}(hrow:∀ w ∈ row,uv w)(v:aX)(any neg:Bool): ∀ {l:List Test},(∀ t ∈ l,zz t)->(u7 cs row v any neg l).2=0\/tQ (u7 cs row v any neg l).2
 | [],_=> .inl rfl
 | t :: r, h => by
   have ht:=aiW (cs:=cs) hrow v (h t aQ);unfold u7;split
   ·rename_i he;rcases ht with ht|ht
    ·exact absurd ht he
    exact .inr ht
   split
   ·exact .inl rfl
   exact T7 hrow v any neg (fun t ht=>h t (by simp[ht]))
def aeA{cs:List cV}{row:List aX}(hrow:∀ w ∈ row,uv w)(v:aX){c:Cell}(hc:pR c): (nH c v cs row).2=0\/tQ (nH c v cs row).2:=by
 unfold nH;split
 ·exact T7 hrow v _ _ hc.2
 exact .inr (.inl rfl)
def T8{cs:List cV}{row:List aX}(hrow:∀ w ∈ row,uv w): ∀ {l:List Cell} {k:Nat},(∀ c ∈ l,pR c)->(nI cs row l k).2=0\/tQ (nI cs row l k).2
 | [],_,_=> .inl rfl
 | c :: r, k, h => by
   rw[IX];split
   ·exact aeA hrow _ (h c aQ)
   exact T8 hrow (fun c hc=>h c (by simp[hc]))
def G3 {GH : Int} {cs : List cV} {row : List aX} (hrow : ∀ w ∈ row, uv w) : ∀ {ls : List kL} {k : Nat} {acc : List Int}, (∀ l ∈ ls, ∀ c ∈ l.cells, pR c) -> acc.Pairwise (· < ·) -> (∀ i ∈ acc, 0 <= i /\ i < k) ->
    let R:=tg GH cs row ls k acc
    (R.1.Pairwise (· < ·)/\ ∀ i ∈ R.1,0<=i/\i<(k+ls.length:Nat))/\(R.2.2=0\/(R.1=[]/\tQ R.2.2/\0<=R.2.1/\R.2.1<(k+ls.length:Nat)))
 | [],k,acc,_,h1,h2=>⟨⟨h1,fun i hi=>by have:=h2 i hi;simp;omega⟩,.inl rfl⟩
 | l :: r, k, acc, hc, h1, h2 => by
   have he:=T8 (cs:=cs) hrow (k:=0) (hc l aQ);have hr:∀ l ∈ r,∀ c ∈ l.cells,pR c:=fun l hl=>hc l (by simp[hl])
   have a1:(acc++[(k:Int)]).Pairwise (· < ·):=fX.2 ⟨h1,aQ,fun a ha b hb=>by
    have:=h2 a ha;obtain rfl:b=k:=by simpa using hb
    omega⟩
   have a2:∀ i ∈ acc++[(k:Int)],0<=i/\i<(k+1:Nat):=fun i hi=>by
    rcases List.mem_append.1 hi with hi|hi
    ·have:=h2 i hi;omega
    obtain rfl:i=k:=by simpa using hi
    omega
   have e:k+(l::r).length=k+1+r.length:=by simp;omega
   rw[e];dsimp only;rw[IY];split
   ·rename_i hne;refine⟨⟨.nil,fun i hi=>by cases hi⟩,.inr ⟨rfl,?_,by dsimp only;omega,by dsimp only;omega⟩⟩;rcases he with he|he
    ·exact absurd he hne
    exact he
   split
   ·split
    ·exact ⟨⟨aQ, fun i hi => by
      obtain rfl:i=k:=by simpa using hi
      omega⟩,.inl rfl⟩
    exact G3 hrow hr a1 a2
   exact G3 hrow hr h1 (fun i hi=>by have:=h2 i hi;omega)
def PY: ∀ {l:List Int} {n:Int},l.Pairwise (· < ·)->(∀ i ∈ l,n<=i)-> ∀ {m:Nat},(∀ i ∈ l,i<n+m)->l.length<=m
 | [],_,_,_,_,_=>by simp
 | a :: r, n, h1, h2, m, h3 => by
   have ha:=h2 a aQ;have hb:=h3 a aQ;have h4:=fK.1 h1;obtain⟨m',rfl⟩:∃ m',m=m'+1:=⟨m-1,ae⟩;have:=PY (l:=r) (n:=n+1) h4.2 (fun i hi=>by have:=h4.1 i hi;omega) (m:=m') (fun i hi=>by have:=h3 i (by simp[hi]);omega);simp only[aO];omega
def PZ {r : Ready} (hr : HQ r) {row : List aX} (hrow : mT row) :
    ((eK r row).1.Pairwise (· < ·) /\ (∀ i ∈ (eK r row).1, 0 <= i /\ i.toNat < r.lines.length) /\ (eK r row).1.length <= 24) /\
      ((eK r row).2.2=0\/(eK r row).2.2=21\/(tQ (eK r row).2.2/\0<=(eK r row).2.1/\(eK r row).2.1.toNat<r.lines.length)):=by
 unfold eK;split
 ·have h:=G3 (GH:=r.table.bW) (cs:=r.table.ins) hrow.2 (ls:=r.lines) (k:=0) (acc:=[]) (fun l hl=>(hr.line l hl).1.2) .nil (fun i hi=>by cases hi);dsimp only at h;generalize tg r.table.bW r.table.ins row r.lines 0 []=R at *;have hl:=hr.lines;refine⟨⟨h.1.1,fun i hi=>by have:=h.1.2 i hi;omega,?_⟩,?_⟩
  ·have:=PY (n:=0) h.1.1 (fun i hi=>(h.1.2 i hi).1) (m:=r.lines.length) (fun i hi=>by have:=h.1.2 i hi;omega);omega
  rcases h.2 with h2|⟨_,h3,h4,h5⟩
  ·exact .inl h2
  exact .inr (.inr ⟨h3,h4,ae⟩)
 exact⟨⟨.nil,⟨fun i hi=>(by cases hi),Nat.zero_le _⟩⟩,.inr (.inl rfl)⟩
def ME {cs : List cV} {row : List aX} (hrow : ∀ w ∈ row, uv w) : ∀ {xs : List Expr} {acc : List aX}, (∀ x ∈ xs, jj x) -> (∀ v ∈ acc, iC v) ->
    ((jJ cs row xs acc).2=0/\(jJ cs row xs acc).1.length=acc.length+xs.length/\ ∀ v ∈ (jJ cs row xs acc).1,iC v)\/tQ (jJ cs row xs acc).2
 | [],acc,_,h=> .inl ⟨rfl,by simp[jJ],h⟩
 | x :: r, acc, hx, h => by
   have g:=pV (cs:=cs) hrow (hx x aQ);simp only[jJ];revert g;cases j5 x cs row with
   | err e=>intro g;exact .inr g
   | ok v =>
     intro g
     have:=ME (cs:=cs) hrow (xs:=r) (acc:=acc++[v]) (fun x h=>hx x (by simp[h])) (fun w hw=>by
      rcases List.mem_append.1 hw with hw|hw
      ·exact h w hw
      ·obtain rfl:w=v:=by simpa using hw
       exact g)
     rcases this with⟨h1,h2,h3⟩|h1
     ·exact .inl ⟨h1,by rw[h2];simp;omega,h3⟩
     exact .inr h1
def Ku {r : Ready} (hr : HQ r) {row : List aX} (hrow : mT row) : ∀ {q : List Int} {acc : List (List aX)}, (∀ i ∈ q, 0 <= i /\ i.toNat < r.lines.length) -> (∀ a ∈ acc, a.length = r.table.outs.length /\ ∀ v ∈ a, iC v) ->
    ((me r row q acc).2.2=0/\(me r row q acc).1.length=acc.length+q.length/\ ∀ a ∈ (me r row q acc).1,a.length=r.table.outs.length/\ ∀ v ∈ a,iC v)\/(tQ (me r row q acc).2.2/\(me r row q acc).2.1 ∈ q)
 | [],acc,_,h=> .inl ⟨rfl,by simp[me],h⟩
 | i :: q, acc, hq, h => by
   have hi:=hq i aQ;have hl:=hr.line _ (bq hi.2);have ho:=ME (cs:=r.table.ins) hrow.2 (xs:=(r.lines.getD i.toNat default).outs) (acc:=[]) (fun x hx=>(hl.2.2 x hx).1) (fun v hv=>by cases hv);rw[MC];rcases ho with⟨h1,h2,h3⟩|h1
   ·rw[aj ae]
    have:=Ku hr hrow (q:=q) (acc:=acc++[(jJ r.table.ins row (r.lines.getD i.toNat default).outs []).1]) (fun j hj=>hq j (by simp[hj])) (fun a ha=>by
     rcases List.mem_append.1 ha with ha|ha
     ·exact h a ha
     ·obtain rfl:=eY.1 ha;exact⟨by rw[h2,hl.2.1];simp,h3⟩)
    rcases this with⟨k1,k2,k3⟩|⟨k1,k2⟩
    ·exact .inl ⟨k1,by rw[k2];simp;omega,k3⟩
    exact .inr ⟨k1,dz _ k2⟩
   rw[au (HR h1).1];exact .inr ⟨h1,aQ⟩
set_option maxRecDepth 4000
def G4(p:ve × Int): AV:= .bU [oF p.1,I p.2]
def yR{σ : ai}{r0 r1:AV}{o:ve}{e c:Int}{p:ve × Int}(hp:p=(o,c))(h:I o.err=I e)(h1:View σ r0 (eN o.rules))(h2:View σ r1 (eX o.rows)): ∃ r,Out.ret (oneOf [.agg [I e,r0,r1],I c])=Out.ret r/\View σ r (G4 p):=by
 subst hp;unfold G4 oF;rw[h];exact gW (.cons (View.nS (.cons (.refl _ rfl) (.cons h1 (.cons h2 (.nil _))))) (.cons (.refl _ rfl) (.nil _)))
structure Zn (r:Ready) (row:List aX):Prop where
 MG:HQ r
 Xg:mT row
 aiX:0<r.table.outs.length
 ord:∀ c ∈ r.table.outs,c.order.length<=2^60
 agg:r.table.bW=5->0<=r.table.agg/\r.table.agg<=4
 sum:mB r.table.ins row=true->r.table.bW=5->r.table.agg=1-> ∀ l ∈ r.lines,(jJ r.table.ins row l.outs []).2=0->(afw (jJ r.table.ins row l.outs []).1).kind=0\/(afw (jJ r.table.ins row l.outs []).1).kind=1
def EL{r:Ready}{row:List aX}(h:(eK r row).2.2=21): jw r row=(⟨0,[],[]⟩,21):=by unfold jw;exact if_pos h
def I0{r:Ready}{row:List aX}(h:(eK r row).2.2≠21)(h0:(eK r row).2.2≠0): jw r row=(⟨(eK r row).2.2,[(eK r row).2.1],[]⟩,0):=by unfold jw;rw[if_neg h,if_pos h0]
def CO{r:Ready}{row:List aX}(h0:(eK r row).2.2=0)(h1:r.table.bW=1/\1<(eK r row).1.length): jw r row=(⟨19,(eK r row).1,[]⟩,0):=by unfold jw;rw[if_neg ae,if_neg ae,if_pos h1]
def G5{r:Ready}{row:List aX}(h0:(eK r row).2.2=0)(h1:¬ (r.table.bW=1/\1<(eK r row).1.length)): jw r row=if(me r row (eK r row).1 []).2.2≠0 then(⟨(me r row (eK r row).1 []).2.2,[(me r row (eK r row).1 []).2.1],[]⟩,0)else (nX r.table (eK r row).1 (me r row (eK r row).1 []).1,0):=by unfold jw;rw[if_neg ae,if_neg ae,if_neg h1]
def T9{o1 o2 o3:aY}{τ : List aY}{M:List (List aX)}{n:Nat}(h:n=M.length): View (o1::o2::o3::kB M:: τ) (.own E1 3 n 0 n) (eX M):=by
 subst h
 have:=View.own (σ:=o1::o2::o3::kB M:: τ) none E1 3 0 M.length (M.map bu) (M.map bu) rfl aQ aQ (fun i hi=>by
  rw[bL];exact .refl _ (j_ (T1 _) i))
 rw[cZ]at this;exact this
def Zo(r:Ready)(row:List aX)(h:Zn r row): aS aH 65 [lH r,bu row] (G4 (jw r row)):=by
 have c1:=abF r h.MG row h.Xg;have hR:=(PZ h.MG h.Xg).1;have d1:=EL (r:=r) (row:=row);have d2:=I0 (r:=r) (row:=row);have d3:=CO (r:=r) (row:=row);have d4:=G5 (r:=r) (row:=row);obtain⟨D,hD⟩:=cq (jw r row);rw[hD]at d1 d2 d3 d4 |-;clear hD;have cT:=fun o1 o2=>aey r h.MG row h.Xg (eK r row).1 hR.2.1 hR.2.2 o1 o2;have hT:=Ku h.MG h.Xg (q:=(eK r row).1) (acc:=[]) hR.2.1 (fun a h=>by cases h);have cC:=fun(hp:¬ (r.table.bW=5/\r.table.agg=0)) rows hr hlen hw=>Zl r.table hp (eK r row).1 rows h.MG.outs h.aiX h.ord hr hlen hw;have hs:=fun(hp:r.table.bW=5) (ha:r.table.agg=0) rows (hl:rows.length<40) hw σ k iE=>MD r.table hp ha (eK r row).1 rows hl hw σ k iE;have amV:=h.MG.outs;have h24:=hR.2.2;clear h hR;generalize eK r row=R at *;obtain⟨rules,aoU,e⟩:=R;dsimp only at *;have hch:∀ rows,nX r.table rules rows=nX r.table rules rows:=fun _=>rfl;simp only[lH,b_,eR,qh,bu,eRu,eN]at c1 cT |-;by_cases P4:e=21
 ·have d1:=d1 P4;subst d1;subst P4;clear cT cC hs d2 d3 d4 hT;refine a_ tM ?_ (by simp[G4,oF,AV.dy,AV.cG]);intro Q aJ aK aL;repeat' first|refine aB ?_|refine aA ?_ ?_<;>intro hw<;>try omega|fail
  all_goals first|exact yR rfl rfl (.aV _) (.aV _)|exact bJ|skip
 by_cases h0:e≠0
 ·have d2:=d2 P4 h0;subst d2;clear cT cC hs d1 d3 d4 hT;refine a_ tM ?_ (by simp[G4,oF,AV.dy,AV.cG]);intro Q aJ aK aL;repeat' first|refine aB ?_|refine aA ?_ ?_<;>intro hw<;>try omega|fail
  all_goals first|exact yR rfl rfl vi (.aV _)|exact bJ|skip
 have h0:e=0:=ae;subst h0;by_cases hu:r.table.bW=1/\1<rules.length
 ·have d3:=d3 rfl hu;subst d3;clear cT cC hs d1 d2 d4 hT;refine a_ tM ?_ (by simp[G4,oF,AV.dy,AV.cG]);intro Q aJ aK aL;repeat' first|refine aB ?_|refine aA ?_ ?_<;>intro hw<;>try omega|fail
  all_goals first|exact yR rfl rfl oE (.aV _)|exact bJ|skip
 have d4:=d4 rfl hu;clear d1 d2 d3;generalize me r row rules []=T at *;obtain⟨rows,aoV,e⟩:=T;dsimp only at *;refine a_ tM ?_ (by simp[G4,oF,AV.dy,AV.cG]);intro Q aJ aK aL;repeat' first|refine aB ?_|with_reducible refine bP ((cT _ _)) ?_|refine aA ?_ ?_<;>intro hw<;>try omega|fail
 all_goals
  rintro o s (⟨he,rfl,τ,rfl⟩|⟨he,rfl,o3,τ,rfl⟩)
  ·dsimp only at he;rw[au he]at d4;subst d4;clear cT cC hs hT hch;repeat' first|refine aB ?_|refine aA ?_ ?_<;>intro hw<;>try omega|fail
   all_goals first|exact yR rfl rfl vi (.aV _)|exact bJ|skip
  dsimp only at he;subst he;rw[aj aQ]at d4
  obtain⟨_,hlen,hw⟩:(0:Int)=0/\rows.length=[].length+rules.length/\ ∀ a ∈ rows,a.length=r.table.outs.length/\ ∀ v ∈ a,iC v:=by
   rcases hT with hT|hT
   ·exact hT
   exact absurd rfl (HR hT.1).1
  have hlen:rules.length=rows.length:=by simp at hlen;omega
  clear hT cT;by_cases hp:r.table.bW=5/\r.table.agg=0
  ·have hs3:=fun o1 o2 o3 τ=>hs hp.1 hp.2 rows ae (fun a h=>by have:=(hw a h).1;omega) (o1::o2::o3::kB rows:: τ) 3 rfl;have hch:nX r.table rules rows=⟨0,rules,eW rows⟩:=by unfold nX;rw[if_pos hp.1,if_pos hp.2];rfl
   rw[hch]at d4;have hlM:=oN rows;clear hs cC;generalize eW rows=M at *;subst d4;simp only[dS,gK,b_,eR,eN]at hs3;repeat' first|refine aB ?_|with_reducible refine bP ((hs3 _ _ _ _)) ?_|refine aA ?_ ?_<;>intro hw<;>try omega|fail
   rintro o s' ⟨rfl,lq,rfl⟩;repeat' first|refine aB ?_|refine aA ?_ ?_<;>intro hw<;>try omega|fail
   all_goals first|exact yR rfl rfl oE (T9 hlM.symm)|exact bJ|skip
  have iL:=cC hp rows ae hlen (fun a h=>⟨(hw a h).1,fun v hv=>((hw a h).2 v hv).2.1⟩);clear hs cC;generalize nX r.table rules rows=O at *;subst d4;have hf:=fun o1 o2 o3 τ=>aS.freeze (az:=[dS r.table,eN rules,ud 3 rows]) (σ:=o1::o2::o3::kB rows:: τ) (q:=3) (o:=kB rows) iL rfl rfl (.cons (.refl _ aQ) (.cons (.refl _ aQ) (.cons (T9 (o1:= .dead) (o2:= .dead) (o3:= .dead) (τ:=[]) rfl) (.nil _)))) aQ;simp only[dS,gK,b_,eR,eN,oF,eX]at hf;clear iL;repeat' first|refine aB ?_|with_reducible refine bP ((hf _ _ _ _)) ?_|refine aA ?_ ?_<;>intro hw<;>try omega|fail
  rintro o s' ⟨rfl,rfl⟩;repeat' first|refine aB ?_|refine aA ?_ ?_<;>intro hw<;>try omega|fail
  all_goals first|exact yR rfl rfl oE AU|exact bJ|skip
def AW(n:Int): Nat:=if n<0 then(2*(-1-n)+1).toNat else(2*n).toNat
def zL: Nat->Nat->aU
 | 0,c=>[UInt8.ofNat c]
 | f+1,c=>if c<128 then [UInt8.ofNat c]else UInt8.ofNat (128+c % 128)::zL f (c / 128)
def iO(n:Int): aU:=zL 9 (AW n)
def iq(s:aU): aU:=iO s.length++s
def aeB{n:Int}(h : -9223372036854775808<=n)(h':n<=9223372036854775807): AW n<18446744073709551616:=by
 unfold AW;split<;>omega
def u8(n:Nat)(h:n<256): (UInt8.ofNat n).toNat=n:=by simp[UInt8.toNat_ofNat'];omega
def oG(v:aX): aU:=iO v.kind++(if v.kind=2 then iq v.s else if v.kind=1\/v.kind=3 then iO v.n else [])
def pA(l:List aX): aU:=iO l.length++l.flatMap oG
def I1{v:aX}(h:cg v=true): v.kind=0/\v=v0\/v.kind=1/\v.s=[]\/v.kind=2/\v.n=0/\v.s.length<=40\/v.kind=3/\v.s=[]:=by
 obtain⟨k,n,s⟩:=v;unfold cg at h;dsimp only at h |-;split at h
 ·left;simp at h;simp[v0, *]
 split at h
 ·right;left;simp at h;simp[*]
 split at h
 ·right;right;left;simp[mw]at h;simp[*]
 split at h
 ·right;right;right;simp at h;simp[*]
 ·cases h
def nM(n:Int): Prop:= -9223372036854775808<=n/\n<=9223372036854775807
def xC(l:List aX): Prop:=l.length<=2^30/\ ∀ v ∈ l,nM v.n/\v.s.length<=2^30
def wP(o:Bool)(c:cV): aU:=iq c.name++iO c.kind++(if o then pA c.order else [])
def sx(o:Bool)(l:List cV): aU:=iO l.length++l.flatMap (wP o)
def mU(r:ia): aU:=r.cells.flatMap iq++r.outs.flatMap iq
def MH(t:Table): aU:=iq t.name++iO t.bW++iO t.agg++sx false t.ins++sx true t.outs++iO t.rules.length++t.rules.flatMap mU
def m_(t:Table): aU × Int:=if(gk t).2.2.2≠0 then([],(gk t).2.2.2)else if qJ (gk t).1 t=false then([],4)else if 1400<(MH t).length then([],5)else (MH t,0)
def Zp(o:Bool)(c:cV): Prop:=c.name.length<=1400/\nM c.kind/\(o=false->c.order=[])/\c.order.length<=8/\ ∀ v ∈ c.order,cg v=true/\nM v.n
def akx(t:Table): Prop:=t.name.length<=1400/\nM t.bW/\nM t.agg/\(t.ins.length<=6/\ ∀ c ∈ t.ins,Zp false c)/\(0<t.outs.length/\t.outs.length<=6/\ ∀ c ∈ t.outs,Zp true c)/\t.rules.length<=24 /\
 ∀ r ∈ t.rules,r.cells.length=t.ins.length/\r.outs.length=t.outs.length/\(∀ s ∈ r.cells,s.length<=1400)/\ ∀ s ∈ r.outs,s.length<=1400
def I2{t:Table}{s:aU}(h:m_ t=(s,0)): (gk t).2.2.2=0/\qJ (gk t).1 t=true/\s=MH t/\s.length<=1400:=by
 unfold m_ at h;split at h
 ·rename_i h1;injection h with _ h2;exact absurd h2 h1
 split at h
 ·injection h with _ h2;cases h2
 split at h
 ·injection h with _ h2;cases h2
 rename_i h1 h2 h3;injection h with h4 _;exact⟨ae,by simpa using h2,h4.symm,by rw[<-h4];omega⟩
def N_{α : Type}{f : α->aU}{l:List α}{x : α}(h:x ∈ l): (f x).length<=(l.flatMap f).length:=by
 induction l with
 | nil=>cases h
 | cons y l ih =>
   rw[jx,aC];rcases List.mem_cons.1 h with rfl|h
   ·omega
   have:=ih h;omega
def AY{l:List cV}(h:lA l=0): l.length<=6/\ ∀ c ∈ l,iZ c.name=true/\1<=c.kind/\c.kind<=3:=by
 have h6:l.length<=6:=by
  unfold lA at h;split at h
  ·omega
  omega
 refine⟨h6,fun c hc=>?_⟩;obtain⟨i,hi,rfl⟩:=bV hc;have e:l[i]=l.getD i default:=by rw[aq,aG hi];rfl
 rw[e];refine⟨?_,DP h hi⟩;unfold lA at h;rw[aj ae]at h;split at h
 ·rename_i j hj;have:=fJ hj;simp[h]at this
 rename_i hn;have:=fL.1 hn i (by simpa using hi);have h0:wh l i=0:=by simpa using this
 unfold wh at h0;split at h0
 ·omega
 rename_i hh;have:=not_or.1 hh;simpa using this.1
def wo{s:aU}(h:iZ s=true): s.length<=16:=by
 simp only[iZ,aD,aM]at h;exact h.1.2
def Eb{l:List cV}{b:Bool}(h:mA l b=0): lA l=0/\0<l.length/\ ∀ c ∈ l,lJ c b=true:=by
 obtain⟨h1,h2⟩:=rI h;refine⟨h1,h2,fun c hc=>?_⟩;unfold mA at h;rw[aj ae]at h;split at h
 ·omega
 rename_i hh;have:=(not_or.1 hh).2;rw[List.any_eq_true]at this;cases hq:lJ c b with
 | true=>rfl
 | false=>exact absurd ⟨c,hc,by rw[hq];rfl⟩ this
def MI{c:cV}{b:Bool}(h:lJ c b=true)(hk:wM c): (b=false->c.order=[])/\c.order.length<=8/\ ∀ v ∈ c.order,cg v=true/\nM v.n:=by
 unfold lJ at h;cases b with
 | false =>
   rw[aj aQ,aM]at h;have:=dA.1 h;rw[this];exact⟨fun _=>rfl,aQ,aQ⟩
 | true =>
   rw[au rfl,aD,aM,bf]at h;refine⟨fun h=>(by cases h),h.2.2,fun v hv=>?_⟩;refine⟨?_,(hk.2.2 v hv).1⟩;obtain⟨i,hi,rfl⟩:=bV hv;have:=h.1 i (by simpa using hi);simp only[Gs,aD]at this;have e:c.order[i]=c.order.getD i default:=by rw[aq,aG hi];rfl
   rw[e];exact this.1.1
def I3{t:Table}(h:mQ t=true): 1<=t.bW/\t.bW<=6/\0<=t.agg/\t.agg<=4:=by
 unfold mQ at h;split at h
 ·cases h
 split at h
 ·omega
 split at h
 ·cases h
 omega
def agP{t:Table}{s:aU}(ok:j4 t)(h:m_ t=(s,0)): akx t:=by
 obtain⟨h1,h2,h3,h4⟩:=I2 h;obtain⟨h5,_,_⟩:=IU h1;obtain⟨hf,hl,_⟩:=yB h5
 have hn:iZ t.name=true:=by
  unfold jV at hf;split at hf
  ·omega
  rename_i hh;simpa using hh
 have hp:mA t.ins false=0/\mA t.outs (decide (t.bW=3))=0/\mQ t=true/\t.rules.length<=24:=by
  unfold jV at hf;rw[hn,aj aQ]at hf;split at hf
  ·contradiction
  split at hf
  ·contradiction
  split at hf
  ·cases hf
  split at hf
  ·cases hf
  rename_i a b c d;exact⟨by simpa using a,by simpa using b,by simpa using c,ae⟩
 obtain⟨p1,p2,p3,p4⟩:=hp;obtain⟨i1,i2,i3⟩:=Eb p1;obtain⟨o1,o2,o3⟩:=Eb p2;have pp:=I3 p3;have hi:=AY i1;have ho:=AY o1
 have hc:∀ (b b':Bool) (c:cV),(iZ c.name=true/\1<=c.kind/\c.kind<=3)->lJ c b=true->wM c->(b'=false->b=false)->Zp b' c:=fun b b' c q1 q2 q3 q4=>by
  have w1:=wo q1.1;have w2:=MI q2 q3;exact⟨ae,⟨ae,ae⟩,fun e=>w2.1 (q4 e),w2.2⟩
 refine⟨by have:=wo hn;omega,⟨ae,ae⟩,⟨ae,ae⟩,⟨hi.1,fun c hm=>hc false false c (hi.2 c hm) (i3 c hm) (ok.2.1.2 c hm) (fun _=>rfl)⟩,
  ⟨o2,ho.1,fun c hm=>hc _ true c (ho.2 c hm) (o3 c hm) (ok.2.2.1.2 c hm) (fun h=>(by cases h))⟩,p4,fun r hr=>?_⟩
 obtain⟨j,hj,rfl⟩:=bV hr;have e:t.rules[j]=t.rules.getD j default:=by rw[aq,aG hj];rfl
 have hz:=hl j hj;unfold lg at hz;rw[<-e]at hz;obtain⟨z1,z2,_⟩:=Ml hz;have l1:(mU t.rules[j]).length<=(t.rules.flatMap mU).length:=N_ hr
 have l2:(t.rules.flatMap mU).length<=1400:=by
  rw[h3]at h4;unfold MH at h4;simp only[aC]at h4;omega
 have e1:(mU t.rules[j]).length=(t.rules[j].cells.flatMap iq).length+(t.rules[j].outs.flatMap iq).length:=by unfold mU;rw[List.length_append]
 have e2:∀ s,(iq s).length=(iO s.length).length+s.length:=fun s=>by unfold iq;rw[List.length_append]
 refine⟨z1,z2,fun s hs=>?_,fun s hs=>?_⟩
 ·have:=N_ (f:=iq) hs;have:=e2 s;omega
 have:=N_ (f:=iq) hs;have:=e2 s;omega
def aiY: nM 0:=⟨cW,cW⟩
def T_{v:aX}(h:cg v=true): v.s.length<=40:=by
 rcases I1 h with⟨_,h⟩|⟨_,h⟩|⟨_,_,h⟩|⟨_,h⟩
 ·rw[h];decide
 ·rw[h];decide
 ·exact h
 rw[h];decide
def aeC: ∀(k c:Nat),(zL k c).length<=k+1:=by
 intro k
 induction k with
 | zero=>intro c;simp[zL]
 | succ k ih => intro c; rw [zL]; split
                ·simp
                have:=ih (c / 128);simp;omega
def iV(n:Int): (iO n).length<=10:=aeC 9 _
structure jW where
 table:aU
 ver:Int
 input:List aX
 err:Int
 rules:List Int
 rows:List (List aX)
deriving Inhabited
def vo: jW:=⟨[],0,[],0,[],[]⟩
def kx(l:List aX): Bool:=decide (l.length<=6) && l.all cg
def vp(l:List Int)(k:Nat): Int:=if k=0 then -1 else l.getD (k-1) 0
def AZ(l:List Int)(k:Nat): Bool:=decide (vp l k<l.getD k 0/\l.getD k 0<24)
def tR(l:List Int): Bool:=(List.range l.length).all (AZ l)
def rP(e:jW): Bool:=iZ e.table && decide (1<=e.ver/\e.ver<=2147483648) && decide (0<=e.err/\e.err<=99) && tR e.rules && decide (e.rows.length<=24) && kx e.input && e.rows.all kx
def sy(e:jW): aU:=iq e.table++iO e.ver++pA e.input++(iO e.err++iO e.rules.length)++e.rules.flatMap iO++iO e.rows.length++e.rows.flatMap pA
def tB(e:jW): Int:=if rP e=false then 2 else if 1400<(sy e).length then 5 else 0
def gM(e:jW): aU × Int:=if tB e≠0 then([],tB e)else (sy e,0)
def Oa{l:List Int}(h:tR l=true){k:Nat}(hk:k<l.length): vp l k<l.getD k 0/\l.getD k 0<24:=by
 have:=bf.1 h k (eF.2 hk);simpa[AZ]using this
def agQ{l:List Int}(h:tR l=true): ∀ k,k<l.length->(k:Int)<=l.getD k 0:=by
 intro k
 induction k with
 | zero=>intro hk;have:=(Oa h hk).1;unfold vp at this;rw[if_pos rfl]at this;omega
 | succ k ih =>
   intro hk;have h1:=ih ae;have h2:=(Oa h hk).1;unfold vp at h2;rw[aj ae,Nat.add_sub_cancel]at h2;omega
def aeD{l:List Int}(h:tR l=true): l.length<=24:=by
 rcases Nat.lt_or_ge 24 l.length with hn|hn
 ·have h1:=agQ h 24 hn;have h2:=(Oa h hn).2;omega
 exact hn
def Zq{e:jW}(h:rP e=true): iZ e.table=true/\(1<=e.ver/\e.ver<=2147483648)/\(0<=e.err/\e.err<=99)/\tR e.rules=true/\e.rows.length<=24/\kx e.input=true/\ ∀ l ∈ e.rows,kx l=true:=by
 simp only[rP,aD,aM,bf]at h;obtain⟨⟨⟨⟨⟨⟨h1,h2⟩,h3⟩,h4⟩,h5⟩,h6⟩,h7⟩:=h;exact⟨h1,h2,h3,h4,h5,h6,h7⟩
def p7(e:jW): Prop:=e.table.length<=2^30/\nM e.ver/\xC e.input/\nM e.err/\(e.rules.length<=2^30/\ ∀ n ∈ e.rules,nM n)/\e.rows.length<=2^30/\ ∀ l ∈ e.rows,xC l
def Zr{l:List aX}(h:kx l=true): l.length<=6/\ ∀ v ∈ l,cg v=true:=by
 simp only[kx,aD,aM,bf]at h;exact h
def I4{e:jW}(h:tB e=0): rP e=true/\(sy e).length<=1400:=by
 unfold tB at h;split at h
 ·cases h
 rename_i h1;split at h
 ·cases h
 exact⟨by simpa using h1,ae⟩
def VB{e:jW}(h:(gM e).2=0): tB e=0/\gM e=(sy e,0):=by
 unfold gM at *;split at h
 ·rename_i h1;exact absurd h h1
 rename_i h1;exact⟨ae,by rw[aj h1]⟩
def HS: p7 vo:=⟨cW,aiY,⟨cW,fun c hc=>(by cases hc)⟩,aiY,⟨cW,fun c hc=>(by cases hc)⟩,cW,fun c hc=>(by cases hc)⟩
def MJ(a b:jW): Bool:=decide (a.table=b.table) && decide (a.ver=b.ver) && fR (fun x y=>x==y) a.input b.input && decide (a.err=b.err) && fR (fun x y:Int=>x==y) a.rules b.rules && fR (fR fun x y=>x==y) a.rows b.rows
def Zs(a:jW): MJ a a=true:=by
 unfold MJ;rw[pU a.input (fun x _=>by simp),pU a.rules (fun x _=>by simp),pU a.rows (fun x _=>pU x (fun y _=>by simp))];simp
def wrap_u64(x:Int): dw .u64 x=x % 18446744073709551616:=rfl
def wrap_u8(x:Int): dw .u8 x=x % 256:=rfl
def xor_zero(k:IntKind)(x:Nat)(h:x<2 ^ k.bits): ((BitVec.ofInt k.bits (x:Int)) ^^^ (BitVec.ofInt k.bits 0)).toNat=x:=by
 have:BitVec.ofInt k.bits 0=0#k.bits:=aQ;rw[this,BitVec.xor_zero];simp[Nat.mod_eq_of_lt h]
def Zt(x:Nat)(h:x<18446744073709551616)(y:Int)(hy:y % 18446744073709551616=18446744073709551615): ((BitVec.ofInt 64 (x:Int)) ^^^ (BitVec.ofInt 64 y)).toNat=18446744073709551615-x:=by
 have e:BitVec.ofInt 64 y=BitVec.allOnes 64:=by
  apply BitVec.eq_of_toNat_eq;rw[BitVec.toNat_ofInt,BitVec.toNat_allOnes];omega
 rw[e,BitVec.xor_allOnes,BitVec.toNat_not];have:(BitVec.ofInt 64 (x:Int)).toNat=x:=by rw[BitVec.toNat_ofInt];omega
 rw[this]
def abO{n:Int}(h : -9223372036854775808<=n/\n<=9223372036854775807): iX .xor .u64 (dw .u64 (dw .u64 n*2)) (dw .u64 (n.fdiv 9223372036854775808))=AW n:=by
 rw[oL];show dw .u64 (((BitVec.ofInt 64 (dw .u64 (dw .u64 n*2))) ^^^ (BitVec.ofInt 64 (dw .u64 (n.fdiv 9223372036854775808)))).toNat:Int)=AW n;rw[Int.fdiv_eq_ediv_of_nonneg _ cW];simp only[wrap_u64];unfold AW;by_cases hn:n<0
 ·rw[au hn];have e1:(n % 18446744073709551616*2 % 18446744073709551616:Int)=((2*n+18446744073709551616).toNat:Int):=ae;rw[e1,Zt _ ae _ ae];omega
 rw[aj hn];have e1:(n % 18446744073709551616*2 % 18446744073709551616:Int)=((2*n).toNat:Int):=ae;have e2:(n / 9223372036854775808 % 18446744073709551616:Int)=0:=ae;rw[e1,e2];have:=xor_zero .u64 (2*n).toNat (by show _<18446744073709551616;omega);have e3:IntKind.u64.bits=64:=rfl;rw[e3]at this;rw[this];omega
def aeE(w k x:Nat)(hx:x<2 ^ w)(hk:k<=w): ((BitVec.ofInt w (x:Int)) &&& (BitVec.ofInt w ((2 ^ k-1:Nat):Int))).toNat=x % 2 ^ k:=by
 have h2:2 ^ k-1<2 ^ w:=di (Nat.sub_lt (Nat.pow_pos cW) cW) (Nat.pow_le_pow_right cW hk);rw[BitVec.toNat_and];have e1:(BitVec.ofInt w (x:Int)).toNat=x:=by rw[BitVec.ofInt_natCast,BitVec.toNat_ofNat,Nat.mod_eq_of_lt hx]
 have e2:(BitVec.ofInt w ((2 ^ k-1:Nat):Int)).toNat=2 ^ k-1:=by rw[BitVec.ofInt_natCast,BitVec.toNat_ofNat,Nat.mod_eq_of_lt h2]
 rw[e1,e2,Nat.and_two_pow_sub_one_eq_mod]
def aeF{x:Int}{c:Nat}(h:x % 256=((c % 256:Nat):Int)): iX .and .u8 (dw .u8 x) 127=((c % 128:Nat):Int):=by
 rw[oL];show dw .u8 (((BitVec.ofInt 8 (dw .u8 x)) &&& (BitVec.ofInt 8 127)).toNat:Int)=_;have:=aeE 8 7 (c % 256) ae cW;have e:((2^7-1:Nat):Int)=127:=cW;rw[e]at this;rw[wrap_u8 x,h,this,wrap_u8];omega
def aiZ{w k x:Nat}{y:Nat}(hx:x<2 ^ k)(hw:2 ^ k*y+x<2 ^ w): ((BitVec.ofInt w (x:Int)) |||(BitVec.ofInt w ((2 ^ k*y:Nat):Int))).toNat=2 ^ k*y+x:=by
 rw[BitVec.toNat_or];have e1:(BitVec.ofInt w (x:Int)).toNat=x:=by rw[BitVec.ofInt_natCast,BitVec.toNat_ofNat,Nat.mod_eq_of_lt ae]
 have e2:(BitVec.ofInt w ((2 ^ k*y:Nat):Int)).toNat=2 ^ k*y:=by rw[BitVec.ofInt_natCast,BitVec.toNat_ofNat,Nat.mod_eq_of_lt ae]
 rw[e1,e2,Nat.or_comm,Nat.two_pow_add_eq_or_of_lt hx]
def abP{d:Nat}(h:d<128): iX .or .u8 (d:Int) 128=((128+d:Nat):Int):=by
 rw[oL];show dw .u8 (((BitVec.ofInt 8 (d:Int)) |||(BitVec.ofInt 8 128)).toNat:Int)=_;have:=aiZ (w:=8) (k:=7) (x:=d) (y:=1) ae ae;have e:((2^7*1:Nat):Int)=128:=cW;rw[e]at this;rw[this,wrap_u8];omega
def Ob(c:Nat): UInt8:=UInt8.ofNat (c % 128)
def Rq(c:Nat): UInt8:=UInt8.ofNat (128+c % 128)
def Ua(c:Nat): ((c % 128:Nat):Int)=((Ob c).toNat:Int):=by rw[Ob,u8 _ ae]
def abQ(c:Nat): iX .or .u8 ((Ob c).toNat:Int) 128=((Rq c).toNat:Int):=by
 rw[<-Ua,abP ae,Rq,u8 _ ae]
def Xh(s:aU)(b:UInt8): sY s++[AV.int .u8 b.toNat]=sY (s++[b]):=aQ
def aeG{k c:Nat}(h:c<128): zL k c=[Ob c]:=by
 rw[Ob,Nat.mod_eq_of_lt h];cases k with
 | zero=>rfl
 | succ k=>rw[zL,au h]
def abR{k c:Nat}(h:128<=c): zL (k+1) c=Rq c::zL k (c / 128):=by rw[zL,aj ae];rfl
def Zu(n:Int)(h:nM n): aS aH 100 [I n] (.int .u64 (AW n)):=by
 refine a_ QO ?_;intro Q aJ aK aL;repeat' first|refine aB ?_|refine aA ?_ ?_<;>intro hw<;>try omega|fail
 refine aZ ?_ rfl;exact aW (AV.int .u64) (abO h)
def VC(c:Nat): aS aH 101 [.int .u64 c] (.int .u8 ((Ob c).toNat)):=by
 refine a_ Fb ?_;intro Q aJ aK aL;repeat' first|refine aB ?_|refine aA ?_ ?_<;>intro hw<;>try omega|fail
 refine aZ ?_ rfl;refine aW (AV.int .u8) ?_;rw[<-Ua];exact aeF ae
def kE(n:Int)(h:nM n): aS aH 61 [I n] (.str (iO n)):=by
 have hc:=aeB h.1 h.2;obtain⟨E,hE⟩:=cq (iO n);rw[hE];unfold iO at hE;have h1:=Zu n h;generalize AW n=c0 at *;refine a_ Sw ?_;intro Q aJ aK aL;repeat' first|refine aB ?_|refine aA ?_ ?_<;>intro hw<;>try omega|fail
 with_reducible refine bE [3,2,8,10] (fun q:Nat × aU × Nat=>[(3,.int .u64 q.2.2),(4,.own E1 0 q.2.1.length 0 q.2.1.length)]) (fun q=>[.vec E1 (sY q.2.1)]) (fun q=>q.1<=9/\q.2.1.length=q.1/\q.2.2*128 ^ q.1<18446744073709551616/\E=q.2.1++zL (9-q.1) q.2.2) (fun q=>10-q.1) ((0,[],c0)) ?_ ?_ ?_ ?_
 ·exact⟨ae,rfl,by show c0*1<_;omega,by simp[hE]⟩
 ·rfl
 ·exact at_
 rintro⟨i,s,c⟩ r ⟨g1,g2,g3,g4⟩;dsimp only at g1 g2 g3 g4;have hl:=VC c;have hm:=abQ c
 have hq:(c:Int).fdiv (2 ^ (Int.toNat 7).min 64)=((c / 128:Nat):Int):=by
  show(c:Int).fdiv 128=_;rw[Int.fdiv_eq_ediv_of_nonneg _ cW];omega
 by_cases hb:128<=c
 ·have hi : i < 9 := by
   rcases Nat.lt_or_ge i 9 with h|h
   ·exact h
   obtain rfl:i=9:=ae;have e:(128:Nat) ^ 9=9223372036854775808:=cW;rw[e]at g3;omega
  obtain⟨k,hk⟩:∃ k,9-i=k+1:=⟨8-i,ae⟩;rw[hk,abR hb]at g4;repeat' first|simp (disch:=omega) only[go_sem,aJ,aK,aL,hm,hq,Xh]|refine aB ?_|refine aA ?_ ?_<;>intro hw<;>try omega|fail
  refine⟨(i+1,s++[Rq c],c / 128),?_,?_,?_,da,at_⟩<;>(try dsimp only)
  ·refine⟨ae,by simp[g2],?_,?_⟩
   ·have e2 : c / 128 * 128 ^ (i + 1) = 128 * (c / 128) * 128 ^ i := by
     rw[Nat.pow_succ,Nat.mul_comm (128 ^ i) 128,<-Nat.mul_assoc,Nat.mul_comm (c / 128) 128]
    exact Nat.lt_of_le_of_lt (by rw[e2];exact bR _ ae) g3
   have:9-(i+1)=k:=ae;rw[this];simp[g4]
  ·omega
  all_goals (simp[g2];done)
 rw[aeG ae]at g4;repeat' first|simp (disch:=omega) only[go_sem,aJ,aK,aL,Xh]|refine aB ?_|refine aA ?_ ?_<;>intro hw<;>try omega|fail
 exact aZ (by rw[g4]) rfl
def vq(s:aU)(hs:s.length<=2^61): aS aH 60 [.str s] (.str (iq s)):=by
 have h1:=kE s.length ⟨ae,ae⟩;have h2:=iV s.length;unfold iq;generalize iO s.length=x at *;refine a_ QN ?_;intro Q aJ aK aL;have Zv:((x.length+s.length:Nat):Int)<=IntKind.i64.max:=by show _<=(9223372036854775807:Int);omega
 repeat' first|refine aB ?_|refine aA ?_ ?_<;>intro hw<;>try omega|fail
 exact aZ rfl rfl
def zM(v:aX): aU × Int:=if cg v then(oG v,0)else ([],2)
def MK(v:aX): (oG v).length<=30+v.s.length:=by
 have h1:=iV v.kind;have h2:=iV v.n;have h3:=iV v.s.length;unfold oG iq;rw[aC];split
 ·rw[aC];omega
 split
 ·omega
 simp;omega
def VD(k n:Int)(s:aU)(hn:nM n)(hs:s.length<=2^60): aS aH 102 [.agg [I k,I n,.str s]] (.bU [.str (zM ⟨k,n,s⟩).1,I (zM ⟨k,n,s⟩).2]):=by
 have c1:=l7 k n s hn.1 hn.2;obtain⟨E,hE⟩:=cq (zM ⟨k,n,s⟩);rw[hE];unfold zM oG at hE;dsimp only at hE;have hk:=@I1 ⟨k,n,s⟩;dsimp only at hk;generalize cg ⟨k,n,s⟩=b at *;cases b
 ·simp only[ji,aP,if_false]at c1 hE;refine a_ Cf ?_;intro Q aJ aK aL;repeat' first|refine aB ?_|refine aA ?_ ?_<;>intro hw<;>try omega|fail
  exact cn (by rw[<-hE]) rfl
 have hk:=hk rfl;simp only[ji,if_true]at c1 hE;have c2:=kE k ⟨ae,ae⟩;have c3:=kE n hn;have c4:=vq s ae;have l1:=iV k;have l2:=iV n;have l3:(iq s).length<=10+s.length:=by unfold iq;have:=iV s.length;rw[List.length_append];omega
 generalize iO k=x at *;generalize iO n=y at *;generalize iq s=z at *;have a1:((x.length+y.length:Nat):Int)<=IntKind.i64.max:=by show _<=(9223372036854775807:Int);omega
 have a2:((x.length+z.length:Nat):Int)<=IntKind.i64.max:=by show _<=(9223372036854775807:Int);omega
 refine a_ Cf ?_;intro Q aJ aK aL;repeat' first|refine aB ?_|refine aA ?_ ?_<;>intro hw<;>try omega|fail
 all_goals first
  | exact bJ
  |(refine cn ?_ rfl;rw[<-hE];simp_all;done)
  |(refine cn ?_ rfl;rw[<-hE,aj ae,aj ae,bZ];done)
def Ec(l:List aX): aU × Int:=if l.all cg then(pA l,0)else ([],2)
def abS{l:List aX}{i:Nat}(hi:i<l.length)(x:aU): x++(l.take (i+1)).flatMap oG=(x++(l.take i).flatMap oG)++oG (l.getD i default):=by
 rw[take_succ hi,List.flatMap_append];simp
def P5(l:List aX)(hl:xC l): aS aH 63 [bu l] (.bU [.str (Ec l).1,I (Ec l).2]):=by
 obtain⟨Iz,Tr⟩:=hl;have h1:=kE l.length ⟨ae,ae⟩;have h2:=iV l.length;obtain⟨E,hE⟩:=cq (Ec l);rw[hE];unfold Ec pA at hE;generalize iO l.length=x at *;simp only[bu];refine a_ SA ?_;intro Q aJ aK aL;repeat' first|refine aB ?_|refine aA ?_ ?_<;>intro hw<;>try omega|fail
 with_reducible refine bE [2,3,6,3,14,16] (fun q:Nat × List aY=>[(14,I q.1),(4,.str (x++(l.take q.1).flatMap oG))]) (fun q=>q.2) (fun q=>q.1<=l.length/\(∀ k,k<q.1->cg (l.getD k default)=true)/\x.length+((l.take q.1).flatMap oG).length<=10+q.1*2147483648) (fun q=>l.length-q.1) ((0,[])) ?_ ?_ ?_ ?_
 ·simp;omega
 ·rfl
 ·simp only[gZ,List.flatMap_nil,bZ];exact at_
 rintro⟨i,τ⟩ r ⟨g1,g2,g3⟩;dsimp only at g1 g2 g3;by_cases hi:i<l.length
 ·have hv:=Tr _ (bq hi);have hne:=fun h=>GA (p:=cg) hi h;have dR:=fun he=>cj (q:=fun k=>cg (l.getD k default)=true) g2 (i:=i) he;have mY:=abS hi x;obtain⟨v,Xi⟩:=cq (l.getD i default);rw[Xi]at hv hne dR mY;have h3:=VD v.kind v.n v.s hv.1 ae;have Ax:=MK v;have ev:zM ⟨v.kind,v.n,v.s⟩=zM v:=rfl;rw[ev]at h3;unfold zM at h3;obtain⟨y,hy⟩:=cq (x++(l.take i).flatMap oG);have Li:y.length=x.length+((l.take i).flatMap oG).length:=by rw[<-hy,aC]
  have hsl:=aW List.length mY;rw[hy]at mY;simp only[aC]at hsl;have Zv:((y.length+(oG v).length:Nat):Int)<=IntKind.i64.max:=by show _<=(9223372036854775807:Int);omega
  generalize cg v=b at *;cases b
  ·simp only[aP,if_false]at h3;rw[hne rfl]at hE;simp only[aP,if_false]at hE;repeat' first|refine cz (zA Xi hy) ?_|refine aB ?_|refine aA ?_ ?_<;>intro hw<;>try omega|fail
   all_goals first|exact bJ|(exact cn (by rw[<-hE]) rfl)
  simp only[if_true]at h3;repeat' first|refine cz (zA Xi hy) ?_|refine aB ?_|refine aA ?_ ?_<;>intro hw<;>try omega|fail
  all_goals first
   | exact bJ
   | (refine ⟨(i + 1, τ ++ [aY.cells [I v.kind, I v.n, .str v.s]]), ?_, ?_, ?_, da, ?_⟩
      ·refine⟨by dsimp only;omega,dR rfl,?_⟩;dsimp only;omega
      ·dsimp only;omega
      ·first|rfl|(simp[go_sem];done)
      ·dsimp only;rw[mY];exact at_)
 have ht:l.take i=l:=bG ae;rw[Gz (fun k hk=>g2 k ae),au rfl]at hE;repeat' first|refine cz ht ?_|refine aB ?_|refine aA ?_ ?_<;>intro hw<;>try omega|fail
 exact cn (by rw[<-hE]) rfl
def abT(l:List aX): aS aH 25 [bu l] (.bool (decide (l.length<=12) && l.all rK)):=by
 obtain⟨E,hE⟩:=cq ((decide (l.length<=12) && l.all rK));rw[hE];simp only[bu];refine a_ JO ?_;intro Q aJ aK aL;repeat' first|refine aB ?_|refine aA ?_ ?_<;>intro hw<;>try omega|fail
 ·exact aZ (by rw[<-hE,cQ ae,g_]) rfl
 have h12:l.length<=12:=ae;rw[bQ h12,fF]at hE;with_reducible refine bE [2,2,7,13] (fun q:Nat=>[(3,I q)]) (fun _=>[]) (fun q=>q<=l.length/\ ∀ k,k<q->rK (l.getD k default)=true) (fun q=>l.length-q) (0) ?_ ?_ ?_ ?_
 ·simp
 ·rfl
 ·exact at_
 rintro i r ⟨g1,g2⟩;by_cases hi:i<l.length
 ·have hne:=fun h=>GA (p:=rK) hi h;have dR:=fun he=>cj (q:=fun k=>rK (l.getD k default)=true) g2 (i:=i) he;obtain⟨v,Xi⟩:=cq (l.getD i default);rw[Xi]at hne dR;have hS:rK v=decide (v.s.length<=300):=rfl;rw[hS]at hne dR;repeat' first|refine cz Xi ?_|refine aB ?_|refine aA ?_ ?_<;>intro hw<;>try omega|fail
  all_goals first
   | exact bJ
   |(exact aZ (by rw[<-hE,hne (cQ ae)]) rfl)
   | (refine ⟨i + 1, ?_, ?_, by first | rfl | (simp [go_sem]; done), da, at_⟩ <;> (try dsimp only)
      ·exact⟨ae,dR (bQ ae)⟩
      ·omega)
 repeat' first|refine aB ?_|refine aA ?_ ?_<;>intro hw<;>try omega|fail
 exact aZ (by rw[<-hE,Gz (fun k hk=>g2 k ae)]) rfl
def CP{α : Type}[Inhabited α](f : α->aU){l:List α}{i:Nat}(hi:i<l.length)(x:aU): x++(l.take (i+1)).flatMap f=(x++(l.take i).flatMap f)++f (l.getD i default):=by
 rw[take_succ hi,List.flatMap_append];simp
def G6(c:cV): Prop:=c.name.length<=2^30/\nM c.kind/\c.order.length<=8/\ ∀ v ∈ c.order,cg v=true/\nM v.n
def Oc(l:List aU): Prop:=l.length<=6/\ ∀ s ∈ l,s.length<=2^30
def ai0(t:Table): Prop:=t.name.length<=2^30/\nM t.bW/\nM t.agg/\(t.ins.length<=6/\ ∀ c ∈ t.ins,G6 c)/\(t.outs.length<=6/\ ∀ c ∈ t.outs,G6 c)/\t.rules.length<=24/\ ∀ r ∈ t.rules,Oc r.cells/\Oc r.outs
def abU{c:cV}(h:G6 c): xC c.order/\c.order.all cg=true:=by
 refine⟨⟨by have:=h.2.2.1;omega,fun v hv=>⟨(h.2.2.2 v hv).2,by have:=T_ (h.2.2.2 v hv).1;omega⟩⟩,bf.2 fun v hv=>(h.2.2.2 v hv).1⟩
def ai1{t:Table}(ok:j4 t)(h:(gk t).2.2.2=0): ai0 t:=by
 obtain⟨h5,_,_⟩:=IU h;obtain⟨hf,hl,_⟩:=yB h5
 have hn:iZ t.name=true:=by
  unfold jV at hf;split at hf
  ·omega
  rename_i hh;simpa using hh
 obtain⟨p1,p2,p3,p4⟩:mA t.ins false=0/\mA t.outs (decide (t.bW=3))=0/\mQ t=true/\t.rules.length<=24:=by
  unfold jV at hf;rw[hn,aj aQ]at hf;split at hf
  ·contradiction
  split at hf
  ·contradiction
  split at hf
  ·cases hf
  split at hf
  ·cases hf
  rename_i a b c d;exact⟨by simpa using a,by simpa using b,by simpa using c,ae⟩
 obtain⟨i1,i2,i3⟩:=Eb p1;obtain⟨o1,o2,o3⟩:=Eb p2;have pp:=I3 p3;have hi:=AY i1;have ho:=AY o1
 have hc:∀ (b:Bool) (c:cV),(iZ c.name=true/\1<=c.kind/\c.kind<=3)->lJ c b=true->wM c->G6 c:=fun b c q1 q2 q3=>by
  have w1:=wo q1.1;have w2:=MI q2 q3;exact⟨ae,⟨ae,ae⟩,w2.2⟩
 refine⟨by have:=wo hn;omega,⟨ae,ae⟩,⟨ae,ae⟩,⟨hi.1,fun c hm=>hc false c (hi.2 c hm) (i3 c hm) (ok.2.1.2 c hm)⟩,⟨ho.1,fun c hm=>hc _ c (ho.2 c hm) (o3 c hm) (ok.2.2.1.2 c hm)⟩,p4,fun r hr=>?_⟩;obtain⟨j,hj,rfl⟩:=bV hr;have e:t.rules[j]=t.rules.getD j default:=by rw[aq,aG hj];rfl
 have hz:=hl j hj;unfold lg at hz;rw[<-e]at hz;obtain⟨z1,z2,_⟩:=Ml hz;have ro:=ok.2.2.2.2 _ hr;exact⟨⟨by have:=hi.1;omega,ro.1.2⟩,⟨by have:=ho.1;omega,ro.2.2⟩⟩
def xD(s:aU): (iq s).length<=10+s.length:=by unfold iq;have:=iV s.length;rw[List.length_append];omega
def Ub{l:List aX}(hl:l.length<=8)(h:∀ v ∈ l,cg v=true): (pA l).length<=1000:=by
 have h1:=iV l.length
 have h2:(l.flatMap oG).length<=70*l.length:=by
  clear h1 hl
  induction l with
  | nil=>simp
  | cons v l ih =>
    have a1:=MK v;have a2:=T_ (h v aQ);have a3:=ih (fun w hw=>h w (by simp[hw]));rw[jx,aC,aO];omega
 unfold pA;rw[List.length_append];omega
def P6(o:Bool){c:cV}(h:G6 c): (wP o c).length<=1073750000:=by
 have h1:=xD c.name;have h2:=iV c.kind;have h3:=Ub h.2.2.1 (fun v hv=>(h.2.2.2 v hv).1);have h4:=h.1;unfold wP;simp only[aC];cases o
 ·simp;omega
 simp;omega
def abV{α : Type}{f : α->aU}{b:Nat}: ∀ {l:List α},(∀ x ∈ l,(f x).length<=b)->(l.flatMap f).length<=l.length*b:=by
 intro l
 induction l with
 | nil=>intro _;simp
 | cons x l ih =>
   intro h;have a1:=h x aQ;have a2:=ih (fun y hy=>h y (by simp[hy]));rw[jx,aC,aO,cu];omega
def P7(o:Bool){l:List cV}(hl:l.length<=6)(h:∀ c ∈ l,G6 c): (sx o l).length<=6442500010:=by
 have h1:=iV l.length;have h2:=abV (f:=wP o) (fun c hc=>P6 o (h c hc));unfold sx;rw[List.length_append];omega
def A0{l:List aU}(h:Oc l): (l.flatMap iq).length<=6442451004:=by
 have h2:=abV (f:=iq) (l:=l) (b:=1073741834) (fun s hs=>by have:=xD s;have:=h.2 s hs;omega);have:=h.1;omega
def Od(c:cV): aS aH 83 [dQ c] (.str []):=by
 refine a_ Ic ?_;intro Q aJ aK aL;repeat' first|refine aB ?_|refine aA ?_ ?_<;>intro hw<;>try omega|fail
 exact aZ rfl rfl
def Uc(c:cV)(h:G6 c): aS aH 84 [dQ c] (.str (pA c.order)):=by
 have hv:=abU h;have h1:=P5 c.order hv.1;unfold Ec at h1;rw[hv.2,au rfl]at h1;simp only[bu]at h1;simp only[dQ,bu];refine a_ LU ?_;intro Q aJ aK aL;repeat' first|refine aB ?_|refine aA ?_ ?_<;>intro hw<;>try omega|fail
 exact aZ rfl rfl
def CQ (l : List cV) (o : Bool) (F : FuncId) (hl : l.length <= 6) (h : ∀ c ∈ l, G6 c) (hF : ∀ c ∈ l, aS aH F [dQ c] (.str (if o then pA c.order else []))) :
    aS aH 82 [b_ l,.fn (.func F) [] []] (.str (sx o l)):=by
 have h1:=kE l.length ⟨ae,ae⟩;have h2:=iV l.length;obtain⟨E,hE⟩:=cq (sx o l);rw[hE];unfold sx at hE;generalize iO l.length=x at *;simp only[b_];refine a_ Ie ?_;intro Q aJ aK aL;repeat' first|refine aB ?_|refine aA ?_ ?_<;>intro hw<;>try omega|fail
 with_reducible refine bE [5,1,7,1,13,18] (fun q:Nat × List aY=>[(13,I q.1),(5,.str (x++(l.take q.1).flatMap (wP o)))]) (fun q=>q.2) (fun q=>q.1<=l.length/\x.length+((l.take q.1).flatMap (wP o)).length<=10+q.1*1073750000) (fun q=>l.length-q.1) ((0,[])) ?_ ?_ ?_ ?_
 ·simp;omega
 ·rfl
 ·simp only[gZ,List.flatMap_nil,bZ];exact at_
 rintro⟨i,τ⟩ r ⟨g1,g3⟩;dsimp only at g1 g3;by_cases hi:i<l.length
 ·have hc:=h _ (bq hi);have hf:=hF _ (bq hi);have mY:=CP (wP o) hi x;obtain⟨c,hce⟩:=cq (l.getD i default);rw[hce]at hc hf mY;have c1:=vq c.name (by have:=hc.1;omega);have c2:=kE c.kind hc.2.1;have Ax:=P6 o hc;obtain⟨y,hy⟩:=cq (x++(l.take i).flatMap (wP o));have Li:y.length=x.length+((l.take i).flatMap (wP o)).length:=by rw[<-hy,aC]
  have hsl:=aW List.length mY;rw[hy]at mY;simp only[aC]at hsl;have ai2:wP o c=iq c.name++iO c.kind++(if o then pA c.order else []):=rfl;generalize iq c.name=u1 at *;generalize iO c.kind=u2 at *;generalize (if o then pA c.order else [])=u3 at *;have OU:=aW List.length ai2;simp only[aC]at OU;have a1:((u1.length+u2.length:Nat):Int)<=IntKind.i64.max:=by show _<=(9223372036854775807:Int);omega
  have a2:(((u1++u2).length+u3.length:Nat):Int)<=IntKind.i64.max:=by rw[aC];show _<=(9223372036854775807:Int);omega
  have a3:((y.length+(u1++u2++u3).length:Nat):Int)<=IntKind.i64.max:=by simp only[aC];show _<=(9223372036854775807:Int);omega
  simp only[dQ,bu]at hf;repeat' first|refine cz (zC hce hy a1 (zA a2 a3)) ?_|refine aB ?_|refine aA ?_ ?_<;>intro hw<;>try omega|fail
  refine⟨(i+1,τ++[aY.cells [.str c.name,I c.kind,.aR false EV (c.order.map c8)]]),?_,?_,?_,da,?_⟩
  ·dsimp only;omega
  ·dsimp only;omega
  ·first|rfl|(simp[go_sem];done)
  dsimp only;rw[mY,ai2];exact at_
 have ht:l.take i=l:=bG ae;repeat' first|refine cz ht ?_|refine aB ?_|refine aA ?_ ?_<;>intro hw<;>try omega|fail
 exact aZ (by rw[<-hE]) rfl
def G7(l:List aU)(h:Oc l): aS aH 85 [iY l] (.str (l.flatMap iq)):=by
 obtain⟨hl,hs⟩:=h;obtain⟨E,hE⟩:=cq (l.flatMap iq);rw[hE];simp only[iY];refine a_ LV ?_;intro Q aJ aK aL;repeat' first|refine aB ?_|refine aA ?_ ?_<;>intro hw<;>try omega|fail
 with_reducible refine bE [3,1,5,1,8,9] (fun q:Nat=>[(8,I q),(3,.str ((l.take q).flatMap iq))]) (fun _=>[]) (fun q=>q<=l.length/\((l.take q).flatMap iq).length<=q*1073741834) (fun q=>l.length-q) (0) ?_ ?_ ?_ ?_
 ·simp
 ·rfl
 ·simp only[gZ,List.flatMap_nil];exact at_
 rintro i r ⟨g1,g3⟩;by_cases hi:i<l.length
 ·have hs1:=hs _ (bq hi);have mY:=CP iq hi [];simp only[bS]at mY;obtain⟨s,hse⟩:=cq (l.getD i default);rw[hse]at hs1 mY;have c1:=vq s ae;have Ax:=xD s;obtain⟨y,hy⟩:=cq ((l.take i).flatMap iq);rw[hy]at mY g3;have a1:((y.length+(iq s).length:Nat):Int)<=IntKind.i64.max:=by show _<=(9223372036854775807:Int);omega
  have hg:(List.map fH l).getD i .undef = .str s:=by rw[getD_map _ _ _ hi,hse];rfl
  repeat' first|refine cz (zC hse hy a1 hg) ?_|refine aB ?_|refine aA ?_ ?_<;>intro hw<;>try omega|fail
  refine⟨i+1,?_,?_,?_,da,?_⟩
  ·refine⟨ae,?_⟩;rw[mY,aC];omega
  ·dsimp only;omega
  ·first|rfl|(simp[go_sem];done)
  dsimp only;rw[mY];exact at_
 have ht:l.take i=l:=bG ae;repeat' first|refine cz ht ?_|refine aB ?_|refine aA ?_ ?_<;>intro hw<;>try omega|fail
 exact aZ (by rw[<-hE]) rfl
def Kv{a b:Nat}(h:a+b<=9223372036854775807): ((a+b:Nat):Int)<=IntKind.i64.max:=by show _<=(9223372036854775807:Int);omega
def HT(t:Table): aU:=iq t.name++iO t.bW++iO t.agg++sx false t.ins++sx true t.outs++iO t.rules.length
def aeH(t:Table): MH t=HT t++t.rules.flatMap mU:=rfl
def abW{t:Table}(h:ai0 t): (HT t).length<=17179869184:=by
 have h1:=xD t.name;have h2:=iV t.bW;have h3:=iV t.agg;have h4:=P7 false h.2.2.2.1.1 h.2.2.2.1.2;have h5:=P7 true h.2.2.2.2.1.1 h.2.2.2.2.1.2;have h6:=iV t.rules.length;have h7:=h.1;unfold HT;simp only[List.length_append];omega
def abX{r:ia}(h:Oc r.cells/\Oc r.outs): (mU r).length<=12884902008:=by
 have h1:=A0 h.1;have h2:=A0 h.2;unfold mU;rw[List.length_append];omega
def eB(p:aU × Int): AV:= .bU [.str p.1,I p.2]
abbrev ai3(t:Table): aY:= .cells [.str t.name,.aR false EC (t.ins.map dQ),.aR false EC (t.outs.map dQ),I t.bW,I t.agg,.aR false ER (t.rules.map fY)]
def Ud(t:Table)(ok:j4 t): aS aH 53 [dS t] (eB (m_ t)):=by
 obtain⟨E,hE⟩:=cq (m_ t);rw[hE];unfold m_ at hE;have c1:=Gw t ok;have c2:=Vk (gk t).1 t (adY ok) (Mi ok);have hb:=fun h=>ai1 ok h;obtain⟨C,hC⟩:=cq (gk t);rw[hC]at c1 c2 hE hb;obtain⟨C,m1,m2,e⟩:=C;dsimp only at hE c2 hb;simp only[eT4,dS,gK,b_,eR]at c1 c2 |-;by_cases he:e≠0
 ·rw[au he]at hE;refine a_ uR ?_ (by simp[eB]);intro Q aJ aK aL;repeat' first|refine aB ?_|refine aA ?_ ?_<;>intro hw<;>try omega|fail
  all_goals first|exact bJ|exact cn (by rw[<-hE]) rfl
 rw[aj he]at hE;obtain rfl:e=0:=ae;cases hs:qJ C t with
 | false =>
   rw[hs]at hE c2;rw[au rfl]at hE;refine a_ uR ?_ (by simp[eB]);intro Q aJ aK aL;repeat' first|refine aB ?_|refine aA ?_ ?_<;>intro hw<;>try omega|fail
   all_goals first|exact bJ|exact cn (by rw[<-hE]) rfl
 | true =>
 rw[hs]at hE c2;rw[aj aQ,aeH]at hE;have h:=hb rfl;have hl:=abW h;have hd:HT t=iq t.name++iO t.bW++iO t.agg++(sx false t.ins++sx true t.outs++iO t.rules.length):=by unfold HT;simp only[List.append_assoc]
 obtain⟨b1,b2,b3,b4,b5,b6,b7⟩:=h;have k1:=vq t.name ae;have k2:=kE t.bW b2;have k3:=kE t.agg b3;have k4:=CQ t.ins false 83 b4.1 b4.2 (fun c _=>Od c);have k5:=CQ t.outs true 84 b5.1 b5.2 (fun c hc=>Uc c (b5.2 c hc));have k6:=kE t.rules.length ⟨ae,ae⟩;generalize HT t=x at *;generalize iq t.name=u1 at *;generalize iO t.bW=u2 at *;generalize iO t.agg=u3 at *;generalize sx false t.ins=u4 at *;generalize sx true t.outs=u5 at *;generalize iO t.rules.length=u6 at *;have OU:=aW List.length hd;simp only[aC]at OU;have a1:=Kv (a:=u1.length) (b:=u2.length) ae;have a2:=Kv (a:=(u1++u2).length) (b:=u3.length) (by simp only[aC];omega);have a3:=Kv (a:=u4.length) (b:=u5.length) ae;have a4:=Kv (a:=(u4++u5).length) (b:=u6.length) (by simp only[aC];omega);have a5:=Kv (a:=(u1++u2++u3).length) (b:=(u4++u5++u6).length) (by simp only[aC];omega);have hd':=hd.symm;clear hd;simp only[b_]at k4 k5;refine a_ uR ?_ (by simp[eB]);intro Q aJ aK aL;repeat' first|refine cz (zC a1 a2 a3 (zB a4 a5 hd')) ?_|refine aB ?_|refine aA ?_ ?_<;>intro hw<;>try omega|fail
 all_goals first|exact bJ|skip
 with_reducible refine bE [8,1,10,1,55,14] (fun q:Nat × List aY=>[(55,I q.1),(8,.str (x++(t.rules.take q.1).flatMap mU))]) (fun q=>ai3 t::ai3 C::q.2) (fun q=>q.1<=t.rules.length/\x.length+((t.rules.take q.1).flatMap mU).length<=17179869184+q.1*12884902008) (fun q=>t.rules.length-q.1) ((0,[])) ?_ ?_ ?_ ?_
 ·simp;omega
 ·rfl
 ·simp only[gZ,List.flatMap_nil,bZ];exact at_
 rintro⟨i,τ⟩ r ⟨g1,g3⟩;dsimp only at g1 g3;by_cases hi:i<t.rules.length
 ·have hr:=b7 _ (bq hi);have mY:=CP mU hi x;obtain⟨ru,hre⟩:∃ c,t.rules.getD i default=c:=⟨_,rfl⟩;rw[hre]at hr mY;have EI:=abX hr;obtain⟨y,hy⟩:=cq (x++(t.rules.take i).flatMap mU);have Li:y.length=x.length+((t.rules.take i).flatMap mU).length:=by rw[<-hy,aC]
  have hsl:=aW List.length mY;rw[hy]at mY;simp only[aC]at hsl;have hrd:mU ru=ru.cells.flatMap iq++ru.outs.flatMap iq:=rfl;have d1:=G7 ru.cells hr.1;have d2:=G7 ru.outs hr.2;have f1:=A0 hr.1;have f2:=A0 hr.2;generalize ru.cells.flatMap iq=v1 at *;generalize ru.outs.flatMap iq=v2 at *;have e1:=Kv (a:=v1.length) (b:=v2.length) ae;have e2:=Kv (a:=y.length) (b:=(v1++v2).length) (by simp only[aC];omega);simp only[iY]at d1 d2;repeat' first|refine cz (zC hre hy e1 e2) ?_|refine aB ?_|refine aA ?_ ?_<;>intro hw<;>try omega|fail
  refine⟨(i+1,τ++[aY.cells [.aR false E1 (ru.cells.map fH),.aR false E1 (ru.outs.map fH)]]),?_,?_,?_,da,?_⟩
  ·dsimp only;omega
  ·dsimp only;omega
  ·first|rfl|(simp[go_sem];done)
  dsimp only;rw[mY,hrd];exact at_
 have ht:t.rules.take i=t.rules:=bG ae;rw[ht]at g3;have hxl:(x++t.rules.flatMap mU).length=x.length+(t.rules.flatMap mU).length:=aC;by_cases hbig:1400<(x++t.rules.flatMap mU).length
 ·rw[au hbig]at hE;obtain⟨z,hz⟩:=cq (x++t.rules.flatMap mU);rw[hz]at hbig hxl;repeat' first|refine cz (zA ht hz) ?_|refine aB ?_|refine aA ?_ ?_<;>intro hw<;>try omega|fail
  exact cn (by rw[<-hE]) rfl
 rw[aj hbig]at hE;obtain⟨z,hz⟩:=cq (x++t.rules.flatMap mU);rw[hz]at hbig hxl hE;repeat' first|refine cz (zA ht hz) ?_|refine aB ?_|refine aA ?_ ?_<;>intro hw<;>try omega|fail
 exact cn (by rw[<-hE]) rfl
def nJ(e:jW): List AV:=[.str e.table,I e.ver,bu e.input,I e.err,eN e.rules,eX e.rows]
def jY(e:jW): AV:= .agg (nJ e)
attribute [go_sem] sM eN eX nJ jY
def wq(e:jW): (jY e).dy=true:=by simp[jY,nJ,AV.dy,AV.cG,PO,PS]
attribute [simp] wq
def Q5(v:aX)(hn:nM v.n): aS aH 135 [c8 v] (.bool (!cg v)):=by
 have c:=l7 v.kind v.n v.s hn.1 hn.2;have ev:cg ⟨v.kind,v.n,v.s⟩=cg v:=rfl;rw[ev]at c;obtain⟨b,hb⟩:=cq (cg v);rw[hb]at c |-;simp only[c8];refine a_ JW ?_;intro Q aJ aK aL;cases b
 all_goals
  simp only[ji,if_true,aP,if_false]at c;repeat' first|refine aB ?_|refine eU c ?_|refine aA ?_ ?_<;>intro hw<;>try omega|fail
  exact aZ rfl rfl
def BL (fn : FuncId) (p : aX -> Bool) (l : List aX) (h : ∀ k, k < l.length -> aS aH fn [c8 (l.getD k default)] (.bool (p (l.getD k default)))) (hl : l.length <= 2^62) :
    aS aH 176 [bu l,.fn (.func fn) [] []] (I (kW p l)):=by
 refine a_ yw ?_ (by simp[AV.dy,AV.cG,uq]);intro Q aJ aK aL;repeat' first|refine aB ?_|refine aA ?_ ?_<;>intro hw<;>try omega|fail
 with_reducible refine bE [4,2,8,11] (fun i:Nat=>[(8,I i)]) (fun _=>[]) (fun i=>i<=l.length/\ ∀ k,k<i->p (l.getD k default)=false) (fun i=>l.length-i) (0) ?_ ?_ ?_ ?_
 ·simp
 ·rfl
 ·exact at_
 rintro i r ⟨hi,hp⟩;by_cases hin:i<l.length
 ·have hx:=h i hin;simp only[c8]at hx;repeat' first|refine aB ?_|refine aA ?_ ?_<;>intro hw<;>try omega|fail
  ·refine aZ ?_ rfl;refine aW I ?_;exact(qH hin hp hw).symm
  refine⟨i+1,?_,?_,by first|rfl|(simp[go_sem];done),da,at_⟩<;>(try dsimp only)
  ·exact⟨ae,cj hp hw⟩
  omega
 repeat' first|refine aB ?_|refine aA ?_ ?_<;>intro hw<;>try omega|fail
 refine aZ ?_ rfl;refine aW I ?_;exact(nA fun k hk=>hp k ae).symm
def yE (fn : FuncId) (p : aX -> Bool) (l : List aX) (h : ∀ k, k < l.length -> aS aH fn [c8 (l.getD k default)] (.bool (p (l.getD k default)))) (hl : l.length <= 2^62) :
    aS aH 134 [bu l,.fn (.func fn) [] []] (.bool (l.any p)):=by
 refine a_ vW ?_ (by simp[AV.dy,AV.cG,uq]);intro Q aJ aK aL;have hc:=BL fn p l h hl;simp only[bu]at hc;repeat' first|refine aB ?_|refine aA ?_ ?_<;>intro hw<;>try omega|fail
 all_goals refine aZ ?_ rfl
 all_goals rw[<-wg]
def agR(l:List aX): (!l.any fun v=> !cg v)=l.all cg:=by
 induction l with
 | nil=>rfl
 | cons a l ih=>rw[List.any_cons,List.all_cons,<-ih];cases cg a<;>simp
def I5(l:List aX)(hl:xC l): aS aH 97 [bu l] (.bool (kx l)):=by
 have c:=yE 135 (fun v=> !cg v) l (fun k hk=>Q5 _ (hl.2 _ (bq hk)).1) (by have:=hl.1;omega);obtain⟨E,hE⟩:=cq (kx l);rw[hE];unfold kx at hE;rw[<-agR]at hE;generalize (l.any fun v=> !cg v)=b at *;simp only[bu]at c |-;refine a_ Nx ?_;intro Q aJ aK aL;repeat' first|refine aB ?_|refine eU c ?_|refine aA ?_ ?_<;>intro hw<;>try omega|fail
 all_goals first
  | exact bJ
  |(refine aZ ?_ rfl;rw[<-hE,bQ ae,fF];done)
  |(refine aZ ?_ rfl;rw[<-hE,cQ ae,g_];done)
def Ue{l:List Int}(h:∀ k,k<l.length->AZ l k=true): tR l=true:=bf.2 fun k hk=>h k (eF.1 hk)
def agS{l:List Int}{i:Nat}(hi:i<l.length)(h:AZ l i=false): tR l=false:=by
 cases hr:tR l with
 | false=>rfl
 | true=>have:=List.all_eq_true.1 hr i (List.mem_range.2 hi);rw[h]at this;cases this
def Uf(l:List Int)(hl:l.length<=2^30): aS aH 96 [eN l] (.bool (tR l)):=by
 obtain⟨E,hE⟩:=cq (tR l);rw[hE];simp only[eN];refine a_ LI ?_;intro Q aJ aK aL;repeat' first|refine aB ?_|refine aA ?_ ?_<;>intro hw<;>try omega|fail
 with_reducible refine bE [2,2,5,1,8,13] (fun q:Nat=>[(8,I q),(3,I (vp l q))]) (fun _=>[]) (fun q=>q<=l.length/\ ∀ k,k<q->AZ l k=true) (fun q=>l.length-q) (0) ?_ ?_ ?_ ?_
 ·simp
 ·rfl
 ·have:vp l 0 = -1:=rfl;rw[this];exact at_
 rintro i r ⟨g1,g2⟩;by_cases hi:i<l.length
 ·have hne:=fun h=>agS (l:=l) hi h;have dR:=fun he=>cj (q:=fun k=>AZ l k=true) g2 (i:=i) he;have hk:AZ l i=decide (vp l i<l.getD i default/\l.getD i default<24):=rfl;have hs:vp l (i+1)=l.getD i default:=by unfold vp;rw[if_neg ae,Nat.add_sub_cancel];rfl
  obtain⟨n,hn⟩:=cq (l.getD i default);rw[hn]at hk hs;generalize vp l i=m at *;repeat' first|refine cz hn ?_|refine aB ?_|refine aA ?_ ?_<;>intro hw<;>try omega|fail
  all_goals first
   | exact bJ
   |(exact aZ (by rw[<-hE,hne (by rw[hk,cQ ae])]) rfl)
   | (refine ⟨i + 1, ?_, ?_, ?_, da, ?_⟩
      ·exact⟨ae,dR (by rw[hk,bQ ae])⟩
      ·dsimp only;omega
      ·first|rfl|(simp[go_sem];done)
      ·dsimp only;rw[hs];exact at_)
 repeat' first|refine aB ?_|refine aA ?_ ?_<;>intro hw<;>try omega|fail
 exact aZ (by rw[<-hE,Ue (fun k hk=>g2 k ae)]) rfl
def Q6(l:List aX)(hl:xC l): aS aH 99 [bu l] (.bool (!kx l)):=by
 have c:=I5 l hl;generalize kx l=b at *;simp only[bu]at c |-;refine a_ JX ?_;intro Q aJ aK aL;repeat' first|refine aB ?_|refine eU c ?_|refine aA ?_ ?_<;>intro hw<;>try omega|fail
 exact aZ rfl rfl
def aeI(l:List (List aX)): (!l.any fun v=> !kx v)=l.all kx:=by
 induction l with
 | nil=>rfl
 | cons a l ih=>rw[List.any_cons,List.all_cons,<-ih];cases kx a<;>simp
def aeJ{a b c d:Bool}{B D:Int}{n:Nat}(h:¬(a=true/\(1<=B/\B<=2147483648)/\(0<=D/\D<=99)/\b=true/\n<=24/\c=true)): (a && decide (1<=B/\B<=2147483648) && decide (0<=D/\D<=99) && b && decide (n<=24) && c && d)=false:=by
 cases hx:(a && decide (1<=B/\B<=2147483648) && decide (0<=D/\D<=99) && b && decide (n<=24) && c && d)with
 | false=>rfl
 | true =>
   simp only[aD,aM]at hx;exact absurd ⟨hx.1.1.1.1.1.1,hx.1.1.1.1.1.2,hx.1.1.1.1.2,hx.1.1.1.2,hx.1.1.2,hx.1.2⟩ h
def abY{a b c d:Bool}{B D:Int}{n:Nat}(h1:a=true)(h2:1<=B/\B<=2147483648)(h3:0<=D/\D<=99)(h4:b=true)(h5:n<=24)(h6:c=true): (a && decide (1<=B/\B<=2147483648) && decide (0<=D/\D<=99) && b && decide (n<=24) && c && d)=d:=by
 subst h1;subst h4;subst h6;rw[bQ h2,bQ h3,bQ h5];simp
def tf{b:Bool}(h:b=true)(h':b=false): False:=by rw[h]at h';cases h'
def VE(e:jW)(ok:p7 e): aS aH 59 [jY e] (.bool (rP e)):=by
 obtain⟨o1,o2,o3,o4,o5,o6,o7⟩:=ok;have c1:=v7 e.table ae;have c2:=Uf e.rules o5.1;have c3:=I5 e.input o3;have c4:=qB 99 [] rfl (fun v=> !kx v) e.rows (fun k hk=>Q6 _ (o7 _ (bq hk))) ae;obtain⟨E,hE⟩:=cq (rP e);rw[hE];unfold rP at hE;rw[<-aeI]at hE;obtain⟨A,B,C,D,F,G⟩:=e;dsimp only at *;generalize iZ A=a at *;generalize tR F=b at *;generalize kx C=c at *;generalize (G.any fun v=> !kx v)=d at *;simp only[eN,bu,eX,jY,nJ]at c2 c3 c4 |-;refine a_ Ny ?_;intro Q aJ aK aL;repeat' first|refine aB ?_|refine aA ?_ ?_<;>intro hw<;>try omega|fail
 all_goals first
  | exact bJ
  | (refine aZ ?_ rfl
     rw[<-hE];refine aW AV.bool ?_
     first
      |(rw[abY (by assumption) ae ae (by assumption) ae (by assumption)];done)
      | (refine (aeJ ?_).symm
         rintro⟨h1,h2,h3,h4,h5,h6⟩
         first
          | omega
          | exact tf h1 (by assumption)
          | exact tf h4 (by assumption)
          | exact tf h6 (by assumption)))
  | skip
def zO{a b:Nat}(h:a+b<=2^40): ((a+b:Nat):Int)<=IntKind.i64.max:=by show _<=(9223372036854775807:Int);omega
section
variable {σ : ai} {K Kp:AV->ai->Prop} {k:Nat}
def G8{s x:aU}{l:List aX}(hok:xC l)(hr:l.all cg=true)(hx:pA l=x)(iE : σ[k]? = some (.cells [.str s]))(ha:((s.length+x.length:Nat):Int)<=IntKind.i64.max)(hk:jS (.bU []) (.mk:Tg fun r=>tK (σ.set k (.cells [.str (s++x)])) (.mk:Tg fun σ=>K r σ))): oQ Tryz.prog 62 [.aR false EV (l.map c8),.ref k 0] σ (.mk:Tg (K,Kp)):=by
 have c:=P5 l hok;have e:Ec l=(pA l,0):=by unfold Ec;rw[if_pos hr]
 rw[e,hx]at c;simp only[bu]at c;refine LJ.go ?_;unfold dP;intro Q aJ aK aL;repeat' first|refine cz iE ?_|refine aB ?_|refine eU c ?_|refine aA ?_ ?_<;>intro hw<;>try omega|fail
 exact hk
end
def P8{l:List aX}(h:kx l=true): l.all cg=true/\(pA l).length<=1000:=by
 obtain⟨h1,h2⟩:=Zr h;exact⟨bf.2 h2,Ub ae h2⟩
def ML(e:jW)(ok:p7 e)(h:rP e=true): aS aH 38 [jY e] (.str (sy e)):=by
 obtain⟨z1,z2,z3,z4,z5,z6,z7⟩:=Zq h;obtain⟨o1,o2,o3,o4,o5,o6,o7⟩:=ok;have hl:=aeD z4;have aoW:=wo z1;have c1:=vq e.table ae;have c2:=kE e.ver o2;have c3:=kE e.err o4;have c4:=kE e.rules.length ⟨ae,ae⟩;have c5:=kE e.rows.length ⟨ae,ae⟩;have l1:=xD e.table;have l2:=iV e.ver;have l3:=iV e.err;have l4:=iV e.rules.length;have l5:=iV e.rows.length;have p1:=P8 z6;obtain⟨E,hE⟩:=cq (sy e);rw[hE];unfold sy at hE;obtain⟨A,B,C,D,F,G⟩:=e;dsimp only at *;obtain⟨xc,Ad⟩:∃ x,pA C=x:=⟨_,rfl⟩;rw[Ad]at hE p1;generalize iq A=xa at *;generalize iO B=xb at *;generalize iO D=xd at *;generalize iO F.length=xf at *;generalize iO G.length=xg at *;have a1:=zO (a:=xa.length) (b:=xb.length) ae;have a2:=zO (a:=(xa++xb).length) (b:=xc.length) (by rw[aC];omega);have a3:=zO (a:=xd.length) (b:=xf.length) ae;have a4:=zO (a:=(xa++xb++xc).length) (b:=(xd++xf).length) (by simp only[aC];omega);simp only[aC]at a2 a4;obtain⟨X,hX⟩:∃ x,xa++xb++xc++(xd++xf)=x:=⟨_,rfl⟩;have lX:=aW List.length hX;simp only[aC]at lX;rw[hX]at hE;simp only[eN,bu,eX,jY,nJ]at c1 c2 c3 c4 c5 |-;refine a_ QG ?_;intro Q aJ aK aL;repeat' first|refine cz hX ?_|refine aB ?_|with_reducible refine G8 o3 p1.1 Ad rfl (by simp only[aC];exact a2) ?_|refine aA ?_ ?_<;>intro hw<;>try omega|fail
 with_reducible refine bE [6,1,37,9] (fun q:Nat=>[(37,I q)]) (fun q=>[.cells [.str A,I B,.aR false EV (C.map c8),I D,.aR false E1 (F.map sM),.aR false E1 (G.map bu)],.cells [.str (X++(F.take q).flatMap iO)]]) (fun q=>q<=F.length/\((F.take q).flatMap iO).length<=q*10) (fun q=>F.length-q) (0) ?_ ?_ ?_ ?_
 ·simp
 ·simp only[gZ,List.flatMap_nil,bZ]
 ·exact at_
 rintro i r ⟨g1,g2⟩;try dsimp only at g1 g2
 by_cases hi:i<F.length
 ·have hn:=o5.2 _ (bq hi);have mY:=CP iO hi X;obtain⟨n,hne⟩:=cq (F.getD i default);rw[hne]at hn mY;have c6:=kE n hn;have l6:=iV n;have hsl:=aW List.length mY;obtain⟨y,hy⟩:=cq (X++(F.take i).flatMap iO);have Li:=aW List.length hy;simp only[aC]at hsl Li;rw[hy]at mY;have Zv:=zO (a:=y.length) (b:=(iO n).length) ae;repeat' first|refine cz (zA hne hy) ?_|refine aB ?_|refine aA ?_ ?_<;>intro hw<;>try omega|fail
  refine⟨i+1,?_,?_,?_,da,at_⟩
  ·exact⟨ae,ae⟩
  ·dsimp only;omega
  dsimp only;rw[mY]
 have ht:F.take i=F:=bG ae;rw[ht]at g2;obtain⟨Y,hY⟩:∃ y,X++F.flatMap iO=y:=⟨_,rfl⟩;have lY:=aW List.length hY;simp only[aC]at lY;have a5:=zO (a:=Y.length) (b:=xg.length) ae;rw[hY]at hE;obtain⟨Z,hZ⟩:∃ y,Y++xg=y:=⟨_,rfl⟩;have lZ:=aW List.length hZ;simp only[aC]at lZ;rw[hZ]at hE;repeat' first|refine cz (zB ht hY hZ) ?_|refine aB ?_|refine aA ?_ ?_<;>intro hw<;>try omega|fail
 with_reducible refine bE [8,1,57,8] (fun q:Nat=>[(57,I q)]) (fun q=>[.cells [.str A,I B,.aR false EV (C.map c8),I D,.aR false E1 (F.map sM),.aR false E1 (G.map bu)],.cells [.str (Z++(G.take q).flatMap pA)]]) (fun q=>q<=G.length/\((G.take q).flatMap pA).length<=q*1000) (fun q=>G.length-q) (0) ?_ ?_ ?_ ?_
 ·simp
 ·simp only[gZ,List.flatMap_nil,bZ]
 ·exact at_
 rintro i' r' ⟨f1,f2⟩;try dsimp only at f1 f2
 by_cases hi':i'<G.length
 ·have hv:=o7 _ (bq hi');have qQ:=P8 (z7 _ (bq hi'));have mY:=CP pA hi' Z;obtain⟨n,hne⟩:=cq (G.getD i' default);rw[hne]at hv mY qQ;obtain⟨xr,hxr⟩:∃ x,pA n=x:=⟨_,rfl⟩;have hsl:=aW List.length mY;obtain⟨y,hy⟩:=cq (Z++(G.take i').flatMap pA);have Li:=aW List.length hy;simp only[aC]at hsl Li;rw[hy]at mY;rw[hxr]at mY hsl qQ;have Zv:=zO (a:=y.length) (b:=xr.length) ae;repeat' first|refine cz (zA hne hy) ?_|refine aB ?_|with_reducible refine G8 hv qQ.1 hxr rfl Zv ?_|refine aA ?_ ?_<;>intro hw<;>try omega|fail
  refine⟨i'+1,?_,?_,?_,da,at_⟩
  ·exact⟨ae,ae⟩
  ·dsimp only;omega
  dsimp only;rw[mY]
 have ht':G.take i'=G:=bG ae;repeat' first|refine cz ht' ?_|refine aB ?_|refine aA ?_ ?_<;>intro hw<;>try omega|fail
 exact aZ (by rw[<-hE]) rfl
def I6(e:jW)(ok:p7 e): aS aH 37 [jY e] (I (tB e)):=by
 have c1:=VE e ok;have c2:=fun h=>ML e ok h;unfold tB;generalize rP e=b at *;cases b with
 | false =>
   simp only[jY,nJ,eN,bu,eX]at c1 |-;refine a_ Ca ?_;intro Q aJ aK aL;repeat' first|refine aB ?_|refine aA ?_ ?_<;>intro hw<;>try omega|fail
   all_goals first|exact bJ|exact aZ rfl rfl
 | true =>
   have c2:=c2 rfl;generalize sy e=t at *;rw[aj aQ];simp only[jY,nJ,eN,bu,eX]at c1 c2 |-;refine a_ Ca ?_;intro Q aJ aK aL;repeat' first|refine aB ?_|refine aA ?_ ?_<;>intro hw<;>try omega|fail
   ·exact aZ (by rw[au ae]) rfl
   exact aZ (by rw[aj ae]) rfl
def Xj(p:aU × Int): AV:= .bU [.str p.1,I p.2]
def BM(e:jW)(ok:p7 e): aS aH 14 [jY e] (Xj (gM e)):=by
 have c1:=I6 e ok;have hz:=@I4 e;have c2:=fun h=>ML e ok h;unfold gM;generalize tB e=k at *;by_cases h0:k≠0
 ·rw[au h0];simp only[Xj,jY,nJ,eN,bu,eX]at c1 |-;refine a_ B_ ?_;intro Q aJ aK aL;repeat' first|refine aB ?_|refine aA ?_ ?_<;>intro hw<;>try omega|fail
  all_goals first|exact bJ|exact cn rfl rfl
 rw[aj h0];obtain rfl:k=0:=ae;have c2:=c2 (hz rfl).1;generalize sy e=t at *;simp only[Xj,jY,nJ,eN,bu,eX]at c1 c2 |-;refine a_ B_ ?_;intro Q aJ aK aL;repeat' first|refine aB ?_|refine aA ?_ ?_<;>intro hw<;>try omega|fail
 all_goals first|exact bJ|exact cn rfl rfl
def Oe(l m:List Int)(hl:l.length<=2^60)(hm:m.length<=2^60): aS aH 111 [eN l,eN m] (.bool (fR (fun a b=>a==b) l m)):=by
 simp only[eN];refine a_ H9 ?_;intro Q aJ aK aL;repeat' first|refine aB ?_|refine aA ?_ ?_<;>intro hw<;>try omega|fail
 ·refine aZ ?_ rfl;rw[nU ae]
 have qj:l.length=m.length:=ae;with_reducible refine bE [4,2,11,15] (fun i:Nat=>[(5,I i)]) (fun _=>[]) (fun i=>i<=l.length/\ ∀ k,k<i->(l.getD k default==m.getD k default)=true) (fun i=>l.length-i) (0) ?_ ?_ ?_ ?_
 ·simp
 ·rfl
 ·exact at_
 rintro i r ⟨h1,h2⟩;by_cases hi:i<l.length
 ·repeat' first|refine aB ?_|refine aA ?_ ?_<;>intro hw<;>try omega|fail
  ·refine aZ ?_ rfl;rw[qi (p:=fun a b=>a==b) hi (by rw[<-Bool.not_eq_true];simp_all) ae]
  refine⟨i+1,?_,?_,by first|rfl|(simp[go_sem];done),da,at_⟩<;>(try dsimp only)
  ·exact⟨ae,cj h2 (by simp_all)⟩
  omega
 repeat' first|refine aB ?_|refine aA ?_ ?_<;>intro hw<;>try omega|fail
 refine aZ ?_ rfl;rw[nW (p:=fun a b=>a==b) qj (fun k hk=>h2 k ae)]
def Og(l m:List (List aX))(hl:l.length<=2^60)(hm:m.length<=2^60)(Tr:∀ r ∈ l,r.length<=2^60)(Ai:∀ r ∈ m,r.length<=2^60): aS aH 112 [eX l,eX m] (.bool (fR (fR fun a b=>a==b) l m)):=by
 simp only[eX];refine a_ H_ ?_;intro Q aJ aK aL;repeat' first|refine aB ?_|refine aA ?_ ?_<;>intro hw<;>try omega|fail
 ·refine aZ ?_ rfl;rw[nU ae]
 have qj:l.length=m.length:=ae;with_reducible refine bE [4,2,11,16] (fun i:Nat=>[(5,I i)]) (fun _=>[]) (fun i=>i<=l.length/\ ∀ k,k<i->fR (fun a b=>a==b) (l.getD k default) (m.getD k default)=true) (fun i=>l.length-i) (0) ?_ ?_ ?_ ?_
 ·simp
 ·rfl
 ·exact at_
 rintro i r ⟨h1,h2⟩;by_cases hi:i<l.length
 ·have c:=xV _ _ (Tr _ (bq hi)) (Ai _ (bq (show i<m.length by omega)));have hne:=fun h=>qi (p:=fR fun a b=>a==b) hi h (show i<m.length by omega);have dR:=fun he=>cj (q:=fun k=>fR (fun a b=>a==b) (l.getD k default) (m.getD k default)=true) h2 (i:=i) he;generalize fR (fun a b=>a==b) (l.getD i default) (m.getD i default)=v at c hne dR;simp only[bu]at c;repeat' first|refine aB ?_|refine eU c ?_|refine aA ?_ ?_<;>intro hw<;>try omega|fail
  all_goals first
   | exact bJ
   |(refine aZ ?_ rfl;rw[hne (by simp_all)])
   | (refine ⟨i + 1, ?_, ?_, ?_, da, at_⟩ <;> (try dsimp only)
      ·exact⟨ae,dR (by simp_all)⟩
      ·omega
      all_goals (first|rfl|(simp[go_sem];done)))
 repeat' first|refine aB ?_|refine aA ?_ ?_<;>intro hw<;>try omega|fail
 refine aZ ?_ rfl;rw[nW qj (fun k hk=>h2 k ae)]
def smE(e:jW): Prop:=e.input.length<=2^60/\e.rules.length<=2^60/\e.rows.length<=2^60/\ ∀ r ∈ e.rows,r.length<=2^60
def p7.sm{e:jW}(h:p7 e): smE e:=by
 obtain⟨h1,h2,h3,h4,h5,h6,h7⟩:=h;refine⟨by have:=h3.1;omega,by have:=h5.1;omega,ae,fun r hr=>?_⟩;have:=(h7 r hr).1;omega
def Zw(e:jW): List AV:=[I e.err,eN e.rules,eX e.rows]
def Zx(a b:jW)(ha:smE a)(hb:smE b): aS aH 72 [.agg (Zw a),.agg (Zw b)] (.bool (decide (a.err=b.err) && fR (fun x y=>x==y) a.rules b.rules && fR (fR fun x y=>x==y) a.rows b.rows)):=by
 have c1:=Oe a.rules b.rules ha.2.1 hb.2.1;have c2:=Og a.rows b.rows ha.2.2.1 hb.2.2.1 ha.2.2.2 hb.2.2.2;generalize fR (fun x y=>x==y) a.rules b.rules=v1 at *;generalize fR (fR fun x y=>x==y) a.rows b.rows=v2 at *;obtain⟨n,hn⟩:=cq a.err;obtain⟨m,hm⟩:∃ n,b.err=n:=⟨_,rfl⟩;simp only[Zw,hn,hm,eN,eX]at c1 c2 |-;refine a_ QB ?_;intro Q aJ aK aL;repeat' first|refine aB ?_|refine aA ?_ ?_<;>intro hw<;>try omega|fail
 all_goals first|exact bJ|skip
 all_goals (refine aZ ?_ rfl;simp_all)
def Zy(a b:jW)(ha:smE a)(hb:smE b): aS aH 46 [jY a,jY b] (.bool (MJ a b)):=by
 have c1:=xV a.input b.input ha.1 hb.1;have c2:=Zx a b ha hb
 have e:MJ a b=(decide (a.table=b.table) && decide (a.ver=b.ver) && fR (fun x y=>x==y) a.input b.input && (decide (a.err=b.err) && fR (fun x y=>x==y) a.rules b.rules && fR (fR fun x y=>x==y) a.rows b.rows)):=by
  unfold MJ;simp only[Bool.and_assoc]
 rw[e];clear e;generalize fR (fun x y=>x==y) a.input b.input=v1 at *;generalize (decide (a.err=b.err) && fR (fun x y=>x==y) a.rules b.rules && fR (fR fun x y=>x==y) a.rows b.rows)=v2 at *;simp only[jY,nJ,Zw,eN,eX,bu]at c1 c2 |-;refine a_ QC ?_;intro Q aJ aK aL;repeat' first|refine aB ?_|refine IC c2 ?_|refine aA ?_ ?_<;>intro hw<;>try omega|fail
 all_goals first|exact bJ|skip
 all_goals (refine aZ ?_ rfl;simp_all)
def aeK{v:aX}{a:List aX}(h:∀ v ∈ a,iC v)(h0:0<a.length)(e:v=a.getD 0 default): iC v:=by subst e;exact h _ (bq h0)
def P9: ∀ {l:List aX} {n:Int} {v:aX},kX n->BI l n = .ok v->iC v
 | [], n, v, hn, h => by
   have h:jE.ok ⟨1,n,[]⟩ = .ok v:=h;cases h;exact⟨by simp[cg],hn,aQ⟩
 | u :: r, n, v, hn, h => by
   rw[G1]at h;rcases Ea (n+u.n)with ⟨e,hr⟩|e
   ·rw[e]at h;exact P9 (l:=r) hr h
   rw[e]at h;cases h
def I7: ∀ {l:List aX} {m:aX},(∀ v ∈ l,iC v)->iC m->iC (qy l m)
 | [],_,_,h=>h
 | v :: r, m, hl, h => by
   rw[IZ];refine I7 (fun w hw=>hl w (by simp[hw])) ?_;split
   ·exact hl v aQ
   exact h
def MN: ∀ {l:List aX} {m:aX},(∀ v ∈ l,iC v)->iC m->iC (u_ l m)
 | [],_,_,h=>h
 | v :: r, m, hl, h => by
   rw[My];refine MN (fun w hw=>hl w (by simp[hw])) ?_;split
   ·exact hl v aQ
   exact h
def Zz{agg:Int}{rows:List (List aX)}{v:aX}(hr:rows.length<=2^30)(hw:∀ a ∈ rows,0<a.length/\ ∀ v ∈ a,iC v)(h:mS agg rows = .ok v): iC v:=by
 have hh:∀ v ∈ kP rows,iC v:=fun v hv=>by
  obtain⟨a,ha,e⟩:=Mz hv;exact aeK (hw a ha).2 (hw a ha).1 e
 by_cases h4:agg=4
 ·subst h4;rw[Xc]at h;cases h;exact⟨by simp[cg],⟨by dsimp only;omega,by dsimp only;omega⟩,aQ⟩
 cases hL:kP rows with
 | nil=>rw[PU h4 hL]at h;cases h;exact HP
 | cons m l =>
   rw[hL]at hh;have hm:=hh m aQ;have hl:∀ v ∈ l,iC v:=fun w hw=>hh w (by simp[hw]);by_cases h1:agg=1
   ·subst h1;rw[Xd,hL,aj aQ]at h;exact P9 (n:=0) (by unfold kX;omega) h
   by_cases h2:agg=2
   ·subst h2;rw[Xe hL]at h;cases h;exact I7 hl hm
   rw[Xf h4 h1 h2 hL]at h;cases h;exact MN hl hm
structure MO (n:Nat) (o:ve):Prop where
 err:0<=o.err/\o.err<=99
 amW:o.rules.Pairwise (· < ·)
 rules:∀ i ∈ o.rules,0<=i/\i<24
 few:o.rules.length<=24
 rows:o.rows.length<=24
 row:∀ a ∈ o.rows,a.length<=n/\ ∀ v ∈ a,iC v
def Q7{t:Table}{rules:List Int}{rows:List (List aX)}{n:Nat}(hn:n=t.outs.length)(h0:0<n)(hr:rules.Pairwise (· < ·))(hi:∀ i ∈ rules,0<=i/\i<24)(hf:rules.length<=24)(hl:rows.length=rules.length)(hw:∀ a ∈ rows,a.length=n/\ ∀ v ∈ a,iC v): MO n (nX t rules rows):=by
 have W:∀ a ∈ rows,a.length<=n/\ ∀ v ∈ a,iC v:=fun a h=>⟨by have:=(hw a h).1;omega,(hw a h).2⟩
 have one:∀ b,rules≠[]->b<rows.length->MO n ⟨0,[rules.getD b default],[rows.getD b default]⟩:=fun b hne hb =>
  ⟨⟨by dsimp only;omega,by dsimp only;omega⟩,aQ,fun i h=>by obtain rfl:=List.mem_singleton.1 h;exact hi _ (bq ae),aQ,aQ,fun a h=>by obtain rfl:=List.mem_singleton.1 h;exact W _ (bq hb)⟩
 unfold nX;split
 ·split
  ·have hp:(yC rows []).Perm rows:=by simpa using DY rows []
   exact⟨⟨by dsimp only;omega,by dsimp only;omega⟩,hr,hi,hf,by show(yC rows []).length<=24;rw[hp.length_eq];omega,fun a h=>W a (hp.mem_iff.1 h)⟩
  split
  ·rename_i e he;have:=PW he;subst this;exact⟨⟨by dsimp only;omega,by dsimp only;omega⟩,hr,hi,hf,aQ,fun a h=>by cases h⟩
  rename_i v hv;have:=Zz ae (fun a h=>⟨by have:=(hw a h).1;omega,(hw a h).2⟩) hv;refine⟨⟨by dsimp only;omega,by dsimp only;omega⟩,hr,hi,hf,aQ,fun a h=>?_⟩;obtain rfl:=eY.1 h;exact⟨by simp only[aO,bt];omega,fun w hw=>by obtain rfl:=eY.1 hw;exact this⟩
 split
 ·split
  ·exact⟨⟨by dsimp only;omega,by dsimp only;omega⟩,hr,hi,hf,aQ,fun a h=>by cases h⟩
  exact⟨⟨by dsimp only;omega,by dsimp only;omega⟩,hr,hi,hf,by show(rows.take 1).length<=24;rw[List.length_take];omega,fun a h=>W a (List.mem_of_mem_take h)⟩
 split
 ·exact⟨⟨by dsimp only;omega,by dsimp only;omega⟩,hr,hi,hf,by show rows.length<=24;omega,W⟩
 split
 ·exact⟨⟨by dsimp only;omega,by dsimp only;omega⟩,aQ,fun i h=>(by cases h),aQ,aQ,fun a h=>by cases h⟩
 rename_i hne;have hl0:0<rows.length:=by rw[hl];exact iR.2 hne
 split
 ·exact one _ hne (G0 ae hl0)
 exact one 0 hne hl0
def Q8{r:Ready}{row:List aX}(h:Zn r row)(h2:(jw r row).2=0): mB r.table.ins row=true/\MO r.table.outs.length (jw r row).1:=by
 have hR:=PZ h.MG h.Xg;have hl:=h.MG.lines
 have hin:(eK r row).2.2≠21->mB r.table.ins row=true:=fun hne=>by
  unfold eK at hne;split at hne
  ·assumption
  exact absurd rfl hne
 have H24:∀ i ∈ (eK r row).1,0<=i/\i<24:=fun i hi=>by have:=hR.1.2.1 i hi;omega
 have ai4:∀ (e a:Int),tQ e->0<=a/\a.toNat<r.lines.length->MO r.table.outs.length ⟨e,[a],[]⟩:=fun e a he ha =>
  ⟨(HR he).2.2,aQ,fun i h=>by obtain rfl:=List.mem_singleton.1 h;omega,aQ,aQ,fun a h=>by cases h⟩
 by_cases P4:(eK r row).2.2=21
 ·rw[EL P4]at h2;exact absurd h2 cW
 refine⟨hin P4,?_⟩;by_cases h0:(eK r row).2.2=0
 ·by_cases hu:r.table.bW=1/\1<(eK r row).1.length
  ·rw[CO h0 hu];exact⟨⟨by dsimp only;omega,by dsimp only;omega⟩,hR.1.1,H24,hR.1.2.2,aQ,fun a h=>by cases h⟩
  rw[G5 h0 hu];rcases Ku h.MG h.Xg (q:=(eK r row).1) (acc:=[]) hR.1.2.1 (fun a h=>by cases h)with ⟨k1,k2,k3⟩|⟨k1,k2⟩
  ·rw[aj ae];exact Q7 rfl h.aiX hR.1.1 H24 hR.1.2.2 (by simpa using k2) k3
  rw[au (HR k1).1];exact ai4 _ _ k1 (hR.1.2.1 _ k2)
 rw[I0 P4 h0];rcases hR.2 with h3|h3|h3
 ·exact absurd h3 h0
 ·exact absurd h3 P4
 exact ai4 _ _ h3.1 h3.2
