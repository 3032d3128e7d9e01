/- Part. -/
import Derived.Test.YtcjcnfcedihckaaGreatDoorW31
set_option linter.all false
namespace Go.Proofs.YtcjcnfcedihckaaGreatDoor
open Go.AM
set_option maxRecDepth 4000
def A6(l m:List dX)(hl:l.length<=2 ^ 60)(hm:m.length<=2 ^ 60)(okl:∀ c ∈ l,iJ c)(okm:∀ c ∈ m,iJ c): aP aK 15 [lI l,lI m] (.bool (gy mw l m)):=by
 simp only[lI];refine aR EI ?_;intro Q aF aG aH;repeat' first|refine aE ?_|refine aD ?_ ?_<;>intro hw<;>try omega|fail
 ·refine aU ?_ rfl;rw[nH (by omega)]
 have oq:l.length=m.length:=by omega
 with_reducible refine bZ [4,5,11,12,13,14,15,16,17,18,19,20,21,22,23,24,25,26] (fun i:Nat=>[(5,I i)]) (fun _=>[]) (fun i=>i<=l.length/\ ∀ k,k<i->mw (l.getD k default) (m.getD k default)=true) (fun i=>l.length-i) (0) ?_ ?_ ?_ ?_
 ·simp
 ·rfl
 ·exact at_
 rintro i r ⟨h1,h2⟩;by_cases hi:i<l.length
 ·have c:=Sq _ _ (okl _ (bJ hi)) (okm _ (bJ (by omega:i<m.length)));have hne:=fun h=>pn (p:=mw) (l:=l) (m:=m) hi h (by omega);have cZ:=fun he=>bI (q:=fun k=>mw (l.getD k default) (m.getD k default)=true) h2 (i:=i) he;obtain⟨v,qd⟩:∃ v,l.getD i default=v:=⟨_,rfl⟩;obtain⟨w,hwe⟩:∃ v,m.getD i default=v:=⟨_,rfl⟩;rw[qd,hwe]at c hne cZ;generalize mw v w=b at *;simp only[ey,ju]at c;repeat' first|simp (disch:=omega) only[go_sem,aF,aG,aH,qd,hwe]|refine aE ?_|refine fm c ?_|refine aD ?_ ?_<;>intro hw<;>try omega|fail
  all_goals first
   | exact bN
   |(refine aU ?_ rfl;rw[hne (by simp_all)];done)
   | (refine ⟨i + 1, ?_, ?_, by first | rfl | (simp [go_sem]; done), dH, at_⟩ <;> (try dsimp only)
      ·exact⟨by omega,cZ (by simp_all)⟩
      ·omega)
 ·repeat' first|refine aE ?_|refine aD ?_ ?_<;>intro hw<;>try omega|fail
  refine aU ?_ rfl;rw[nI (p:=mw) oq (fun k hk=>h2 k (by omega))]
def Fq(c:dX): Bool:=uR c.table && decide (c.name.length<=300) && (decide (c.row.length<=12) && c.row.all pD)
def IJ(l:List dX): Bool:=decide (l.length<=70) && l.all Fq
def Ve(l:List dX): aP aK 7 [lI l] (.bool (IJ l)):=by
 obtain⟨E,hE⟩:∃ E,IJ l=E:=⟨_,rfl⟩;rw[hE];unfold IJ at hE;simp only[lI];refine aR Dz ?_;intro Q aF aG aH;repeat' first|refine aE ?_|refine aD ?_ ?_<;>intro hw<;>try omega|fail
 ·exact aU (by rw[<-hE,decide_eq_false (by omega),gE]) rfl
 have h12:l.length<=70:=by omega
 rw[decide_eq_true h12,dZ]at hE;with_reducible refine bZ [2,3,7,8,9,10,11,12,13,14,15,16,17,18,19,20,21,22,23,24,25,26,27,28,29,30,31,32,33,34,35,36,37] (fun q:Nat=>[(3,I q)]) (fun _=>[]) (fun q=>q<=l.length/\ ∀ k,k<q->Fq (l.getD k default)=true) (fun q=>l.length-q) (0) ?_ ?_ ?_ ?_
 ·simp
 ·rfl
 ·exact at_
 rintro i r ⟨g1,g2⟩;by_cases hi:i<l.length
 ·have hne:=fun h=>Am (p:=Fq) hi h;have cZ:=fun he=>bI (q:=fun k=>Fq (l.getD k default)=true) g2 (i:=i) he;obtain⟨v,qd⟩:∃ v,l.getD i default=v:=⟨_,rfl⟩;rw[qd]at hne cZ;have hS:Fq v=(uR v.table && decide (v.name.length<=300) && (decide (v.row.length<=12) && v.row.all pD)):=rfl;rw[hS]at hne cZ;have c1:=OZ v.table;have c2:=U7 v.row;generalize uR v.table=x at *;generalize (decide (v.row.length<=12) && v.row.all pD)=y at *;simp only[dV,ia,cJ,eF,dy]at c1 c2;repeat' first|simp (disch:=omega) only[go_sem,aF,aG,aH,qd]|refine aE ?_|refine aD ?_ ?_<;>intro hw<;>try omega|fail
  all_goals first
   | exact bN
   |(refine aU ?_ rfl;rw[<-hE,hne (by rw[decide_eq_false (by omega)];simp)];done)
   |(refine aU ?_ rfl;rw[<-hE,hne (by simp[*])];done)
   | (refine ⟨i + 1, ?_, ?_, by first | rfl | (simp [go_sem]; done), dH, at_⟩ <;> (try dsimp only)
      ·exact⟨by omega,cZ (by rw[decide_eq_true (by omega)];simp[*])⟩
      ·omega)
 ·repeat' first|refine aE ?_|refine aD ?_ ?_<;>intro hw<;>try omega|fail
  exact aU (by rw[<-hE,Al (fun k hk=>g2 k (by omega))]) rfl
def Nt(c:dX): mw c c=true:=by
 unfold mw;rw[wV,rz c.row (fun x _=>by simp)];simp
def zb(c:dX): Prop:=iE c.kind/\EH c.table/\iE c.ver/\(∀ v ∈ c.row,Nd v)/\iE c.lz/\iE c.nS
def abY{c:dX}(h:Fq c=true)(hr:zb c): iJ c:=by
 obtain⟨r1,r2,r3,r4,r5,r6⟩:=hr;simp only[Fq,aq,decide_eq_true_eq,aW]at h;obtain⟨⟨h1,h2⟩,h3,h4⟩:=h;exact⟨r1,Xr h1 r2,by omega,r3,⟨by omega,fun v hv=>⟨r4 v hv,by have:=h4 v hv;simp only[pD,decide_eq_true_eq]at this;omega⟩⟩,r5,r6⟩
def vA: dX:= { eS with kind:=5,lz:=2,nS:=5 }
def A7: dX:= { eS with kind:=4 }
def CL: iJ vA:=⟨⟨by decide,by decide⟩,rQ,by decide,kx,⟨by decide,fun c hc=>(by cases hc)⟩,⟨by decide,by decide⟩,⟨by decide,by decide⟩⟩
def Vf: iJ A7:=⟨⟨by decide,by decide⟩,rQ,by decide,kx,⟨by decide,fun c hc=>(by cases hc)⟩,kx,kx⟩
def ZZ{l:List dX}(h:IJ l=true)(hr:∀ c ∈ l,zb c): l.length<=70/\ ∀ c ∈ l,iJ c:=by
 simp only[IJ,aq,decide_eq_true_eq,aW]at h;exact⟨h.1,fun c hc=>abY (h.2 c hc) (hr c hc)⟩
abbrev zc: aI:=[116,97,98,108,101]
abbrev D_: aI:=[105,110]
abbrev tW: aI:=[111,117,116]
abbrev sY: aI:=[114,117,108,101]
abbrev qp: aI:=[101,110,100]
abbrev jJ: aI:=[100,101,99,105,100,101]
abbrev lg: aI:=[118,101,114,115,105,111,110]
abbrev Ss: aI:=[108,105,115,116]
abbrev tX: aI:=[108,111,103]
abbrev kz: aI:=[99,111,109,112,97,99,116]
abbrev Nu: aI:=[97,117,100,105,116]
abbrev St: aI:=[109,97,114,107]
abbrev Sv: aI:=[115,121,110,99]
abbrev ur: aI:=[116,97,98,108,101,32]
def rB: List aI:=[[],[117,110,105,113,117,101],[102,105,114,115,116],[112,114,105,111,114,105,116,121],[97,110,121],[99,111,108,108,101,99,116],[114,117,108,101]]
def rC: List aI:=[[108,105,115,116],[115,117,109],[108,101,97,115,116],[109,111,115,116],[99,111,117,110,116]]
def pE: List aI:=[[],[105,110,116],[116,101,120,116],[98,111,111,108]]
def pF(l:List eu): aI:=Lib.join (l.map eN) nL
def iL(s:aI)(l:List eu): aI:=if l.length=0 then s else s++[32]++pF l
def cg(l:List aI): aI:=Lib.join l [32]
def kN(l:List aI): aI:=Lib.join l [32,124,32]
def u_(p:Int): aI:=rB.getD p.toNat []
def ve(p:Int): aI:=rC.getD p.toNat []
def lj(p:Int): aI:=pE.getD p.toNat []
def kF(t:Table): aI:=cg [zc,t.name,u_ t.aM,ve t.agg]
def pG(c:cR): aI:=cg [D_,c.name,lj c.kind]
def ny(c:cR): aI:=iL (cg [tW,c.name,lj c.kind]) c.order
def jg(r:eE): aI:=cg [sY,kN r.cells,[58],kN r.outs]
def eW(t:Table): List aI:=kF t::(t.ins.map pG++t.outs.map ny++t.rules.map jg)
def j5(t:Table): List aI:=eW t++[qp]
def nM(k:Int): aI:=if k=4 then Ss else if k=7 then Nu else if k=8 then St else if k=9 then Sv else []
def dR(c:dX): List aI :=
 if c.kind=1 then j5 c.table else if c.kind=2 then [iL (cg [jJ,c.name,Lib.itoa c.ver]) c.row]
 else if c.kind=3 then [cg [lg,c.name,Lib.itoa c.ver]]else if c.kind=5 then [cg [tX,Lib.itoa c.lz,Lib.itoa c.nS]]
 else if c.kind=6 then [cg [kz,Lib.itoa c.lz]]else [nM c.kind]
def ei(l:List aI): aI:=l.flatMap fun s=>s++[10]
def fI(l:List dX): aI:=l.flatMap fun c=>ei (dR c)
def lJ(l:List dX): aI × Int :=
 if 64<l.length then([],24)else match l.find? (fun c=>dY c != 0)with
  | some c=>([],dY c)
  | none=>(fI l,0)
def n9(s:aI): aI:=Lib.trimB s 32
def eo(y:UInt8): Bool->aI->aI->List aI
 | _,cur,[]=>[n9 cur]
 | true,cur,[c]=>[n9 (cur++[c])]
 | true,cur,c::d::r=>if c.toNat=92 then eo y true (cur++[c,d]) r else eo y (decide (c.toNat≠34)) (cur++[c]) (d::r)
 | false,cur,c::r=>if c=y then n9 cur::eo y false [] r else eo y (decide (c.toNat=34)) (cur++[c]) r
def fG(s:aI)(y:UInt8): List aI:=eo y false [] s
def cH(c:UInt8): aI->aI × aI × Bool
 | []=>([],[],false)
 | b::r=>if b=c then([],r,true)else (b::(cH c r).1,(cH c r).2.1,(cH c r).2.2)
def pieces: Nat->aI->List aI
 | 0,s=>[s]
 | k+1,s=>if(cH 32 s).2.2=true then(cH 32 s).1::pieces k (cH 32 s).2.1 else [s]
def cn(s:aI)(n:Nat): List aI × aI × Bool :=
 if(pieces n s).length<n then([],[],false)else if(pieces n s).length=n then(pieces n s,[],true)
 else((pieces n s).take n,(pieces n s).getD n [],decide ((pieces n s).getD n []≠[]))
def rD(s:aI): eu :=
 if(bG s).2.2≠0\/(bG s).1.length<1\/2<(bG s).1.length then v0
 else if((bG s).1.getD ((bG s).1.length-1) default).kind=3 then⟨2,0,((bG s).1.getD ((bG s).1.length-1) default).s⟩
 else if((bG s).1.getD ((bG s).1.length-1) default).kind=2 then⟨1,if(bG s).1.length=2 then -((bG s).1.getD ((bG s).1.length-1) default).n else((bG s).1.getD ((bG s).1.length-1) default).n,[]⟩
 else if((bG s).1.getD ((bG s).1.length-1) default).s=qV then⟨3,1,[]⟩
 else if((bG s).1.getD ((bG s).1.length-1) default).s=ou then⟨3,0,[]⟩else v0
def wY(s:aI): Bool:=if(bG s).2.2≠0\/(bG s).1.length<1\/2<(bG s).1.length then false else decide (eN (rD s)=s)
def fV(s:aI): Int × Bool:=match Lib.atoiAll s with
 | .ok n=>if Lib.itoa n=s then(n,true)else (0,false)
 | _=>(0,false)
def qP(s:aI): eu:=if(fV s).2=true then⟨1,(fV s).1,[]⟩else v0
def uu(s:aI): Bool:=wY s ||(fV s).2
def oK(s:aI): eu:=if wY s=true then rD s else qP s
def kA(s:aI): List eu × Bool:=if(fG s 44).all uu=true then((fG s 44).map oK,decide (pF ((fG s 44).map oK)=s))else ([],false)
def ko(k:Int)(s:aI): dX × Bool :=
 if(cn s 3).2.2=false\/k=3/\(cn s 3).2.1≠[]then (eS,false)
 else if(fV ((cn s 3).1.getD 2 [])).2=true/\(cn s 3).2.1≠[]then ({ eS with kind:=k,name:=(cn s 3).1.getD 1 [],ver:=(fV ((cn s 3).1.getD 2 [])).1,row:=(kA (cn s 3).2.1).1 },(kA (cn s 3).2.1).2)
 else({ eS with kind:=k,name:=(cn s 3).1.getD 1 [],ver:=(fV ((cn s 3).1.getD 2 [])).1 },(fV ((cn s 3).1.getD 2 [])).2)
def jK(k:Int)(s:aI)(n:Nat): dX × Bool :=
 if(cn s (n+1)).2.2=false\/(cn s (n+1)).2.1≠[]then (eS,false)
 else if(fV ((cn s (n+1)).1.getD 1 [])).2=true/\n=2 then({ eS with kind:=k,lz:=(fV ((cn s (n+1)).1.getD 1 [])).1,nS:=(fV ((cn s (n+1)).1.getD 2 [])).1 },(fV ((cn s (n+1)).1.getD 2 [])).2)
 else({ eS with kind:=k,lz:=(fV ((cn s (n+1)).1.getD 1 [])).1 },(fV ((cn s (n+1)).1.getD 1 [])).2)
def l8(s:aI): dX × Bool :=
 if(cH 32 s).1=jJ then ko 2 s else if(cH 32 s).1=lg then ko 3 s
 else if(cH 32 s).1=tX then jK 5 s 2 else if(cH 32 s).1=kz then jK 6 s 1
 else if s=Ss then({ eS with kind:=4 },true)else if s=Nu then({ eS with kind:=7 },true)
 else if s=St then({ eS with kind:=8 },true)else if s=Sv then({ eS with kind:=9 },true)else (eS,false)
def kG(s:aI): cR × Bool :=
 if(cn s 3).2.2=false then(⟨[],0,[]⟩,false)
 else if(cn s 3).2.1≠[]then (⟨(cn s 3).1.getD 1 [],fy (fun x=>x==(cn s 3).1.getD 2 []) pE,(kA (cn s 3).2.1).1⟩,(kA (cn s 3).2.1).2 && decide (0<fy (fun x=>x==(cn s 3).1.getD 2 []) pE))
 else(⟨(cn s 3).1.getD 1 [],fy (fun x=>x==(cn s 3).1.getD 2 []) pE,[]⟩,decide (0<fy (fun x=>x==(cn s 3).1.getD 2 []) pE))
def kO(s:aI): eE × Bool :=
 if(cn s 1).2.2=false\/(fG (cn s 1).2.1 58).length≠2 then(⟨[],[]⟩,false)
 else(⟨fG ((fG (cn s 1).2.1 58).getD 0 []) 124,fG ((fG (cn s 1).2.1 58).getD 1 []) 124⟩,true)
def je(t:Table): Table:=if t.outs.length=0 then { t with outs:=[⟨[111],1,if t.aM=3 then [⟨1,0,[]⟩]else []⟩] }else t
def dP(t:Table): Bool :=
 if t.ins.length=0 then decide (t.agg=0) || decide (t.aM=5)
 else decide ((ff (je t)).2.2.2=0) && ie (ff (je t)).1 (je t) && decide ((jI (ff (je t)).1).2=0)
def j_(t:Table)(s:aI): Bool:=decide ((eW t).getD ((eW t).length-1) []=s)
structure gu where
 out:List dX
 now:Int
 t:Table
deriving Inhabited
def gw(r:gu)(s:aI): gu × Bool :=
 if(cn s 4).2.2=false\/(cn s 4).2.1≠[]\/eV ((cn s 4).1.getD 1 [])=false then(r,false)
 else(⟨r.out,1,⟨(cn s 4).1.getD 1 [],[],[],fy (fun x=>x==(cn s 4).1.getD 2 []) rB,fy (fun x=>x==(cn s 4).1.getD 3 []) rC,[]⟩⟩,
  decide (0<fy (fun x=>x==(cn s 4).1.getD 2 []) rB) && decide (0<=fy (fun x=>x==(cn s 4).1.getD 3 []) rC))
def mP(r:gu)(s:aI): gu:=⟨r.out,2,{ r.t with ins:=r.t.ins++[(kG s).1] }⟩
def l9(r:gu)(s:aI): gu:=⟨r.out,3,{ r.t with outs:=r.t.outs++[(kG s).1] }⟩
def kB(r:gu)(s:aI): gu:=⟨r.out,4,{ r.t with rules:=r.t.rules++[(kO s).1] }⟩
def jL(r:gu)(s:aI): gu × Bool :=
 if(cH 32 s).1=D_/\r.now<=2 then(mP r s,(kG s).2 && dP (mP r s).t && j_ (mP r s).t s)
 else if(cH 32 s).1=tW/\(r.now=2\/r.now=3)then (l9 r s,(kG s).2 && dP (l9 r s).t && j_ (l9 r s).t s)
 else if(cH 32 s).1=sY/\3<=r.now then(kB r s,(kO s).2 && dP (kB r s).t && j_ (kB r s).t s)
 else if s=qp/\3<=r.now then(⟨r.out++[{ eS with kind:=1,table:=r.t }],0,r.t⟩,true)else (r,false)
def eU(r:gu)(s:aI): gu × Bool :=
 if r.now≠0 then jL r s else if r.out.length=64 then(r,false)
 else if ur.isPrefixOf s=true then((gw r s).1,(gw r s).2 && dP (gw r s).1.t && decide (kF (gw r s).1.t=s))
 else if(l8 s).2=false\/dY (l8 s).1≠0\/(dR (l8 s).1).getD 0 []≠s then(r,false)
 else(⟨r.out++[(l8 s).1],r.now,r.t⟩,true)
def iz: Nat->gu->aI->Int->gu × aI × Int
 | 0,r,s,n=>(r,s,n)
 | f + 1, r, s, n => if s = [] then (r, s, n) else if (cH 10 s).2.2 = false then (r, s, n)
   else if(eU r (cH 10 s).1).2=false then((eU r (cH 10 s).1).1,s,n)else iz f (eU r (cH 10 s).1).1 (cH 10 s).2.1 (n+1)
def wZ: gu:=⟨[],0,iH⟩
def jv(s:aI): List dX × Int × Int :=
 if 65536<s.length then([],0,5)
 else if(iz s.length wZ s 1).2.1≠[]\/(iz s.length wZ s 1).1.now≠0 then([],(iz s.length wZ s 1).2.2,4)else ((iz s.length wZ s 1).1.out,0,0)
def Aq(l:List dX)(c:dX): fI (l++[c])=fI l++ei (dR c):=by simp[fI]
def vT(l:List aI)(s:aI): ei (l++[s])=ei l++(s++[10]):=by simp[ei]
def Sw{c:dX}(h:c.kind≠1): ∃ w,dR c=[w]:=by
 unfold dR;rw[if_neg h];repeat' split
 all_goals exact⟨_,rfl⟩
def G1(k:Int)(s:aI): (ko k s).1.kind=0\/(ko k s).1.kind=k:=by
 unfold ko;repeat' split
 all_goals first|exact .inl rfl|exact .inr rfl
def Ea(k:Int)(s:aI)(n:Nat): (jK k s n).1.kind=0\/(jK k s n).1.kind=k:=by
 unfold jK;repeat' split
 all_goals first|exact .inl rfl|exact .inr rfl
def XD(s:aI): (l8 s).1.kind≠1:=by
 have a:=G1 2 s;have b:=G1 3 s;have c:=Ea 5 s 2;have d:=Ea 6 s 1;unfold l8;repeat' split
 all_goals first|omega|(simp[eS];done)
def Fs{t:Table}(h1:t.outs=[])(h2:t.rules=[])(c:cR): eW { t with ins:=t.ins++[c] }=eW t++[pG c]:=by
 simp[eW,kF,h1,h2]
def CM{t:Table}(h2:t.rules=[])(c:cR): eW { t with outs:=t.outs++[c] }=eW t++[ny c]:=by
 simp[eW,kF,h2]
def Ar(t:Table)(x:eE): eW { t with rules:=t.rules++[x] }=eW t++[jg x]:=by
 simp[eW,kF]
def CN{t u:Table}{w s:aI}(h:eW u=eW t++[w])(hl:j_ u s=true): w=s:=by
 unfold j_ at hl;rw[h]at hl;simpa using hl
def Nv{t:Table}(hi:t.ins≠[])(ho:t.outs≠[])(h:dP t=true): (jI t).2=0:=by
 unfold dP at h;have hi':t.ins.length≠0:=fun e=>hi (List.length_eq_zero_iff.1 e);have ho':t.outs.length≠0:=fun e=>ho (List.length_eq_zero_iff.1 e);have hf:je t=t:=by unfold je;rw[if_neg ho']
 rw[if_neg hi',hf]at h;simp only[aq,decide_eq_true_eq]at h;rw[sW h.1.2]at h;exact h.2
def Lg{t:Table}(h:(jI t).2=0): dY { eS with kind:=1,table:=t }=0:=by
 unfold dY;rw[if_neg (by simp[h]),if_pos];refine⟨by simp,by simp,by simp[sX,eS],fun h=>by simp at h,by simp[eS,oz],by simp[eS,oz],by simp[eS],by simp[eS]⟩
structure Inv (r:gu) (u:aI):Prop where
 Kg:∀ c ∈ r.out,dY c=0
 len:r.out.length<=64
 n_:r.now=0->u=fI r.out
 abZ:r.now≠0->u=fI r.out++ei (eW r.t)/\r.out.length<64/\1<=r.now/\r.now<=4
 p1:2<=r.now->r.t.ins≠[]
 p2:r.now≠0->r.now<=2->r.t.outs=[]
 p3:r.now≠0->r.now<=3->r.t.rules=[]
 p4:3<=r.now->r.t.outs≠[]/\dP r.t=true
def XE: Inv wZ []:=⟨fun c hc=>(by cases hc),by decide,fun _=>rfl,fun h=>absurd rfl h,fun h=>absurd h (by decide),fun h=>absurd rfl h,fun h=>absurd rfl h,fun h=>absurd h (by decide)⟩
def Sx{r:gu}{u s:aI}(h:Inv r u)(hn:r.now≠0)(hb:(jL r s).2=true): Inv (jL r s).1 (u++(s++[10])):=by
 obtain⟨e1,e2,e3,e4⟩:=h.abZ hn;unfold jL at hb ⊢;split at hb
 ·rename_i c;rw[if_pos c];simp only[aq]at hb;have h2:=h.p2 hn c.2;have h3:=h.p3 hn (by omega);have hw:=CN (Fs h2 h3 (kG s).1) hb.2;refine⟨h.Kg,h.len,fun h=>by simp[mP]at h,fun _=>⟨?_,e2,by simp[mP],by simp[mP]⟩,fun _=>by simp[mP],fun _ _=>h2,fun _ _=>h3,fun h=>by simp[mP]at h⟩;show _=fI r.out++ei (eW { r.t with ins:=r.t.ins++[(kG s).1] });rw[Fs h2 h3,vT,hw,e1,bt]
 split at hb
 ·rename_i c0 c;rw[if_neg c0,if_pos c];simp only[aq]at hb;have h3:=h.p3 hn (by omega);have h1:=h.p1 (by omega);have hw:=CN (CM h3 (kG s).1) hb.2;refine⟨h.Kg,h.len,fun h=>by simp[l9]at h,fun _=>⟨?_,e2,by simp[l9],by simp[l9]⟩,fun _=>h1,fun _ h=>by simp[l9]at h,fun _ _=>h3,fun _=>⟨by simp[l9],hb.1.2⟩⟩;show _=fI r.out++ei (eW { r.t with outs:=r.t.outs++[(kG s).1] });rw[CM h3,vT,hw,e1,bt]
 split at hb
 ·rename_i c0 c1 c;rw[if_neg c0,if_neg c1,if_pos c];simp only[aq]at hb;have h1:=h.p1 (by omega);have h4:=h.p4 (by omega);have hw:=CN (Ar r.t (kO s).1) hb.2;refine⟨h.Kg,h.len,fun h=>by simp[kB]at h,fun _=>⟨?_,e2,by simp[kB],by simp[kB]⟩,fun _=>h1,fun _ h=>by simp[kB]at h,fun _ h=>by simp[kB]at h,fun _=>⟨h4.1,hb.1.2⟩⟩;show _=fI r.out++ei (eW { r.t with rules:=r.t.rules++[(kO s).1] });rw[Ar,vT,hw,e1,bt]
 split at hb
 ·rename_i c0 c1 c2 c;rw[if_neg c0,if_neg c1,if_neg c2,if_pos c];have h1:=h.p1 (by omega);have h4:=h.p4 (by omega);have GM:=Lg (Nv h1 h4.1 h4.2);refine⟨fun x hx=>?_,by simp;omega,fun _=>?_,fun h=>absurd rfl h,fun h=>absurd h (by simp),fun h=>absurd rfl h,fun h=>absurd rfl h,fun h=>absurd h (by simp)⟩
  ·rcases List.mem_append.1 hx with hx|hx
   ·exact h.Kg x hx
   ·rw[bK.1 hx];exact GM
  ·show _=fI (r.out++[{ eS with kind:=1,table:=r.t }]);have hl:dR { eS with kind:=1,table:=r.t }=eW r.t++[s]:=by unfold dR;rw[if_pos rfl,c.1];rfl
   rw[Aq,hl,vT,e1,bt]
 ·cases hb
def Ft{r:gu}{u s:aI}(h:Inv r u)(hb:(eU r s).2=true): Inv (eU r s).1 (u++(s++[10])):=by
 unfold eU at hb ⊢;split at hb
 ·rename_i hn;rw[if_pos hn];exact Sx h hn hb
 rename_i hn;have hn:r.now=0:=Classical.not_not.1 hn;have hu:=h.n_ hn;rw[if_neg (by omega)];split at hb
 ·cases hb
 rename_i h64;rw[if_neg h64];split at hb
 ·rename_i c;rw[if_pos c];simp only[aq,decide_eq_true_eq]at hb;obtain⟨⟨b1,b2⟩,b3⟩:=hb;unfold gw at b1 b2 b3 ⊢;split at b1
  ·cases b1
  rename_i c2;rw[if_neg c2]at b2 b3 ⊢;have:=h.len;refine⟨h.Kg,h.len,fun h=>by simp at h,fun _=>⟨?_,by dsimp only;omega,by simp,by simp⟩,fun h=>by simp at h,fun _ _=>rfl,fun _ _=>rfl,fun h=>by simp at h⟩;rw[hu];have hx:∀ w:Table,kF w=s->w.ins=[]->w.outs=[]->w.rules=[]->fI r.out++(s++[10])=fI r.out++ei (eW w):=fun w e1 e2 e3 e4=>by simp[eW,ei,e1,e2,e3,e4]
  exact hx _ b3 rfl rfl rfl
 ·rename_i c;rw[if_neg c];split at hb
  ·cases hb
  rename_i c2;rw[if_neg c2];simp only[not_or,Bool.not_eq_false,Classical.not_not]at c2;obtain⟨k1,k2,k3⟩:=c2;have:=h.len;obtain⟨w,hw⟩:=Sw (XD s);rw[hw]at k3;have k3:w=s:=k3;refine⟨fun x hx=>?_,by simp;omega,fun _=>?_,fun h=>absurd hn h,fun h=>?_,fun h=>absurd hn h,fun h=>absurd hn h,fun h=>?_⟩
  ·rcases List.mem_append.1 hx with hx|hx
   ·exact h.Kg x hx
   ·rw[bK.1 hx];exact k2
  ·show _=fI (r.out++[(l8 s).1]);rw[Aq,hw,hu,k3];simp[ei]
  ·have h:2<=r.now:=h;omega
  ·have h:3<=r.now:=h;omega
def Nw(c:UInt8)(s:aI): (cH c s).2.2=true->s=(cH c s).1++(c::(cH c s).2.1):=by
 induction s with
 | nil=>intro h;cases h
 | cons b s ih =>
   intro h;rw[cH]at h ⊢;split at h
   ·rename_i e;rw[if_pos e,e];rfl
   ·rename_i e;rw[if_neg e];exact congrArg (b:: ·) (ih h)
def Vg(c:UInt8)(s:aI): ∀ x ∈ (cH c s).1,x≠c:=by
 induction s with
 | nil=>intro x h;cases h
 | cons b s ih =>
   intro x h;rw[cH]at h;split at h
   ·cases h
   ·rename_i e;rcases List.mem_cons.1 h with rfl|h
    ·exact e
    ·exact ih x h
def w5(s:aI): Nat:=s.countP (fun c=>decide (c.toNat=10))
def ab0{s:aI}(h:(cH 10 s).2.2=true): w5 s=w5 (cH 10 s).2.1+1:=by
 have e:=Nw 10 s h;have f:=Vg 10 s
 have z:w5 (cH 10 s).1=0:=by
  unfold w5;rw[List.countP_eq_zero];intro a ha hh;exact f a ha (UInt8.toNat_inj.1 (by simpa using hh))
 conv=>lhs;rw[e]
 unfold w5 at z ⊢;rw[List.countP_append,z,List.countP_cons];simp
def XF: ∀(f:Nat) (r:gu) (s u:aI) (n:Int),s.length<=f->Inv r u->(∃ v,u++s=v++(iz f r s n).2.1/\((iz f r s n).2.1=[]->Inv (iz f r s n).1 v))/\n<=(iz f r s n).2.2/\(iz f r s n).2.2<=n+w5 s:=by
 intro f
 induction f with
 | zero =>
   intro r s u n hf hi;have:s=[]:=List.length_eq_zero_iff.1 (by omega);subst this;exact⟨⟨u,rfl,fun _=>hi⟩,Int.le_refl _,by simp[iz,w5]⟩
 | succ f ih =>
   intro r s u n hf hi;rw[iz];split
   ·rename_i h;subst h;exact⟨⟨u,rfl,fun _=>hi⟩,Int.le_refl _,by dsimp only;omega⟩
   rename_i hs;split
   ·exact⟨⟨u,rfl,fun h=>absurd h hs⟩,Int.le_refl _,by dsimp only;omega⟩
   rename_i hc;rw[Bool.not_eq_false]at hc;split
   ·exact⟨⟨u,rfl,fun h=>absurd h hs⟩,Int.le_refl _,by dsimp only;omega⟩
   rename_i hl;rw[Bool.not_eq_false]at hl;have e:=Nw 10 s hc;have hlen:=congrArg List.length e;simp only[aA,List.length_cons]at hlen;obtain⟨⟨v,v1,v2⟩,w1,w2⟩:=ih _ (cH 10 s).2.1 (u++((cH 10 s).1++[10])) (n+1) (by omega) (Ft hi hl);refine⟨⟨v,?_,v2⟩,by omega,?_⟩
   ·rw[<-v1];conv=>lhs;rw[e]
    simp
   ·have:=ab0 hc;omega
def Fu{l:List dX}(hl:l.length<=64)(h:∀ c ∈ l,dY c=0): lJ l=(fI l,0):=by
 unfold lJ;rw[if_neg (by omega)]
 have:l.find? (fun c=>dY c != 0)=none:=by
  rw[dm];intro c hc;simp[h c hc]
 rw[this]
def Sy(s:aI)(hs:s.length<=65536): ((jv s).2.2=0/\(jv s).2.1=0/\lJ (jv s).1=(s,0))\/((jv s).2.2=4/\(jv s).1=[]/\1<=(jv s).2.1/\(jv s).2.1<=w5 s+1):=by
 obtain⟨⟨v,v1,v2⟩,w1,w2⟩:=XF s.length wZ s [] 1 (Nat.le_refl _) XE;unfold jv;rw[if_neg (by omega)];split
 ·exact .inr ⟨rfl,rfl,w1,by dsimp only;omega⟩
 ·rename_i h;simp only[not_or,Classical.not_not]at h;have hi:=v2 h.1;rw[h.1,bS,cP]at v1;refine .inl ⟨rfl,rfl,?_⟩;rw[Fu hi.len hi.Kg,<-hi.n_ h.2,<-v1]
def Qt(y:UInt8)(s:aI): Prop:= ∀ cur r,eo y false cur (s++r)=eo y false (cur++s) r
def Qt.nil(y:UInt8): Qt y []:=fun cur r=>by simp
def Qt.app{y:UInt8}{a b:aI}(ha:Qt y a)(hb:Qt y b): Qt y (a++b):=fun cur r=>by
 rw[bt,ha,hb,bt]
def G2{y c:UInt8}(cur r:aI)(h:c≠y): eo y false cur (c::r)=eo y (decide (c.toNat=34)) (cur++[c]) r:=by
 rw[eo,if_neg h]
def Vh(y:UInt8)(cur r:aI): eo y false cur (y::r)=n9 cur::eo y false [] r:=by
 rw[eo,if_pos rfl]
def Qt.plain{y:UInt8}: ∀ {s:aI},(∀ c ∈ s,c≠y/\c.toNat≠34)->Qt y s
 | [],_=>Qt.nil y
 | c :: s, h => fun cur r => by
   have h1:=h c (by simp);rw[bD,G2 _ _ h1.1,decide_eq_false h1.2,Qt.plain (fun d hd=>h d (by simp[hd]))];simp
def XG{y:UInt8}(r:aI): ∀(s cur:aI),eo y true cur (s.flatMap gW++(34::r))=eo y false (cur++(s.flatMap gW++[34])) r:=by
 intro s
 induction s with
 | nil =>
   intro cur;cases r with
   | nil=>simp[eo]
   | cons d r =>
     rw[fq,cP,cP,eo,if_neg (by decide)];rfl
 | cons c s ih =>
   intro cur;rw[da];unfold gW;split
   ·rw[bt,bD,bD,cP,eo,if_pos (by decide)];have:=ih (cur++[92,c]);unfold gW at this;rw[this];simp
   ·rename_i h
    have e:∃ d q,s.flatMap gW++(34::r)=d::q:=by
     cases hq:s.flatMap gW++(34::r)with
     | nil=>simp at hq
     | cons d q=>exact⟨d,q,rfl⟩
    obtain⟨d,q,hq⟩:=e;have:=ih (cur++[c]);rw[hq]at this;unfold gW at hq this;rw[bt,bD,cP,hq,eo,if_neg (by omega),decide_eq_true (by omega),this];simp
def Qt.quote{y:UInt8}(hy:y.toNat≠34)(s:aI): Qt y (jZ s):=fun cur r=>by
 unfold jZ;rw[bD,bt,G2 _ _ (fun e=>hy (by rw[<-e];rfl)),decide_eq_true (by rfl)];rw[eY,XG];simp
structure Ok (y:UInt8) (s:aI):Prop where
 q:Qt y s
 ne:s≠[]
 hd:s.head?≠some 32
 lt:s.getLast?≠some 32
 nl:∀ c ∈ s,c.toNat≠10
def Eb(y:UInt8)(s:aI): Prop:= ∀ c ∈ s,c≠y/\c.toNat≠34/\c.toNat≠10
def Eb.q{y:UInt8}{s:aI}(h:Eb y s): Qt y s:=Qt.plain fun c hc=>⟨(h c hc).1,(h c hc).2.1⟩
def Nx{a b:aI}(h:a≠[]): (a++b).head? = a.head?:=by
 cases a with
 | nil=>exact absurd rfl h
 | cons c a=>rfl
def w6{a b:aI}(h:b≠[]): (a++b).getLast? = b.getLast?:=by
 rw[List.getLast?_append];cases hb:b.getLast? with
 | none=>exact absurd (List.getLast?_eq_none_iff.1 hb) h
 | some c=>rfl
def Ok.mid{y:UInt8}{a m b:aI}(ha:Ok y a)(hm:Eb y m)(hb:Ok y b): Ok y (a++(m++b)) :=
 ⟨ha.q.app (hm.q.app hb.q), by simp [ha.ne], by rw [Nx ha.ne]; exact ha.hd, by rw [w6 (by simp [hb.ne]), w6 hb.ne]; exact hb.lt,
   fun c hc=>by
    simp only[List.mem_append]at hc;rcases hc with h|h|h
    ·exact ha.nl c h
    ·exact(hm c h).2.2
    ·exact hb.nl c h⟩
def Ok.pre{y:UInt8}{m b:aI}(hm:Eb y m)(h:m.head?≠some 32)(hb:Ok y b): Ok y (m++b) :=
 ⟨hm.q.app hb.q, by simp [hb.ne], by
   cases m with
   | nil=>exact hb.hd
   | cons c m => exact h, by rw [w6 hb.ne]; exact hb.lt, fun c hc => by
     rcases List.mem_append.1 hc with h|h
     ·exact(hm c h).2.2
     ·exact hb.nl c h⟩
def Ok.post{y:UInt8}{a m:aI}(ha:Ok y a)(hm:Eb y m)(h:m.getLast?≠some 32): Ok y (a++m) :=
 ⟨ha.q.app hm.q, by simp [ha.ne], by rw [Nx ha.ne]; exact ha.hd, by
   cases hq:m with
   | nil=>rw[bS];exact ha.lt
   | cons c q => rw [<-hq, w6 (by simp [hq])]; exact h, fun c hc => by
     rcases List.mem_append.1 hc with h|h
     ·exact ha.nl c h
     ·exact(hm c h).2.2⟩
def Ok.plain{y:UInt8}{s:aI}(hm:Eb y s)(hs:s≠[])(Nh:∀ c ∈ s,c.toNat≠32): Ok y s :=
 ⟨hm.q,hs,fun e=>Nh 32 (List.mem_of_head? e) rfl,fun e=>Nh 32 (List.mem_of_getLast? e) rfl,fun c hc=>(hm c hc).2.2⟩
def w7(y:UInt8): Prop:=y=44\/y=58\/y=124
def w7.n{y:UInt8}(h:w7 y): y.toNat=44\/y.toNat=58\/y.toNat=124:=by
 rcases h with rfl|rfl|rfl
 ·exact .inl rfl
 ·exact .inr (.inl rfl)
 ·exact .inr (.inr rfl)
def zd{y c:UInt8}(hy:w7 y)(h:oS c=true): c≠y/\c.toNat≠34/\c.toNat≠10/\c.toNat≠32:=by
 have:=hy.n;simp only[oS,mq,dW,c_,aq,decide_eq_true_eq]at h;refine⟨fun e=>?_,by omega,by omega,by omega⟩;subst e;omega
def Ok.word{y:UInt8}(hy:w7 y){s:aI}(hs:s≠[])(h:∀ c ∈ s,oS c=true): Ok y s :=
 Ok.plain (fun c hc=>let k:=zd hy (h c hc);⟨k.1,k.2.1,k.2.2.1⟩) hs (fun c hc=>(zd hy (h c hc)).2.2.2)
def Ok.itoa{y:UInt8}(hy:w7 y)(n:Int): Ok y (Lib.itoa n):=by
 have hn:=hy.n
 have hd:∀ u,∀ c ∈ Lib.decDigits u,oS c=true:=fun u c hc=>by
  have:=(pY u).2.1 c hc;simp[oS,this]
 unfold Lib.itoa;split
 ·refine Ok.plain (fun c hc=>?_) (by simp) (fun c hc=>?_)
  ·rcases List.mem_cons.1 hc with rfl|h
   ·exact⟨fun e=>by subst e;revert hn;decide,by decide,by decide⟩
   ·have k:=zd hy (hd _ c h);exact⟨k.1,k.2.1,k.2.2.1⟩
  ·rcases List.mem_cons.1 hc with rfl|h
   ·decide
   ·exact(zd hy (hd _ c h)).2.2.2
 ·exact Ok.word hy (pY _).1 (hd _)
def Ok.quote{y:UInt8}(hy:w7 y){s:aI}(h:gk s=true): Ok y (jZ s):=by
 have hn:=hy.n;simp only[gk,aq,decide_eq_true_eq,aW]at h;refine⟨Qt.quote (by omega) s,by simp[jZ],by simp[jZ],?_,fun c hc=>?_⟩
 ·have e:jZ s=(34::s.flatMap gW)++[34]:=by simp[jZ]
  rw[e,w6 (by simp)];decide
 ·simp only[jZ,List.mem_cons,List.mem_append,List.mem_flatMap,List.not_mem_nil,or_false]at hc;rcases hc with rfl|⟨d,hd,hc⟩|rfl
  ·decide
  ·have hp:=h.2 d hd;simp only[jG,aq,decide_eq_true_eq]at hp;unfold gW at hc;split at hc
   ·simp only[List.mem_cons,List.not_mem_nil,or_false]at hc;rcases hc with rfl|rfl
    ·decide
    ·omega
   ·simp only[List.mem_cons,List.not_mem_nil,or_false]at hc;subst hc;omega
  ·decide
def Ok.val{y:UInt8}(hy:w7 y){v:eu}(h:bT v=true): Ok y (eN v):=by
 unfold eN;unfold bT at h;by_cases h1:v.kind=1
 ·rw[if_pos h1];exact Ok.itoa hy _
 by_cases h2:v.kind=2
 ·rw[if_neg h1,if_pos h2];rw[if_neg (by omega),if_neg h1,if_pos h2]at h;simp only[aq]at h;exact Ok.quote hy h.2
 rw[if_neg h1,if_neg h2];repeat' split
 all_goals exact Ok.word hy (by decide) (by decide)
def Ok.paren{y:UInt8}(hy:w7 y){w:aI}(h:Ok y w)(n lvl:Int): Ok y (j0 (n,w) lvl):=by
 unfold j0;dsimp only;split
 ·have m1 : Eb y [40] := fun c hc => by
   obtain rfl:=bK.1 hc;exact⟨fun e=>by subst e;revert hy;unfold w7;decide,by decide,by decide⟩
  have m2:Eb y [41]:=fun c hc=>by
   obtain rfl:=bK.1 hc;exact⟨fun e=>by subst e;revert hy;unfold w7;decide,by decide,by decide⟩
  exact Ok.pre m1 (by decide) (h.post m2 (by decide))
 ·exact h
def Ny(s:aI): Bool:=s.all fun c=> !(c==58) && !(c==124) && !(c==34) && !(c==10)
def nN{y:UInt8}(hy:y=58\/y=124){s:aI}(h:Ny s=true): Eb y s:=fun c hc=>by
 have k:=aW.1 h c hc;simp only[aq,cD,beq_eq_false_iff_ne]at k;refine⟨fun e=>?_,fun e=>k.1.2 (UInt8.toNat_inj.1 e),fun e=>k.2 (UInt8.toNat_inj.1 e)⟩;rcases hy with rfl|rfl
 ·exact k.1.1.1 e
 ·exact k.1.1.2 e
def XH: ∀ b ∈ jq,Ny ([32]++b.sign++[32])=true:=by decide
def IK{y:UInt8}(hy:y=58\/y=124)(x:Expr): c8 x=true->Ok y (dJ x):=by
 have hc:w7 y:= .inr hy
 induction x using Expr.ind with
 | h op v s l ih =>
   intro hr;have key:∀ z ∈ l,c8 z=true-> ∀ lvl,Ok y (j0 (ek z.op,dJ z) lvl):=fun z hz hrz lvl=>Ok.paren hc (ih z hz hrz) _ _;rcases qL hr with⟨rfl,rfl,rfl,h1,h2⟩|⟨rfl,rfl,rfl,h1⟩|⟨rfl,rfl,rfl,a,rfl,ha⟩|⟨rfl,rfl,rfl,a,b,c,rfl,ha,hb,fX⟩|⟨o1,o2,rfl,rfl,_,_,_,_,hmem,a,b,rfl,ha,hb⟩
   ·simp only[dJ,nr,if_true];exact Ok.val hc h1
   ·simp only[dJ,nr,if_true];rw[if_neg (by decide)];simp only[eV,aq,decide_eq_true_eq]at h1;exact Ok.word hc h1.1.1.1 (xZ h1.1.1.1 h1.1.1.2).2
   ·have k1:=key a (by simp) ha 6;simp only[dJ,nr,pz];rw[if_neg (by decide),if_neg (by decide),if_pos trivial];exact Ok.pre (m:=[45]) (nN hy (by decide)) (by decide) k1
   ·have k1:=key a (by simp) ha 0;have k2:=key b (by simp) hb 0;have k3:=key c (by simp) fX 0;simp only[dJ,nr,pz];rw[if_neg (by decide),if_neg (by decide),if_neg (by decide),if_pos trivial];simp only[aT,cq];have:=Ok.pre (m:=qh) (nN hy (by decide)) (by decide) (k1.mid (m:=ov) (nN hy (by decide)) (k2.mid (m:=uM) (nN hy (by decide)) k3));simpa using this
   ·have k1:=key a (by simp) ha (if(dF op).level=3 then 4 else(dF op).level);have k2:=key b (by simp) hb ((dF op).level+1)
    have w1:dJ (.mk op v0 [] [a,b])=j0 (ek a.op,dJ a) (if(dF op).level=3 then 4 else(dF op).level)++(([32]++(dF op).sign++[32])++j0 (ek b.op,dJ b) ((dF op).level+1)):=by
     simp only[dJ,pz,nr];rw[if_neg (by omega),if_neg (by omega),if_neg (by omega),if_neg (by omega)];simp
    rw[w1];exact k1.mid (nN hy (XH _ hmem)) k2
def Lu{y:UInt8}(hy:y=58\/y=124){x:Expr}(h:c8 x=true)(lvl:Int): Ok y (j3 x lvl):=Ok.paren (.inr hy) (IK hy x h) _ _
def Qm{y:UInt8}(hy:y=58\/y=124){t:Test}(h:kK t=true): Ok y (testW t):=by
 unfold testW;rcases Ni h with⟨h6,ha,hb⟩|⟨l1,l2,ha,_⟩
 ·rw[if_neg (by omega),if_pos h6];have m1:Ny (J4 t)=true/\(J4 t).head?≠some 32:=by unfold J4;split<;>decide
  have m2:Ny (J5 t)=true/\(J5 t).getLast?≠some 32:=by unfold J5;split<;>decide
  have:=Ok.pre (nN hy m1.1) m1.2 ((Lu hy ha 4).mid (m:=[46,46]) (nN hy (by decide)) ((Lu hy hb 4).post (nN hy m2.1) m2.2));simpa using this
 ·by_cases h1:t.kind=1
  ·rw[if_pos h1];exact Lu hy ha 4
  ·rw[if_neg h1,if_neg (by omega)]
   have m1:Ny (j9 t.kind++[32])=true/\(j9 t.kind++[32]).head?≠some 32:=by
    rcases(by omega:t.kind=2\/t.kind=3\/t.kind=4\/t.kind=5)with e|e|e|e<;>(rw[e];decide)
   exact Ok.pre (nN hy m1.1) m1.2 (Lu hy ha 4)
def XI{y:UInt8}(hy:y=58\/y=124){w:aI}(hw:Ok y w): ∀(l:List Test),(∀ t ∈ l,kK t=true)->Ok y (w++GW l):=by
 intro l
 induction l generalizing w with
 | nil=>intro _;simpa[GW]using hw
 | cons t l ih =>
   intro h;have:=ih (hw.mid (m:=nL) (nN hy (by decide)) (Qm hy (h t (by simp)))) (fun u hu=>h u (bF _ hu));simpa[GW]using this
def Qn{y:UInt8}(hy:y=58\/y=124){c:Cell}(h0:(uq c).2=0): Ok y (uq c).1:=by
 have hr:lp c=true:=by
  cases hq:lp c with
  | true=>rfl
  | false=>unfold uq at h0;rw[if_pos hq]at h0;exact absurd h0 (by decide)
 unfold uq at h0 ⊢;rw[if_neg (by rw[hr];decide)]at h0 ⊢;split
 ·exact Ok.plain (nN hy (by decide)) (by decide) (by decide)
 rename_i ha;rw[if_neg ha]at h0;split
 ·rename_i hb;rw[if_pos hb]at h0;exact absurd h0 (by decide)
 rename_i hb;rw[if_neg hb]at h0;split
 ·rename_i hl;rw[if_pos hl]at h0;exact absurd h0 (by decide)
 unfold lp at hr;rw[if_neg ha]at hr;simp only[aq,decide_eq_true_eq,cD,fZ]at hr;obtain⟨⟨l1,l2⟩,hs⟩:=hr;have hs:∀ t ∈ c.tests,kK t=true:=fun t ht=>by have:=hs t ht;simpa using this
 obtain⟨t,l,hl⟩:∃ t l,c.tests=t::l:=by
  cases hq:c.tests with
  | nil=>rw[hq]at l1;simp at l1
  | cons t l=>exact⟨t,l,rfl⟩
 rw[hl,Sk];rw[hl]at hs;have k:=XI hy (Qm hy (hs t (by simp))) l (fun u hu=>hs u (bF _ hu));dsimp only;unfold Fk;split
 ·have:=Ok.pre (m:=[110,111,116,40]) (nN hy (by decide)) (by decide) (k.post (m:=[41]) (nN hy (by decide)) (by decide));simpa using this
 ·exact k
