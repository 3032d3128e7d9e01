/- Part. -/
import Derived.Test.YtcjcnfcedihckaaGreatDoorW31
set_option linter.all false
namespace Go.Proofs.YtcjcnfcedihckaaGreatDoor
open Go.AM
set_option maxRecDepth 4000
def Bz(l m:List ef)(hl:l.length<=2 ^ 60)(hm:m.length<=2 ^ 60)(okl:∀ c ∈ l,g_ c)(okm:∀ c ∈ m,g_ c): aM aK 15 [jG l,jG m] (.bool (gV mM l m)):=by
 simp only[jG];refine aR FD ?_;intro Q aC aD aE;repeat' first|refine aG ?_|refine aF ?_ ?_<;>intro hw<;>try omega|fail
 ·refine aS ?_ rfl;rw[nZ (by omega)]
 have n6:l.length=m.length:=by omega
 with_reducible refine bX [4,5,11,12,13,14,15,16,17,18,19,20,21,22,23,24,25,26] (fun i:Nat=>[(5,I i)]) (fun _=>[]) (fun i=>i<=l.length/\ ∀ k,k<i->mM (l.getD k default) (m.getD k default)=true) (fun i=>l.length-i) (0) ?_ ?_ ?_ ?_
 ·simp
 ·rfl
 ·exact at_
 rintro i r ⟨h1,h2⟩;by_cases hi:i<l.length
 ·have c:=TJ _ _ (okl _ (bH hi)) (okm _ (bH (by omega:i<m.length)));have hne:=fun h=>pR (p:=mM) (l:=l) (m:=m) hi h (by omega);have de:=fun he=>bP (q:=fun k=>mM (l.getD k default) (m.getD k default)=true) h2 (i:=i) he;obtain⟨v,nn⟩:∃ v,l.getD i default=v:=⟨_,rfl⟩;obtain⟨w,hwe⟩:∃ v,m.getD i default=v:=⟨_,rfl⟩;rw[nn,hwe]at c hne de;generalize mM v w=b at *;simp only[dU,iL]at c;repeat' first|simp (disch:=omega) only[go_sem,aC,aD,aE,nn,hwe]|refine aG ?_|refine eU c ?_|refine aF ?_ ?_<;>intro hw<;>try omega|fail
  all_goals first
   | exact bK
   |(refine aS ?_ rfl;rw[hne (by simp_all)];done)
   | (refine ⟨i + 1, ?_, ?_, by first | rfl | (simp [go_sem]; done), da, at_⟩ <;> (try dsimp only)
      ·exact⟨by omega,de (by simp_all)⟩
      ·omega)
 ·repeat' first|refine aG ?_|refine aF ?_ ?_<;>intro hw<;>try omega|fail
  refine aS ?_ rfl;rw[n5 (p:=mM) n6 (fun k hk=>h2 k (by omega))]
def Ga(c:ef): Bool:=vz c.table && decide (c.name.length<=300) && (decide (c.row.length<=12) && c.row.all pX)
def Dl(l:List ef): Bool:=decide (l.length<=70) && l.all Ga
def Lo(l:List ef): aM aK 7 [jG l] (.bool (Dl l)):=by
 obtain⟨E,hE⟩:∃ E,Dl l=E:=⟨_,rfl⟩;rw[hE];unfold Dl at hE;simp only[jG];refine aR Ee ?_;intro Q aC aD aE;repeat' first|refine aG ?_|refine aF ?_ ?_<;>intro hw<;>try omega|fail
 ·exact aS (by rw[<-hE,decide_eq_false (by omega),gY]) rfl
 have h12:l.length<=70:=by omega
 rw[decide_eq_true h12,ew]at hE;with_reducible refine bX [2,3,7,8,9,10,11,12,13,14,15,16,17,18,19,20,21,22,23,24,25,26,27,28,29,30,31,32,33,34,35,36,37] (fun q:Nat=>[(3,I q)]) (fun _=>[]) (fun q=>q<=l.length/\ ∀ k,k<q->Ga (l.getD k default)=true) (fun q=>l.length-q) (0) ?_ ?_ ?_ ?_
 ·simp
 ·rfl
 ·exact at_
 rintro i r ⟨g1,g2⟩;by_cases hi:i<l.length
 ·have hne:=fun h=>A2 (p:=Ga) hi h;have de:=fun he=>bP (q:=fun k=>Ga (l.getD k default)=true) g2 (i:=i) he;obtain⟨v,nn⟩:∃ v,l.getD i default=v:=⟨_,rfl⟩;rw[nn]at hne de;have hS:Ga v=(vz v.table && decide (v.name.length<=300) && (decide (v.row.length<=12) && v.row.all pX)):=rfl;rw[hS]at hne de;have c1:=Qi v.table;have c2:=Wo v.row;generalize vz v.table=x at *;generalize (decide (v.row.length<=12) && v.row.all pX)=y at *;simp only[dS,gQ,cH,eA,dh]at c1 c2;repeat' first|simp (disch:=omega) only[go_sem,aC,aD,aE,nn]|refine aG ?_|refine aF ?_ ?_<;>intro hw<;>try omega|fail
  all_goals first
   | exact bK
   |(refine aS ?_ rfl;rw[<-hE,hne (by rw[decide_eq_false (by omega)];simp)];done)
   |(refine aS ?_ rfl;rw[<-hE,hne (by simp[*])];done)
   | (refine ⟨i + 1, ?_, ?_, by first | rfl | (simp [go_sem]; done), da, at_⟩ <;> (try dsimp only)
      ·exact⟨by omega,de (by rw[decide_eq_true (by omega)];simp[*])⟩
      ·omega)
 ·repeat' first|refine aG ?_|refine aF ?_ ?_<;>intro hw<;>try omega|fail
  exact aS (by rw[<-hE,A1 (fun k hk=>g2 k (by omega))]) rfl
def OH(c:ef): mM c c=true:=by
 unfold mM;rw[xy,rU c.row (fun x _=>by simp)];simp
def xC(c:ef): Prop:=iu c.kind/\FC c.table/\iu c.ver/\(∀ v ∈ c.row,Ow v)/\iu c.jF/\iu c.l9
def ade{c:ef}(h:Ga c=true)(hr:xC c): g_ c:=by
 obtain⟨r1,r2,r3,r4,r5,r6⟩:=hr;simp only[Ga,aq,decide_eq_true_eq,aX]at h;obtain⟨⟨h1,h2⟩,h3,h4⟩:=h;exact⟨r1,Yz h1 r2,by omega,r3,⟨by omega,fun v hv=>⟨r4 v hv,by have:=h4 v hv;simp only[pX,decide_eq_true_eq]at this;omega⟩⟩,r5,r6⟩
def vZ: ef:= { eV with kind:=5,jF:=2,l9:=5 }
def BA: ef:= { eV with kind:=4 }
def Dm: g_ vZ:=⟨⟨by decide,by decide⟩,sD,by decide,k_,⟨by decide,fun c hc=>(by cases hc)⟩,⟨by decide,by decide⟩,⟨by decide,by decide⟩⟩
def Ww: g_ BA:=⟨⟨by decide,by decide⟩,sD,by decide,k_,⟨by decide,fun c hc=>(by cases hc)⟩,k_,k_⟩
def RC{l:List ef}(h:Dl l=true)(hr:∀ c ∈ l,xC c): l.length<=70/\ ∀ c ∈ l,g_ c:=by
 simp only[Dl,aq,decide_eq_true_eq,aX]at h;exact⟨h.1,fun c hc=>ade (h.2 c hc) (hr c hc)⟩
abbrev zI: aI:=[116,97,98,108,101]
abbrev EW: aI:=[105,110]
abbrev uE: aI:=[111,117,116]
abbrev tM: aI:=[114,117,108,101]
abbrev mI: aI:=[101,110,100]
abbrev iW: aI:=[100,101,99,105,100,101]
abbrev jX: aI:=[118,101,114,115,105,111,110]
abbrev TN: aI:=[108,105,115,116]
abbrev qO: aI:=[108,111,103]
abbrev jz: aI:=[99,111,109,112,97,99,116]
abbrev OI: aI:=[97,117,100,105,116]
abbrev TO: aI:=[109,97,114,107]
abbrev TP: aI:=[115,121,110,99]
abbrev tN: aI:=[116,97,98,108,101,32]
def rW: List aI:=[[],[117,110,105,113,117,101],[102,105,114,115,116],[112,114,105,111,114,105,116,121],[97,110,121],[99,111,108,108,101,99,116],[114,117,108,101]]
def oE: List aI:=[[108,105,115,116],[115,117,109],[108,101,97,115,116],[109,111,115,116],[99,111,117,110,116]]
def pY: List aI:=[[],[105,110,116],[116,101,120,116],[98,111,111,108]]
def lW(l:List ez): aI:=Lib.join (l.map dO) lU
def fq(s:aI)(l:List ez): aI:=if l.length=0 then s else s++[32]++lW l
def bQ(l:List aI): aI:=Lib.join l [32]
def jP(l:List aI): aI:=Lib.join l [32,124,32]
def qP(p:Int): aI:=rW.getD p.toNat []
def rX(p:Int): aI:=oE.getD p.toNat []
def jA(p:Int): aI:=pY.getD p.toNat []
def jt(t:Table): aI:=bQ [zI,t.name,qP t.aL,rX t.agg]
def kx(c:cV): aI:=bQ [EW,c.name,jA c.kind]
def iM(c:cV): aI:=fq (bQ [uE,c.name,jA c.kind]) c.order
def eW(r:eL): aI:=bQ [tM,jP r.cells,[58],jP r.outs]
def eT(t:Table): List aI:=jt t::(t.ins.map kx++t.outs.map iM++t.rules.map eW)
def gO(t:Table): List aI:=eT t++[mI]
def kI(k:Int): aI:=if k=4 then TN else if k=7 then OI else if k=8 then TO else if k=9 then TP else []
def cC(c:ef): List aI :=
 if c.kind=1 then gO c.table else if c.kind=2 then [fq (bQ [iW,c.name,Lib.itoa c.ver]) c.row]
 else if c.kind=3 then [bQ [jX,c.name,Lib.itoa c.ver]]else if c.kind=5 then [bQ [qO,Lib.itoa c.jF,Lib.itoa c.l9]]
 else if c.kind=6 then [bQ [jz,Lib.itoa c.jF]]else [kI c.kind]
def cP(l:List aI): aI:=l.flatMap fun s=>s++[10]
def dK(l:List ef): aI:=l.flatMap fun c=>cP (cC c)
def kG(l:List ef): aI × Int :=
 if 64<l.length then([],24)else match l.find? (fun c=>dX c != 0)with
  | some c=>([],dX c)
  | none=>(dK l,0)
def oF(s:aI): aI:=Lib.trimB s 32
def eD(y:UInt8): Bool->aI->aI->List aI
 | _,cur,[]=>[oF cur]
 | true,cur,[c]=>[oF (cur++[c])]
 | true,cur,c::d::r=>if c.toNat=92 then eD y true (cur++[c,d]) r else eD y (decide (c.toNat≠34)) (cur++[c]) (d::r)
 | false,cur,c::r=>if c=y then oF cur::eD y false [] r else eD y (decide (c.toNat=34)) (cur++[c]) r
def fO(s:aI)(y:UInt8): List aI:=eD y false [] s
def cD(c:UInt8): aI->aI × aI × Bool
 | []=>([],[],false)
 | b::r=>if b=c then([],r,true)else (b::(cD c r).1,(cD c r).2.1,(cD c r).2.2)
def pieces: Nat->aI->List aI
 | 0,s=>[s]
 | k+1,s=>if(cD 32 s).2.2=true then(cD 32 s).1::pieces k (cD 32 s).2.1 else [s]
def cn(s:aI)(n:Nat): List aI × aI × Bool :=
 if(pieces n s).length<n then([],[],false)else if(pieces n s).length=n then(pieces n s,[],true)
 else((pieces n s).take n,(pieces n s).getD n [],decide ((pieces n s).getD n []≠[]))
def rY(s:aI): ez :=
 if(bN s).2.2≠0\/(bN s).1.length<1\/2<(bN s).1.length then v0
 else if((bN s).1.getD ((bN s).1.length-1) default).kind=3 then⟨2,0,((bN s).1.getD ((bN s).1.length-1) default).s⟩
 else if((bN s).1.getD ((bN s).1.length-1) default).kind=2 then⟨1,if(bN s).1.length=2 then -((bN s).1.getD ((bN s).1.length-1) default).n else((bN s).1.getD ((bN s).1.length-1) default).n,[]⟩
 else if((bN s).1.getD ((bN s).1.length-1) default).s=pD then⟨3,1,[]⟩
 else if((bN s).1.getD ((bN s).1.length-1) default).s=mY then⟨3,0,[]⟩else v0
def xD(s:aI): Bool:=if(bN s).2.2≠0\/(bN s).1.length<1\/2<(bN s).1.length then false else decide (dO (rY s)=s)
def gk(s:aI): Int × Bool:=match Lib.atoiAll s with
 | .ok n=>if Lib.itoa n=s then(n,true)else (0,false)
 | _=>(0,false)
def rA(s:aI): ez:=if(gk s).2=true then⟨1,(gk s).1,[]⟩else v0
def uV(s:aI): Bool:=xD s ||(gk s).2
def pg(s:aI): ez:=if xD s=true then rY s else rA s
def kO(s:aI): List ez × Bool:=if(fO s 44).all uV=true then((fO s 44).map pg,decide (lW ((fO s 44).map pg)=s))else ([],false)
def kJ(k:Int)(s:aI): ef × Bool :=
 if(cn s 3).2.2=false\/k=3/\(cn s 3).2.1≠[]then (eV,false)
 else if(gk ((cn s 3).1.getD 2 [])).2=true/\(cn s 3).2.1≠[]then ({ eV with kind:=k,name:=(cn s 3).1.getD 1 [],ver:=(gk ((cn s 3).1.getD 2 [])).1,row:=(kO (cn s 3).2.1).1 },(kO (cn s 3).2.1).2)
 else({ eV with kind:=k,name:=(cn s 3).1.getD 1 [],ver:=(gk ((cn s 3).1.getD 2 [])).1 },(gk ((cn s 3).1.getD 2 [])).2)
def j3(k:Int)(s:aI)(n:Nat): ef × Bool :=
 if(cn s (n+1)).2.2=false\/(cn s (n+1)).2.1≠[]then (eV,false)
 else if(gk ((cn s (n+1)).1.getD 1 [])).2=true/\n=2 then({ eV with kind:=k,jF:=(gk ((cn s (n+1)).1.getD 1 [])).1,l9:=(gk ((cn s (n+1)).1.getD 2 [])).1 },(gk ((cn s (n+1)).1.getD 2 [])).2)
 else({ eV with kind:=k,jF:=(gk ((cn s (n+1)).1.getD 1 [])).1 },(gk ((cn s (n+1)).1.getD 1 [])).2)
def lJ(s:aI): ef × Bool :=
 if(cD 32 s).1=iW then kJ 2 s else if(cD 32 s).1=jX then kJ 3 s
 else if(cD 32 s).1=qO then j3 5 s 2 else if(cD 32 s).1=jz then j3 6 s 1
 else if s=TN then({ eV with kind:=4 },true)else if s=OI then({ eV with kind:=7 },true)
 else if s=TO then({ eV with kind:=8 },true)else if s=TP then({ eV with kind:=9 },true)else (eV,false)
def kT(s:aI): cV × Bool :=
 if(cn s 3).2.2=false then(⟨[],0,[]⟩,false)
 else if(cn s 3).2.1≠[]then (⟨(cn s 3).1.getD 1 [],fI (fun x=>x==(cn s 3).1.getD 2 []) pY,(kO (cn s 3).2.1).1⟩,(kO (cn s 3).2.1).2 && decide (0<fI (fun x=>x==(cn s 3).1.getD 2 []) pY))
 else(⟨(cn s 3).1.getD 1 [],fI (fun x=>x==(cn s 3).1.getD 2 []) pY,[]⟩,decide (0<fI (fun x=>x==(cn s 3).1.getD 2 []) pY))
def ld(s:aI): eL × Bool :=
 if(cn s 1).2.2=false\/(fO (cn s 1).2.1 58).length≠2 then(⟨[],[]⟩,false)
 else(⟨fO ((fO (cn s 1).2.1 58).getD 0 []) 124,fO ((fO (cn s 1).2.1 58).getD 1 []) 124⟩,true)
def ju(t:Table): Table:=if t.outs.length=0 then { t with outs:=[⟨[111],1,if t.aL=3 then [⟨1,0,[]⟩]else []⟩] }else t
def ei(t:Table): Bool :=
 if t.ins.length=0 then decide (t.agg=0) || decide (t.aL=5)
 else decide ((fB (ju t)).2.2.2=0) && iF (fB (ju t)).1 (ju t) && decide ((j0 (fB (ju t)).1).2=0)
def kH(t:Table)(s:aI): Bool:=decide ((eT t).getD ((eT t).length-1) []=s)
structure fV where
 out:List ef
 now:Int
 t:Table
deriving Inhabited
def gu(r:fV)(s:aI): fV × Bool :=
 if(cn s 4).2.2=false\/(cn s 4).2.1≠[]\/fh ((cn s 4).1.getD 1 [])=false then(r,false)
 else(⟨r.out,1,⟨(cn s 4).1.getD 1 [],[],[],fI (fun x=>x==(cn s 4).1.getD 2 []) rW,fI (fun x=>x==(cn s 4).1.getD 3 []) oE,[]⟩⟩,
  decide (0<fI (fun x=>x==(cn s 4).1.getD 2 []) rW) && decide (0<=fI (fun x=>x==(cn s 4).1.getD 3 []) oE))
def mE(r:fV)(s:aI): fV:=⟨r.out,2,{ r.t with ins:=r.t.ins++[(kT s).1] }⟩
def lN(r:fV)(s:aI): fV:=⟨r.out,3,{ r.t with outs:=r.t.outs++[(kT s).1] }⟩
def kz(r:fV)(s:aI): fV:=⟨r.out,4,{ r.t with rules:=r.t.rules++[(ld s).1] }⟩
def jH(r:fV)(s:aI): fV × Bool :=
 if(cD 32 s).1=EW/\r.now<=2 then(mE r s,(kT s).2 && ei (mE r s).t && kH (mE r s).t s)
 else if(cD 32 s).1=uE/\(r.now=2\/r.now=3)then (lN r s,(kT s).2 && ei (lN r s).t && kH (lN r s).t s)
 else if(cD 32 s).1=tM/\3<=r.now then(kz r s,(ld s).2 && ei (kz r s).t && kH (kz r s).t s)
 else if s=mI/\3<=r.now then(⟨r.out++[{ eV with kind:=1,table:=r.t }],0,r.t⟩,true)else (r,false)
def eu(r:fV)(s:aI): fV × Bool :=
 if r.now≠0 then jH r s else if r.out.length=64 then(r,false)
 else if tN.isPrefixOf s=true then((gu r s).1,(gu r s).2 && ei (gu r s).1.t && decide (jt (gu r s).1.t=s))
 else if(lJ s).2=false\/dX (lJ s).1≠0\/(cC (lJ s).1).getD 0 []≠s then(r,false)
 else(⟨r.out++[(lJ s).1],r.now,r.t⟩,true)
def hY: Nat->fV->aI->Int->fV × aI × Int
 | 0,r,s,n=>(r,s,n)
 | f + 1, r, s, n => if s = [] then (r, s, n) else if (cD 10 s).2.2 = false then (r, s, n)
   else if(eu r (cD 10 s).1).2=false then((eu r (cD 10 s).1).1,s,n)else hY f (eu r (cD 10 s).1).1 (cD 10 s).2.1 (n+1)
def qQ: fV:=⟨[],0,iD⟩
def iE(s:aI): List ef × Int × Int :=
 if 65536<s.length then([],0,5)
 else if(hY s.length qQ s 1).2.1≠[]\/(hY s.length qQ s 1).1.now≠0 then([],(hY s.length qQ s 1).2.2,4)else ((hY s.length qQ s 1).1.out,0,0)
def wE(l:List ef)(c:ef): dK (l++[c])=dK l++cP (cC c):=by simp[dK]
def wF(l:List aI)(s:aI): cP (l++[s])=cP l++(s++[10]):=by simp[cP]
def HU{c:ef}(h:c.kind≠1): ∃ w,cC c=[w]:=by
 unfold cC;rw[if_neg h];repeat' split
 all_goals exact⟨_,rfl⟩
def HV(k:Int)(s:aI): (kJ k s).1.kind=0\/(kJ k s).1.kind=k:=by
 unfold kJ;repeat' split
 all_goals first|exact .inl rfl|exact .inr rfl
def EY(k:Int)(s:aI)(n:Nat): (j3 k s n).1.kind=0\/(j3 k s n).1.kind=k:=by
 unfold j3;repeat' split
 all_goals first|exact .inl rfl|exact .inr rfl
def YL(s:aI): (lJ s).1.kind≠1:=by
 have a:=HV 2 s;have b:=HV 3 s;have c:=EY 5 s 2;have d:=EY 6 s 1;unfold lJ;repeat' split
 all_goals first|omega|(simp[eV];done)
def Gb{t:Table}(h1:t.outs=[])(h2:t.rules=[])(c:cV): eT { t with ins:=t.ins++[c] }=eT t++[kx c]:=by
 simp[eT,jt,h1,h2]
def Dn{t:Table}(h2:t.rules=[])(c:cV): eT { t with outs:=t.outs++[c] }=eT t++[iM c]:=by
 simp[eT,jt,h2]
def A5(t:Table)(x:eL): eT { t with rules:=t.rules++[x] }=eT t++[eW x]:=by
 simp[eT,jt]
def Dp{t u:Table}{w s:aI}(h:eT u=eT t++[w])(hl:kH u s=true): w=s:=by
 unfold kH at hl;rw[h]at hl;simpa using hl
def OJ{t:Table}(hi:t.ins≠[])(ho:t.outs≠[])(h:ei t=true): (j0 t).2=0:=by
 unfold ei at h;have hi':t.ins.length≠0:=fun e=>hi (List.length_eq_zero_iff.1 e);have ho':t.outs.length≠0:=fun e=>ho (List.length_eq_zero_iff.1 e);have hf:ju t=t:=by unfold ju;rw[if_neg ho']
 rw[if_neg hi',hf]at h;simp only[aq,decide_eq_true_eq]at h;rw[tK h.1.2]at h;exact h.2
def My{t:Table}(h:(j0 t).2=0): dX { eV with kind:=1,table:=t }=0:=by
 unfold dX;rw[if_neg (by simp[h]),if_pos];refine⟨by simp,by simp,by simp[tL,eV],fun h=>by simp at h,by simp[eV,oS],by simp[eV,oS],by simp[eV],by simp[eV]⟩
structure Inv (r:fV) (u:aI):Prop where
 Lr:∀ c ∈ r.out,dX c=0
 len:r.out.length<=64
 oG:r.now=0->u=dK r.out
 adf:r.now≠0->u=dK r.out++cP (eT r.t)/\r.out.length<64/\1<=r.now/\r.now<=4
 p1:2<=r.now->r.t.ins≠[]
 p2:r.now≠0->r.now<=2->r.t.outs=[]
 p3:r.now≠0->r.now<=3->r.t.rules=[]
 p4:3<=r.now->r.t.outs≠[]/\ei r.t=true
def YM: Inv qQ []:=⟨fun c hc=>(by cases hc),by decide,fun _=>rfl,fun h=>absurd rfl h,fun h=>absurd h (by decide),fun h=>absurd rfl h,fun h=>absurd rfl h,fun h=>absurd h (by decide)⟩
def TQ{r:fV}{u s:aI}(h:Inv r u)(hn:r.now≠0)(hb:(jH r s).2=true): Inv (jH r s).1 (u++(s++[10])):=by
 obtain⟨e1,e2,e3,e4⟩:=h.adf hn;unfold jH at hb ⊢;split at hb
 ·rename_i c;rw[if_pos c];simp only[aq]at hb;have h2:=h.p2 hn c.2;have h3:=h.p3 hn (by omega);have hw:=Dp (Gb h2 h3 (kT s).1) hb.2;refine⟨h.Lr,h.len,fun h=>by simp[mE]at h,fun _=>⟨?_,e2,by simp[mE],by simp[mE]⟩,fun _=>by simp[mE],fun _ _=>h2,fun _ _=>h3,fun h=>by simp[mE]at h⟩;show _=dK r.out++cP (eT { r.t with ins:=r.t.ins++[(kT s).1] });rw[Gb h2 h3,wF,hw,e1,bx]
 split at hb
 ·rename_i c0 c;rw[if_neg c0,if_pos c];simp only[aq]at hb;have h3:=h.p3 hn (by omega);have h1:=h.p1 (by omega);have hw:=Dp (Dn h3 (kT s).1) hb.2;refine⟨h.Lr,h.len,fun h=>by simp[lN]at h,fun _=>⟨?_,e2,by simp[lN],by simp[lN]⟩,fun _=>h1,fun _ h=>by simp[lN]at h,fun _ _=>h3,fun _=>⟨by simp[lN],hb.1.2⟩⟩;show _=dK r.out++cP (eT { r.t with outs:=r.t.outs++[(kT s).1] });rw[Dn h3,wF,hw,e1,bx]
 split at hb
 ·rename_i c0 c1 c;rw[if_neg c0,if_neg c1,if_pos c];simp only[aq]at hb;have h1:=h.p1 (by omega);have h4:=h.p4 (by omega);have hw:=Dp (A5 r.t (ld s).1) hb.2;refine⟨h.Lr,h.len,fun h=>by simp[kz]at h,fun _=>⟨?_,e2,by simp[kz],by simp[kz]⟩,fun _=>h1,fun _ h=>by simp[kz]at h,fun _ h=>by simp[kz]at h,fun _=>⟨h4.1,hb.1.2⟩⟩;show _=dK r.out++cP (eT { r.t with rules:=r.t.rules++[(ld s).1] });rw[A5,wF,hw,e1,bx]
 split at hb
 ·rename_i c0 c1 c2 c;rw[if_neg c0,if_neg c1,if_neg c2,if_pos c];have h1:=h.p1 (by omega);have h4:=h.p4 (by omega);have HF:=My (OJ h1 h4.1 h4.2);refine⟨fun x hx=>?_,by simp;omega,fun _=>?_,fun h=>absurd rfl h,fun h=>absurd h (by simp),fun h=>absurd rfl h,fun h=>absurd rfl h,fun h=>absurd h (by simp)⟩
  ·rcases List.mem_append.1 hx with hx|hx
   ·exact h.Lr x hx
   ·rw[bR.1 hx];exact HF
  ·show _=dK (r.out++[{ eV with kind:=1,table:=r.t }]);have hl:cC { eV with kind:=1,table:=r.t }=eT r.t++[s]:=by unfold cC;rw[if_pos rfl,c.1];rfl
   rw[wE,hl,wF,e1,bx]
 ·cases hb
def Gc{r:fV}{u s:aI}(h:Inv r u)(hb:(eu r s).2=true): Inv (eu r s).1 (u++(s++[10])):=by
 unfold eu at hb ⊢;split at hb
 ·rename_i hn;rw[if_pos hn];exact TQ h hn hb
 rename_i hn;have hn:r.now=0:=Classical.not_not.1 hn;have hu:=h.oG hn;rw[if_neg (by omega)];split at hb
 ·cases hb
 rename_i Wx;rw[if_neg Wx];split at hb
 ·rename_i c;rw[if_pos c];simp only[aq,decide_eq_true_eq]at hb;obtain⟨⟨b1,b2⟩,b3⟩:=hb;unfold gu at b1 b2 b3 ⊢;split at b1
  ·cases b1
  rename_i c2;rw[if_neg c2]at b2 b3 ⊢;have:=h.len;refine⟨h.Lr,h.len,fun h=>by simp at h,fun _=>⟨?_,by dsimp only;omega,by simp,by simp⟩,fun h=>by simp at h,fun _ _=>rfl,fun _ _=>rfl,fun h=>by simp at h⟩;rw[hu];have hx:∀ w:Table,jt w=s->w.ins=[]->w.outs=[]->w.rules=[]->dK r.out++(s++[10])=dK r.out++cP (eT w):=fun w e1 e2 e3 e4=>by simp[eT,cP,e1,e2,e3,e4]
  exact hx _ b3 rfl rfl rfl
 ·rename_i c;rw[if_neg c];split at hb
  ·cases hb
  rename_i c2;rw[if_neg c2];simp only[not_or,Bool.not_eq_false,Classical.not_not]at c2;obtain⟨k1,k2,k3⟩:=c2;have:=h.len;obtain⟨w,hw⟩:=HU (YL s);rw[hw]at k3;have k3:w=s:=k3;refine⟨fun x hx=>?_,by simp;omega,fun _=>?_,fun h=>absurd hn h,fun h=>?_,fun h=>absurd hn h,fun h=>absurd hn h,fun h=>?_⟩
  ·rcases List.mem_append.1 hx with hx|hx
   ·exact h.Lr x hx
   ·rw[bR.1 hx];exact k2
  ·show _=dK (r.out++[(lJ s).1]);rw[wE,hw,hu,k3];simp[cP]
  ·have h:2<=r.now:=h;omega
  ·have h:3<=r.now:=h;omega
def OL(c:UInt8)(s:aI): (cD c s).2.2=true->s=(cD c s).1++(c::(cD c s).2.1):=by
 induction s with
 | nil=>intro h;cases h
 | cons b s ih =>
   intro h;rw[cD]at h ⊢;split at h
   ·rename_i e;rw[if_pos e,e];rfl
   ·rename_i e;rw[if_neg e];exact congrArg (b:: ·) (ih h)
def Wy(c:UInt8)(s:aI): ∀ x ∈ (cD c s).1,x≠c:=by
 induction s with
 | nil=>intro x h;cases h
 | cons b s ih =>
   intro x h;rw[cD]at h;split at h
   ·cases h
   ·rename_i e;rcases List.mem_cons.1 h with rfl|h
    ·exact e
    ·exact ih x h
def nJ(s:aI): Nat:=s.countP (fun c=>decide (c.toNat=10))
def adg{s:aI}(h:(cD 10 s).2.2=true): nJ s=nJ (cD 10 s).2.1+1:=by
 have e:=OL 10 s h;have f:=Wy 10 s
 have z:nJ (cD 10 s).1=0:=by
  unfold nJ;rw[List.countP_eq_zero];intro a ha hh;exact f a ha (UInt8.toNat_inj.1 (by simpa using hh))
 conv=>lhs;rw[e]
 unfold nJ at z ⊢;rw[List.countP_append,z,List.countP_cons];simp
def YN: ∀(f:Nat) (r:fV) (s u:aI) (n:Int),s.length<=f->Inv r u->(∃ v,u++s=v++(hY f r s n).2.1/\((hY f r s n).2.1=[]->Inv (hY f r s n).1 v))/\n<=(hY f r s n).2.2/\(hY f r s n).2.2<=n+nJ s:=by
 intro f
 induction f with
 | zero =>
   intro r s u n hf hi;have:s=[]:=List.length_eq_zero_iff.1 (by omega);subst this;exact⟨⟨u,rfl,fun _=>hi⟩,Int.le_refl _,by simp[hY,nJ]⟩
 | succ f ih =>
   intro r s u n hf hi;rw[hY];split
   ·rename_i h;subst h;exact⟨⟨u,rfl,fun _=>hi⟩,Int.le_refl _,by dsimp only;omega⟩
   rename_i hs;split
   ·exact⟨⟨u,rfl,fun h=>absurd h hs⟩,Int.le_refl _,by dsimp only;omega⟩
   rename_i hc;rw[Bool.not_eq_false]at hc;split
   ·exact⟨⟨u,rfl,fun h=>absurd h hs⟩,Int.le_refl _,by dsimp only;omega⟩
   rename_i hl;rw[Bool.not_eq_false]at hl;have e:=OL 10 s hc;have hlen:=congrArg List.length e;simp only[aA,List.length_cons]at hlen;obtain⟨⟨v,v1,v2⟩,w1,w2⟩:=ih _ (cD 10 s).2.1 (u++((cD 10 s).1++[10])) (n+1) (by omega) (Gc hi hl);refine⟨⟨v,?_,v2⟩,by omega,?_⟩
   ·rw[<-v1];conv=>lhs;rw[e]
    simp
   ·have:=adg hc;omega
def A6{l:List ef}(hl:l.length<=64)(h:∀ c ∈ l,dX c=0): kG l=(dK l,0):=by
 unfold kG;rw[if_neg (by omega)]
 have:l.find? (fun c=>dX c != 0)=none:=by
  rw[dA];intro c hc;simp[h c hc]
 rw[this]
def TR(s:aI)(hs:s.length<=65536): ((iE s).2.2=0/\(iE s).2.1=0/\kG (iE s).1=(s,0))\/((iE s).2.2=4/\(iE s).1=[]/\1<=(iE s).2.1/\(iE s).2.1<=nJ s+1):=by
 obtain⟨⟨v,v1,v2⟩,w1,w2⟩:=YN s.length qQ s [] 1 (Nat.le_refl _) YM;unfold iE;rw[if_neg (by omega)];split
 ·exact .inr ⟨rfl,rfl,w1,by dsimp only;omega⟩
 ·rename_i h;simp only[not_or,Classical.not_not]at h;have hi:=v2 h.1;rw[h.1,bY,cS]at v1;refine .inl ⟨rfl,rfl,?_⟩;rw[A6 hi.len hi.Lr,<-hi.oG h.2,<-v1]
def Qt(y:UInt8)(s:aI): Prop:= ∀ cur r,eD y false cur (s++r)=eD y false (cur++s) r
def Qt.nil(y:UInt8): Qt y []:=fun cur r=>by simp
def Qt.app{y:UInt8}{a b:aI}(ha:Qt y a)(hb:Qt y b): Qt y (a++b):=fun cur r=>by
 rw[bx,ha,hb,bx]
def HX{y c:UInt8}(cur r:aI)(h:c≠y): eD y false cur (c::r)=eD y (decide (c.toNat=34)) (cur++[c]) r:=by
 rw[eD,if_neg h]
def Wz(y:UInt8)(cur r:aI): eD y false cur (y::r)=oF cur::eD y false [] r:=by
 rw[eD,if_pos rfl]
def Qt.plain{y:UInt8}: ∀ {s:aI},(∀ c ∈ s,c≠y/\c.toNat≠34)->Qt y s
 | [],_=>Qt.nil y
 | c :: s, h => fun cur r => by
   have h1:=h c (by simp);rw[bD,HX _ _ h1.1,decide_eq_false h1.2,Qt.plain (fun d hd=>h d (by simp[hd]))];simp
def YO{y:UInt8}(r:aI): ∀(s cur:aI),eD y true cur (s.flatMap fN++(34::r))=eD y false (cur++(s.flatMap fN++[34])) r:=by
 intro s
 induction s with
 | nil =>
   intro cur;cases r with
   | nil=>simp[eD]
   | cons d r =>
     rw[fG,cS,cS,eD,if_neg (by decide)];rfl
 | cons c s ih =>
   intro cur;rw[dw];unfold fN;split
   ·rw[bx,bD,bD,cS,eD,if_pos (by decide)];have:=ih (cur++[92,c]);unfold fN at this;rw[this];simp
   ·rename_i h
    have e:∃ d q,s.flatMap fN++(34::r)=d::q:=by
     cases hq:s.flatMap fN++(34::r)with
     | nil=>simp at hq
     | cons d q=>exact⟨d,q,rfl⟩
    obtain⟨d,q,hq⟩:=e;have:=ih (cur++[c]);rw[hq]at this;unfold fN at hq this;rw[bx,bD,cS,hq,eD,if_neg (by omega),decide_eq_true (by omega),this];simp
def Qt.quote{y:UInt8}(hy:y.toNat≠34)(s:aI): Qt y (ji s):=fun cur r=>by
 unfold ji;rw[bD,bx,HX _ _ (fun e=>hy (by rw[<-e];rfl)),decide_eq_true (by rfl)];rw[fx,YO];simp
structure Ok (y:UInt8) (s:aI):Prop where
 q:Qt y s
 ne:s≠[]
 hd:s.head?≠some 32
 lt:s.getLast?≠some 32
 nl:∀ c ∈ s,c.toNat≠10
def EZ(y:UInt8)(s:aI): Prop:= ∀ c ∈ s,c≠y/\c.toNat≠34/\c.toNat≠10
def EZ.q{y:UInt8}{s:aI}(h:EZ y s): Qt y s:=Qt.plain fun c hc=>⟨(h c hc).1,(h c hc).2.1⟩
def OM{a b:aI}(h:a≠[]): (a++b).head? = a.head?:=by
 cases a with
 | nil=>exact absurd rfl h
 | cons c a=>rfl
def xE{a b:aI}(h:b≠[]): (a++b).getLast? = b.getLast?:=by
 rw[List.getLast?_append];cases hb:b.getLast? with
 | none=>exact absurd (List.getLast?_eq_none_iff.1 hb) h
 | some c=>rfl
def Ok.mid{y:UInt8}{a m b:aI}(ha:Ok y a)(hm:EZ y m)(hb:Ok y b): Ok y (a++(m++b)) :=
 ⟨ha.q.app (hm.q.app hb.q), by simp [ha.ne], by rw [OM ha.ne]; exact ha.hd, by rw [xE (by simp [hb.ne]), xE hb.ne]; exact hb.lt,
   fun c hc=>by
    simp only[iz]at hc;rcases hc with h|h|h
    ·exact ha.nl c h
    ·exact(hm c h).2.2
    ·exact hb.nl c h⟩
def Ok.pre{y:UInt8}{m b:aI}(hm:EZ y m)(h:m.head?≠some 32)(hb:Ok y b): Ok y (m++b) :=
 ⟨hm.q.app hb.q, by simp [hb.ne], by
   cases m with
   | nil=>exact hb.hd
   | cons c m => exact h, by rw [xE hb.ne]; exact hb.lt, fun c hc => by
     rcases List.mem_append.1 hc with h|h
     ·exact(hm c h).2.2
     ·exact hb.nl c h⟩
def Ok.post{y:UInt8}{a m:aI}(ha:Ok y a)(hm:EZ y m)(h:m.getLast?≠some 32): Ok y (a++m) :=
 ⟨ha.q.app hm.q, by simp [ha.ne], by rw [OM ha.ne]; exact ha.hd, by
   cases hq:m with
   | nil=>rw[bY];exact ha.lt
   | cons c q => rw [<-hq, xE (by simp [hq])]; exact h, fun c hc => by
     rcases List.mem_append.1 hc with h|h
     ·exact ha.nl c h
     ·exact(hm c h).2.2⟩
def Ok.plain{y:UInt8}{s:aI}(hm:EZ y s)(hs:s≠[])(EP:∀ c ∈ s,c.toNat≠32): Ok y s :=
 ⟨hm.q,hs,fun e=>EP 32 (List.mem_of_head? e) rfl,fun e=>EP 32 (List.mem_of_getLast? e) rfl,fun c hc=>(hm c hc).2.2⟩
def xF(y:UInt8): Prop:=y=44\/y=58\/y=124
def xF.n{y:UInt8}(h:xF y): y.toNat=44\/y.toNat=58\/y.toNat=124:=by
 rcases h with rfl|rfl|rfl
 ·exact .inl rfl
 ·exact .inr (.inl rfl)
 ·exact .inr (.inr rfl)
def zJ{y c:UInt8}(hy:xF y)(h:pC c=true): c≠y/\c.toNat≠34/\c.toNat≠10/\c.toNat≠32:=by
 have:=hy.n;simp only[pC,mK,ep,dm,aq,decide_eq_true_eq]at h;refine⟨fun e=>?_,by omega,by omega,by omega⟩;subst e;omega
def Ok.word{y:UInt8}(hy:xF y){s:aI}(hs:s≠[])(h:∀ c ∈ s,pC c=true): Ok y s :=
 Ok.plain (fun c hc=>let k:=zJ hy (h c hc);⟨k.1,k.2.1,k.2.2.1⟩) hs (fun c hc=>(zJ hy (h c hc)).2.2.2)
def Ok.itoa{y:UInt8}(hy:xF y)(n:Int): Ok y (Lib.itoa n):=by
 have hn:=hy.n
 have hd:∀ u,∀ c ∈ Lib.decDigits u,pC c=true:=fun u c hc=>by
  have:=(qy u).2.1 c hc;simp[pC,this]
 unfold Lib.itoa;split
 ·refine Ok.plain (fun c hc=>?_) (by simp) (fun c hc=>?_)
  ·rcases List.mem_cons.1 hc with rfl|h
   ·exact⟨fun e=>by subst e;revert hn;decide,by decide,by decide⟩
   ·have k:=zJ hy (hd _ c h);exact⟨k.1,k.2.1,k.2.2.1⟩
  ·rcases List.mem_cons.1 hc with rfl|h
   ·decide
   ·exact(zJ hy (hd _ c h)).2.2.2
 ·exact Ok.word hy (qy _).1 (hd _)
def Ok.quote{y:UInt8}(hy:xF y){s:aI}(h:gK s=true): Ok y (ji s):=by
 have hn:=hy.n;simp only[gK,aq,decide_eq_true_eq,aX]at h;refine⟨Qt.quote (by omega) s,by simp[ji],by simp[ji],?_,fun c hc=>?_⟩
 ·have e:ji s=(34::s.flatMap fN)++[34]:=by simp[ji]
  rw[e,xE (by simp)];decide
 ·simp only[ji,List.mem_cons,iz,List.mem_flatMap,List.not_mem_nil,or_false]at hc;rcases hc with rfl|⟨d,hd,hc⟩|rfl
  ·decide
  ·have hp:=h.2 d hd;simp only[jY,aq,decide_eq_true_eq]at hp;unfold fN at hc;split at hc
   ·simp only[List.mem_cons,List.not_mem_nil,or_false]at hc;rcases hc with rfl|rfl
    ·decide
    ·omega
   ·simp only[List.mem_cons,List.not_mem_nil,or_false]at hc;subst hc;omega
  ·decide
def Ok.val{y:UInt8}(hy:xF y){v:ez}(h:bZ v=true): Ok y (dO v):=by
 unfold dO;unfold bZ at h;by_cases h1:v.kind=1
 ·rw[if_pos h1];exact Ok.itoa hy _
 by_cases h2:v.kind=2
 ·rw[if_neg h1,if_pos h2];rw[if_neg (by omega),if_neg h1,if_pos h2]at h;simp only[aq]at h;exact Ok.quote hy h.2
 rw[if_neg h1,if_neg h2];repeat' split
 all_goals exact Ok.word hy (by decide) (by decide)
def Ok.paren{y:UInt8}(hy:xF y){w:aI}(h:Ok y w)(n lvl:Int): Ok y (ku (n,w) lvl):=by
 unfold ku;dsimp only;split
 ·have m1 : EZ y [40] := fun c hc => by
   obtain rfl:=bR.1 hc;exact⟨fun e=>by subst e;revert hy;unfold xF;decide,by decide,by decide⟩
  have m2:EZ y [41]:=fun c hc=>by
   obtain rfl:=bR.1 hc;exact⟨fun e=>by subst e;revert hy;unfold xF;decide,by decide,by decide⟩
  exact Ok.pre m1 (by decide) (h.post m2 (by decide))
 ·exact h
def ON(s:aI): Bool:=s.all fun c=> !(c==58) && !(c==124) && !(c==34) && !(c==10)
def n9{y:UInt8}(hy:y=58\/y=124){s:aI}(h:ON s=true): EZ y s:=fun c hc=>by
 have k:=aX.1 h c hc;simp only[aq,cF,beq_eq_false_iff_ne]at k;refine⟨fun e=>?_,fun e=>k.1.2 (UInt8.toNat_inj.1 e),fun e=>k.2 (UInt8.toNat_inj.1 e)⟩;rcases hy with rfl|rfl
 ·exact k.1.1.1 e
 ·exact k.1.1.2 e
def YP: ∀ b ∈ jM,ON ([32]++b.sign++[32])=true:=by decide
def JO{y:UInt8}(hy:y=58\/y=124)(x:Expr): di x=true->Ok y (dN x):=by
 have hc:xF y:= .inr hy
 induction x using Expr.ind with
 | h op v s l ih =>
   intro hr;have key:∀ z ∈ l,di z=true-> ∀ lvl,Ok y (ku (eC z.op,dN z) lvl):=fun z hz hrz lvl=>Ok.paren hc (ih z hz hrz) _ _;rcases rm hr with⟨rfl,rfl,rfl,h1,h2⟩|⟨rfl,rfl,rfl,h1⟩|⟨rfl,rfl,rfl,a,rfl,ha⟩|⟨rfl,rfl,rfl,a,b,c,rfl,ha,hb,gy⟩|⟨o1,o2,rfl,rfl,_,_,_,_,hmem,a,b,rfl,ha,hb⟩
   ·simp only[dN,nN,if_true];exact Ok.val hc h1
   ·simp only[dN,nN,if_true];rw[if_neg (by decide)];simp only[fh,aq,decide_eq_true_eq]at h1;exact Ok.word hc h1.1.1.1 (yx h1.1.1.1 h1.1.1.2).2
   ·have k1:=key a (by simp) ha 6;simp only[dN,nN,pU];rw[if_neg (by decide),if_neg (by decide),if_pos trivial];exact Ok.pre (m:=[45]) (n9 hy (by decide)) (by decide) k1
   ·have k1:=key a (by simp) ha 0;have k2:=key b (by simp) hb 0;have k3:=key c (by simp) gy 0;simp only[dN,nN,pU];rw[if_neg (by decide),if_neg (by decide),if_neg (by decide),if_pos trivial];simp only[aV,cq];have:=Ok.pre (m:=qK) (n9 hy (by decide)) (by decide) (k1.mid (m:=oQ) (n9 hy (by decide)) (k2.mid (m:=vq) (n9 hy (by decide)) k3));simpa using this
   ·have k1:=key a (by simp) ha (if(dJ op).level=3 then 4 else(dJ op).level);have k2:=key b (by simp) hb ((dJ op).level+1)
    have w1:dN (.mk op v0 [] [a,b])=ku (eC a.op,dN a) (if(dJ op).level=3 then 4 else(dJ op).level)++(([32]++(dJ op).sign++[32])++ku (eC b.op,dN b) ((dJ op).level+1)):=by
     simp only[dN,pU,nN];rw[if_neg (by omega),if_neg (by omega),if_neg (by omega),if_neg (by omega)];simp
    rw[w1];exact k1.mid (n9 hy (YP _ hmem)) k2
def MJ{y:UInt8}(hy:y=58\/y=124){x:Expr}(h:di x=true)(lvl:Int): Ok y (kA x lvl):=Ok.paren (.inr hy) (JO hy x h) _ _
def RE{y:UInt8}(hy:y=58\/y=124){t:Test}(h:kW t=true): Ok y (testW t):=by
 unfold testW;rcases Oz h with⟨h6,ha,hb⟩|⟨l1,l2,ha,_⟩
 ·rw[if_neg (by omega),if_pos h6];have m1:ON (Lb t)=true/\(Lb t).head?≠some 32:=by unfold Lb;split<;>decide
  have m2:ON (Ld t)=true/\(Ld t).getLast?≠some 32:=by unfold Ld;split<;>decide
  have:=Ok.pre (n9 hy m1.1) m1.2 ((MJ hy ha 4).mid (m:=[46,46]) (n9 hy (by decide)) ((MJ hy hb 4).post (n9 hy m2.1) m2.2));simpa using this
 ·by_cases h1:t.kind=1
  ·rw[if_pos h1];exact MJ hy ha 4
  ·rw[if_neg h1,if_neg (by omega)]
   have m1:ON (kF t.kind++[32])=true/\(kF t.kind++[32]).head?≠some 32:=by
    rcases(by omega:t.kind=2\/t.kind=3\/t.kind=4\/t.kind=5)with e|e|e|e<;>(rw[e];decide)
   exact Ok.pre (n9 hy m1.1) m1.2 (MJ hy ha 4)
def YQ{y:UInt8}(hy:y=58\/y=124){w:aI}(hw:Ok y w): ∀(l:List Test),(∀ t ∈ l,kW t=true)->Ok y (w++HP l):=by
 intro l
 induction l generalizing w with
 | nil=>intro _;simpa[HP]using hw
 | cons t l ih =>
   intro h;have:=ih (hw.mid (m:=lU) (n9 hy (by decide)) (RE hy (h t (by simp)))) (fun u hu=>h u (bI _ hu));simpa[HP]using this
def RF{y:UInt8}(hy:y=58\/y=124){c:Cell}(h0:(uU c).2=0): Ok y (uU c).1:=by
 have hr:lK c=true:=by
  cases hq:lK c with
  | true=>rfl
  | false=>unfold uU at h0;rw[if_pos hq]at h0;exact absurd h0 (by decide)
 unfold uU at h0 ⊢;rw[if_neg (by rw[hr];decide)]at h0 ⊢;split
 ·exact Ok.plain (n9 hy (by decide)) (by decide) (by decide)
 rename_i ha;rw[if_neg ha]at h0;split
 ·rename_i hb;rw[if_pos hb]at h0;exact absurd h0 (by decide)
 rename_i hb;rw[if_neg hb]at h0;split
 ·rename_i hl;rw[if_pos hl]at h0;exact absurd h0 (by decide)
 unfold lK at hr;rw[if_neg ha]at hr;simp only[aq,decide_eq_true_eq,cF,gE]at hr;obtain⟨⟨l1,l2⟩,hs⟩:=hr;have hs:∀ t ∈ c.tests,kW t=true:=fun t ht=>by have:=hs t ht;simpa using this
 obtain⟨t,l,hl⟩:∃ t l,c.tests=t::l:=by
  cases hq:c.tests with
  | nil=>rw[hq]at l1;simp at l1
  | cons t l=>exact⟨t,l,rfl⟩
 rw[hl,TD];rw[hl]at hs;have k:=YQ hy (RE hy (hs t (by simp))) l (fun u hu=>hs u (bI _ hu));dsimp only;unfold F4;split
 ·have:=Ok.pre (m:=[110,111,116,40]) (n9 hy (by decide)) (by decide) (k.post (m:=[41]) (n9 hy (by decide)) (by decide));simpa using this
 ·exact k
