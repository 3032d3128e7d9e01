/- Part. -/
import Derived.Test.YtcjcnfcedihckaaGreatDoorV23
set_option linter.all false
set_option maxHeartbeats 4000000
namespace Go.Proofs.YtcjcnfcedihckaaGreatDoor
open Go.AM
set_option maxRecDepth 4000
def Qa{σ : ae}: View σ (.agg [.bool false,.bool false,.ai]) (bK c0):=View.om (.cons (.refl _ rfl) (.cons (.refl _ rfl) (.cons (.ai _) (.nil _))))
def J8{σ : ae}: View σ (.agg [.bool true,.bool false,.ai]) (bK xC):=View.om (.cons (.refl _ rfl) (.cons (.refl _ rfl) (.cons (.ai _) (.nil _))))
def aae(T:List Tok)(p:Nat): dW T p false 4 [45]=(rK T p==[45]):=by
 rw[sU T p false [45] (by decide),aS];simp
def RN(s:aG)(hs:s.length<=2 ^ 30): aH aE 231 [.str s] (M4 (fB s)):=by
 have cl:=IU s hs;obtain⟨f1,f2⟩:=kP s;have cm:=BY (aX s).1 0 false;have cr:=TR (aX s).1 (by omega) (fun q=>by have:=f2 q;omega);have hok:=EY (sW s) (by omega);have cc:=zy _ hok;have qH:=P_ (aX s).1;have hd:=aae (aX s).1 0
 have hP:fB s=if(aX s).2.2≠0 then(c0,(aX s).2.1,(aX s).2.2)
  else if(aX s).1.length=1/\dW (aX s).1 0 false 4 [45]=true then(xC,0,0)
  else if(fW (aX s).1).p<(aX s).1.length then(c0,((aX s).1.getD (fW (aX s).1).p default).pos,11)
  else if(fW (aX s).1).bad=true then(c0,(s.length:Int),11)
  else if 12<(fW (aX s).1).ts.length then(c0,0,24)
  else if iX ⟨false,lu (aX s).1,(fW (aX s).1).ts⟩=false then(c0,0,12)
  else(⟨false,lu (aX s).1,(fW (aX s).1).ts⟩,0,0):=rfl
 rw[hP,hd];clear hP f2 hd hok;generalize iX ⟨false,lu (aX s).1,(fW (aX s).1).ts⟩=rb at *;generalize fW (aX s).1=r at *;generalize rK (aX s).1 0=mt at *;generalize lu (aX s).1=n at *;generalize aX s=L at *;obtain⟨T,la,le⟩:=L;obtain⟨rts,rp,RO⟩:=r;dsimp only at *;simp only[M4]at ⊢;simp only[BL,nk]at cl;simp only[bH,Int.cast_ofNat_Int]at cm cr;simp only[bK,eV]at cr cc;have e1:∀ σ : ae,View σ (.agg [.bool false,.bool false,.ai]) (bK c0):=fun σ=>Qa;have e2:∀ σ : ae,View σ (.agg [.bool true,.bool false,.ai]) (bK xC):=fun σ=>J8;have e3:∀ σ : ae,View σ (.agg [.bool false,.bool n,.aF false ES (rts.map bO)]) (bK ⟨false,n,rts⟩):=fun σ=>View.eqv rfl (wN _);by_cases h1:le≠0
 ·rw[if_pos h1];generalize bK c0=E at *;refine aJ kE ?_;intro Q au aA aB;repeat' first|refine aq ?_|refine ak ?_ ?_<;>intro hw<;>try omega|fail
  all_goals exact bG (gX (e1 _))
 rw[if_neg h1];by_cases h2:T.length=1/\(mt==[45])=true
 ·rw[if_pos h2];generalize bK xC=E2 at *;obtain⟨h2,h3⟩:=h2;refine aJ kE ?_;intro Q au aA aB;repeat' first|simp (disch:=omega) only[go_sem,au,aA,aB,h2,h3]|refine aq ?_|refine bw cm ?_|refine ak ?_ ?_<;>intro hw<;>try omega|fail
  all_goals first|exact bG (gX (e2 _))|exact bh
 rw[if_neg h2];by_cases h4:rp<T.length
 ·rw[if_pos h4];generalize bK c0=E at *;refine aJ kE ?_;intro Q au aA aB;repeat' first|refine aq ?_|refine bw cm ?_|refine bw cr ?_|refine ak ?_ ?_<;>intro hw<;>try omega|fail
  all_goals first|exact bG (gX (e1 _))|exact bh
 rw[if_neg h4];by_cases h5:RO=true
 ·rw[if_pos h5];subst h5;generalize bK c0=E at *;refine aJ kE ?_;intro Q au aA aB;repeat' first|refine aq ?_|refine bw cm ?_|refine bw cr ?_|refine ak ?_ ?_<;>intro hw<;>try omega|fail
  all_goals first|exact bG (gX (e1 _))|exact bh
 rw[if_neg h5];obtain rfl:RO=false:=by simpa using h5
 by_cases h6:12<rts.length
 ·rw[if_pos h6];generalize bK c0=E at *;refine aJ kE ?_;intro Q au aA aB;repeat' first|refine aq ?_|refine bw cm ?_|refine bw cr ?_|refine ak ?_ ?_<;>intro hw<;>try omega|fail
  all_goals first|exact bG (gX (e1 _))|exact bh
 rw[if_neg h6];cases rb with
 | false =>
   rw[if_pos rfl];generalize bK c0=E at *;simp only[mw,Bool.false_eq_true,if_false]at cc;refine aJ kE ?_;intro Q au aA aB;repeat' first|refine aq ?_|refine bw cm ?_|refine bw cr ?_|refine ak ?_ ?_<;>intro hw<;>try omega|fail
   all_goals first|exact bG (gX (e1 _))|exact bh
 | true =>
   rw[if_neg (by simp)];generalize bK ⟨false,n,rts⟩=E3 at *;simp only[mw,if_true]at cc;refine aJ kE ?_;intro Q au aA aB;repeat' first|refine aq ?_|refine bw cm ?_|refine bw cr ?_|refine ak ?_ ?_<;>intro hw<;>try omega|fail
   all_goals first|exact bG (gX (e3 _))|exact bh
def j5: cI:=  .seq (.block 2 (.seq (.region [⟨.mv (.t 8),(some 103),none⟩,⟨.kI (.t 103),(some 104),none⟩,⟨.gQ 1 (.t 104),(some 105),none⟩,⟨.load false 1 (.t 105),(some 106),none⟩,⟨.mv (.t 5),(some 107),none⟩,⟨.len false (.t 107),(some 108),none⟩,⟨.bin .lss (.t 106) (.t 108),(some 109),none⟩,⟨.mv (.t 109),(some 102),none⟩])<|
 .cond (.t 102) (.seq (.draw [⟨.build [(.bool false),(.bool false),.ai] [],(some 110),none⟩,⟨.mv (.t 5),(some 111),none⟩,⟨.mv (.t 8),(some 112),none⟩,⟨.kI (.t 112),(some 113),none⟩,⟨.gQ 1 (.t 113),(some 114),none⟩,⟨.load false 1 (.t 114),(some 115),none⟩,⟨.eH ⟨true,4⟩ none (.t 111) (.t 115),(some 116),none⟩,⟨.gQ 3 (.t 116),(some 117),none⟩,⟨.load false 1 (.t 117),(some 118),none⟩,⟨.store 3 (.t 2) (.t 110),none,none⟩,⟨.mv (.t 118),(some 3),none⟩,⟨.mv (.c (.int .i64 11)),(some 4),none⟩] [((.t 114),(.t 2)),((.t 117),(.t 2))])<|
 .ret) (.seq (.region [⟨.mv (.t 8),(some 120),none⟩,⟨.kI (.t 120),(some 121),none⟩,⟨.gQ 2 (.t 121),(some 122),none⟩,⟨.load false 1 (.t 122),(some 123),none⟩,⟨.mv (.t 123),(some 119),none⟩])<|
 .cond (.t 119) (.seq (.region [⟨.build [(.bool false),(.bool false),.ai] [],(some 124),none⟩,⟨.mv (.t 0),(some 125),none⟩,⟨.len true (.t 125),(some 126),none⟩,⟨.store 3 (.t 2) (.t 124),none,none⟩,⟨.mv (.t 126),(some 3),none⟩,⟨.mv (.c (.int .i64 11)),(some 4),none⟩])<|
 .ret) (.seq (.region [⟨.gQ 2 (.t 9),(some 128),none⟩,⟨.load false 1 (.t 128),(some 129),none⟩,⟨.len false (.t 129),(some 130),none⟩,⟨.bin .gtr (.t 130) (.c (.int .i64 12)),(some 131),none⟩,⟨.mv (.t 131),(some 127),none⟩])<|
 .cond (.t 127) (.seq (.region [⟨.build [(.bool false),(.bool false),.ai] [],(some 132),none⟩,⟨.store 3 (.t 2) (.t 132),none,none⟩,⟨.mv (.c (.int .i64 0)),(some 3),none⟩,⟨.mv (.c (.int .i64 24)),(some 4),none⟩])<|
 .ret) (.seq (.region [⟨.load true 3 (.t 9),(some 134),none⟩,⟨.call false (.c (.fn (.func 172) [] [])) [(.t 134)],(some 135),none⟩,⟨.un .not (.t 135),(some 136),none⟩,⟨.mv (.t 136),(some 133),none⟩])<|
 .cond (.t 133) (.seq (.region [⟨.build [(.bool false),(.bool false),.ai] [],(some 137),none⟩,⟨.store 3 (.t 2) (.t 137),none,none⟩,⟨.mv (.c (.int .i64 0)),(some 3),none⟩,⟨.mv (.c (.int .i64 12)),(some 4),none⟩])<|
 .ret) (.skip))))))<|
 .seq (.region [⟨.load true 3 (.t 9),(some 138),none⟩,⟨.store 3 (.t 2) (.t 138),none,none⟩,⟨.mv (.c (.int .i64 0)),(some 3),none⟩,⟨.mv (.c (.int .i64 0)),(some 4),none⟩])<|
 .ret
def sX: cI:=  .seq (.draw [⟨.gQ 2 (.t 9),(some 68),none⟩,⟨.load false 1 (.t 68),(some 69),none⟩,⟨.mv (.t 8),(some 70),none⟩,⟨.mJ (.c (.fn (.func 249) [] [])) [(.t 70)],(some 71),none⟩,⟨.iG false ⟨true,15⟩ (.agg [(.int .i64 0),(.int .i64 0),(.int .i64 0),(.int .i64 0),(.str []),(.str []),.ai,(.int .i64 0),(.int .i64 0),(.int .i64 0),(.str []),(.str []),.ai,(.bool false),(.bool false)]) 1 [(0,(.t 71))],(some 72),none⟩,⟨.app none ⟨true,15⟩ (.t 69) (.t 72),(some 73),none⟩,⟨.gQ 2 (.t 9),(some 74),none⟩,⟨.store 1 (.t 74) (.t 73),none,none⟩] [((.t 68),(.t 70))])<|
 .seq (.block 0 (.loop (.seq (.seq (.region [⟨.mv (.t 8),(some 75),none⟩,⟨.call false (.c (.fn (.func 248) [] [])) [(.t 75),(.c (.str [44]))],(some 76),none⟩])<|
 .cond (.t 76) (.skip) (.exit 0))<|
 .block 1 (.seq (.region [⟨.mv (.t 8),(some 77),none⟩,⟨.kI (.t 77),(some 78),none⟩,⟨.gQ 1 (.t 78),(some 79),none⟩,⟨.load false 1 (.t 79),(some 80),none⟩,⟨.bin .add (.t 80) (.c (.int .i64 1)),(some 81),none⟩,⟨.kI (.t 77),(some 82),none⟩,⟨.gQ 1 (.t 82),(some 83),none⟩,⟨.store 1 (.t 83) (.t 81),none,none⟩])<|
 .draw [⟨.gQ 2 (.t 9),(some 84),none⟩,⟨.load false 1 (.t 84),(some 85),none⟩,⟨.mv (.t 8),(some 86),none⟩,⟨.mJ (.c (.fn (.func 249) [] [])) [(.t 86)],(some 87),none⟩,⟨.iG false ⟨true,15⟩ (.agg [(.int .i64 0),(.int .i64 0),(.int .i64 0),(.int .i64 0),(.str []),(.str []),.ai,(.int .i64 0),(.int .i64 0),(.int .i64 0),(.str []),(.str []),.ai,(.bool false),(.bool false)]) 1 [(0,(.t 87))],(some 88),none⟩,⟨.app none ⟨true,15⟩ (.t 85) (.t 88),(some 89),none⟩,⟨.gQ 2 (.t 9),(some 90),none⟩,⟨.store 1 (.t 90) (.t 89),none,none⟩] [((.t 84),(.t 86))]))))<|
 .seq (.seq (.region [⟨.gQ 1 (.t 9),(some 91),none⟩,⟨.load false 1 (.t 91),(some 92),none⟩,⟨.mv (.t 92),(some 93),none⟩,⟨.mv (.t 8),(some 94),some (93,true)⟩,⟨.kI (.t 94),(some 95),some (93,true)⟩,⟨.gQ 2 (.t 95),(some 96),some (93,true)⟩,⟨.load false 1 (.t 96),(some 97),some (93,true)⟩,⟨.un .not (.t 97),(some 98),some (93,true)⟩,⟨.pick (.t 93) (.t 98) (.c (.bool false)),(some 99),none⟩])<|
 .cond (.t 99) (.region [⟨.mv (.t 8),(some 100),none⟩,⟨.call false (.c (.fn (.func 250) [] [])) [(.t 100),(.c (.str [41]))],(some 101),none⟩]) (.skip))<|
 j5
def GQ: qg=(.seq (.region [⟨.alloc none [(.bool false),(.bool false),.ai],(some 2),none⟩,⟨.mv (.c (.int .i64 0)),(some 3),none⟩,⟨.mv (.c (.int .i64 0)),(some 4),none⟩])<|
 .seq (.region [⟨.mv (.t 0),(some 11),none⟩,⟨.call false (.c (.fn (.func 247) [] [])) [(.t 11)],(some 12),none⟩,⟨.mv (.t 12),(some 10),none⟩,⟨.ext (.t 10) 0,(some 13),none⟩,⟨.ext (.t 10) 1,(some 14),none⟩,⟨.ext (.t 10) 2,(some 15),none⟩,⟨.mv (.t 13),(some 5),none⟩,⟨.mv (.t 14),(some 6),none⟩,⟨.mv (.t 15),(some 7),none⟩])<|
 .seq (.seq (.region [⟨.mv (.t 7),(some 16),none⟩,⟨.bin .neq (.t 16) (.c (.int .i64 0)),(some 17),none⟩])<|
 .cond (.t 17) (.seq (.region [⟨.build [(.bool false),(.bool false),.ai] [],(some 18),none⟩,⟨.mv (.t 6),(some 19),none⟩,⟨.mv (.t 7),(some 20),none⟩,⟨.store 3 (.t 2) (.t 18),none,none⟩,⟨.mv (.t 19),(some 3),none⟩,⟨.mv (.t 20),(some 4),none⟩])<|
 .ret) (.skip))<|
 .seq (.region [⟨.mv (.t 5),(some 21),none⟩,⟨.build [.ai,(.int .i64 0),(.bool false)] [(0,1,(.t 21))],(some 22),none⟩,⟨.box (.t 22),(some 23),none⟩,⟨.mv (.t 23),(some 8),none⟩])<|
 .seq (.seq (.region [⟨.mv (.t 5),(some 24),none⟩,⟨.len false (.t 24),(some 25),none⟩,⟨.bin .eql (.t 25) (.c (.int .i64 1)),(some 26),none⟩,⟨.mv (.t 26),(some 27),none⟩,⟨.mv (.t 8),(some 28),some (27,true)⟩,⟨.call false (.c (.fn (.func 248) [] [])) [(.t 28),(.c (.str [45]))],(some 29),some (27,true)⟩,⟨.pick (.t 27) (.t 29) (.c (.bool false)),(some 30),none⟩])<|
 .cond (.t 30) (.seq (.region [⟨.build [(.bool false),(.bool false),.ai] [(0,1,(.c (.bool true)))],(some 31),none⟩,⟨.store 3 (.t 2) (.t 31),none,none⟩,⟨.mv (.c (.int .i64 0)),(some 3),none⟩,⟨.mv (.c (.int .i64 0)),(some 4),none⟩])<|
 .ret) (.skip))<|
 .seq (.region [⟨.build [(.bool false),(.bool false),.ai] [],(some 32),none⟩,⟨.alloc none [(.bool false),(.bool false),.ai],(some 9),none⟩,⟨.store 3 (.t 9) (.t 32),none,none⟩])<|
 .seq (.seq (.region [⟨.mv (.t 5),(some 33),none⟩,⟨.len false (.t 33),(some 34),none⟩,⟨.bin .gtr (.t 34) (.c (.int .i64 1)),(some 35),none⟩,⟨.mv (.t 35),(some 36),none⟩,⟨.mv (.t 5),(some 37),some (36,true)⟩,⟨.eH ⟨true,4⟩ none (.t 37) (.c (.int .i64 0)),(some 38),some (36,true)⟩,⟨.gQ 0 (.t 38),(some 39),some (36,true)⟩,⟨.load false 1 (.t 39),(some 40),some (36,true)⟩,⟨.bin .eql (.t 40) (.c (.int .i64 1)),(some 41),some (36,true)⟩,⟨.pick (.t 36) (.t 41) (.c (.bool false)),(some 42),none⟩,⟨.mv (.t 42),(some 43),none⟩,⟨.mv (.t 5),(some 44),some (43,true)⟩,⟨.eH ⟨true,4⟩ none (.t 44) (.c (.int .i64 0)),(some 45),some (43,true)⟩,⟨.gQ 1 (.t 45),(some 46),some (43,true)⟩,⟨.load false 1 (.t 46),(some 47),some (43,true)⟩,⟨.bin .eql (.t 47) (.c (.str [110,111,116])),(some 48),some (43,true)⟩,⟨.pick (.t 43) (.t 48) (.c (.bool false)),(some 49),none⟩,⟨.mv (.t 49),(some 50),none⟩,⟨.mv (.t 5),(some 51),some (50,true)⟩,⟨.eH ⟨true,4⟩ none (.t 51) (.c (.int .i64 1)),(some 52),some (50,true)⟩,⟨.gQ 0 (.t 52),(some 53),some (50,true)⟩,⟨.load false 1 (.t 53),(some 54),some (50,true)⟩,⟨.bin .eql (.t 54) (.c (.int .i64 4)),(some 55),some (50,true)⟩,⟨.pick (.t 50) (.t 55) (.c (.bool false)),(some 56),none⟩,⟨.mv (.t 56),(some 57),none⟩,⟨.mv (.t 5),(some 58),some (57,true)⟩,⟨.eH ⟨true,4⟩ none (.t 58) (.c (.int .i64 1)),(some 59),some (57,true)⟩,⟨.gQ 1 (.t 59),(some 60),some (57,true)⟩,⟨.load false 1 (.t 60),(some 61),some (57,true)⟩,⟨.bin .eql (.t 61) (.c (.str [40])),(some 62),some (57,true)⟩,⟨.pick (.t 57) (.t 62) (.c (.bool false)),(some 63),none⟩])<|
 .cond (.t 63) (.seq (.region [⟨.gQ 1 (.t 9),(some 64),none⟩,⟨.store 1 (.t 64) (.c (.bool true)),none,none⟩])<|
 .region [⟨.mv (.t 8),(some 65),none⟩,⟨.kI (.t 65),(some 66),none⟩,⟨.gQ 1 (.t 66),(some 67),none⟩,⟨.store 1 (.t 67) (.c (.int .i64 2)),none,none⟩]) (.skip))<|
 sX):=rfl
def yw{P:Program}{c:cI}{Q:AQ}{S:ae}{e:Env}(cs:List (Nat × AV))(hr:∀ r,iU P c Q (puts cs r) S)(mE:At cs e): iU P c Q e S:=by
 have:=hr e;rwa[IY cs mE]at this
def RP(T:List Tok)(f:Nat)(acc:List Test)(p:Nat)(b:Bool): CS:=if dW T p b 4 [44]then lz T f acc (p+1) b else⟨acc,p,b⟩
def DK(T:List Tok)(f:Nat)(acc:List Test)(p:Nat)(b:Bool): lz T (f+1) acc p b=RP T f (acc++[(dX T p b).t]) (dX T p b).p (dX T p b).bad:=rfl
def stP(T:List Tok)(n:Bool)(p:Nat)(b:Bool)(t:Test)(acc:List Test): ae :=
 [.cells [.bool false,.bool false,.ai],.cells [.aF false ET (T.map jU),I p,.bool b],.cells [.bool false,.bool n,.own ES 3 (acc.length+1) 0 (acc.length+1)],.vec ES (bO t::acc.map bO)]
def aaf(T:List Tok)(n:Bool)(p:Nat)(b:Bool)(t:Test)(acc:List Test): stP T n p b t acc =
 [.cells [.bool false,.bool false,.ai],.cells [.aF false ET (T.map jU),I p,.bool b],.cells [.bool false,.bool n,.own ES 3 (acc.length+1) 0 (acc.length+1)],.vec ES (bO t::acc.map bO)]:=rfl
structure Lp2 where
 t:Test
 acc:List Test
 p:Nat
 b:Bool
 f:Nat
def DL(s:aG)(hs:s.length<=2 ^ 30): aH aE 210 [.str s] (M4 (fB s)):=by
 have cl:=J0 s hs;obtain⟨f1,f2⟩:=kP s;obtain⟨od,W7⟩:∃ o,dW (aX s).1 0 false 4 [45]=o:=⟨_,rfl⟩;have cm:=nQ (aX s).1 0 false [45] od W7;have hok:=EY (sW s) (by omega);have cc:=xA _ hok;have qH:=P_ (aX s).1;have hne:=V2 (aX s).1;have hR:vU (aX s).1 (lu (aX s).1) (lz (aX s).1 ((aX s).1.length+1) [] (Aq (aX s).1) false)=fW (aX s).1:=rfl;have GD:=M0 (aX s).1;have e0:Aq (aX s).1=if lu (aX s).1 then 2 else 0:=rfl
 have hP:fB s=if(aX s).2.2≠0 then(c0,(aX s).2.1,(aX s).2.2)
  else if(aX s).1.length=1/\dW (aX s).1 0 false 4 [45]=true then(xC,0,0)
  else if(fW (aX s).1).p<(aX s).1.length then(c0,((aX s).1.getD (fW (aX s).1).p default).pos,11)
  else if(fW (aX s).1).bad=true then(c0,(s.length:Int),11)
  else if 12<(fW (aX s).1).ts.length then(c0,0,24)
  else if iX ⟨false,lu (aX s).1,(fW (aX s).1).ts⟩=false then(c0,0,12)
  else(⟨false,lu (aX s).1,(fW (aX s).1).ts⟩,0,0):=rfl
 rw[hP,W7];clear hP hok;have hnt:lu (aX s).1=(decide (1<(aX s).1.length) && (iC (aX s).1 0 1 MZ && iC (aX s).1 1 4 [40])):=rfl;generalize iX ⟨false,lu (aX s).1,(fW (aX s).1).ts⟩=rb at *;generalize fW (aX s).1=R at *;generalize lu (aX s).1=n at *;generalize aX s=L at *;obtain⟨T,la,le⟩:=L;dsimp only at *;have hTs:∀ q,(T.getD q default).s.length<=2 ^ 62:=fun q=>by have:=f2 q;omega
 clear f2;simp only[M4]at ⊢;simp only[BL,nk]at cl;simp only[bH,Int.cast_ofNat_Int]at cm;simp only[bK,eV]at cc;have e1:∀ σ : ae,View σ (.agg [.bool false,.bool false,.ai]) (bK c0):=fun σ=>Qa;have e2:∀ σ : ae,View σ (.agg [.bool true,.bool false,.ai]) (bK xC):=fun σ=>J8;by_cases h1:le≠0
 ·rw[if_pos h1];generalize bK c0=E at *;refine aJ sJ ?_;unfold qg;intro Q au aA aB;repeat' first|refine aq ?_|refine ak ?_ ?_<;>intro hw<;>try omega|fail
  all_goals exact bG (gX (e1 _))
 rw[if_neg h1];by_cases h2:T.length=1/\od=true
 ·rw[if_pos h2];generalize bK xC=E2 at *;obtain⟨h2,rfl⟩:=h2;refine aJ sJ ?_;unfold qg;intro Q au aA aB;repeat' first|simp (disch:=omega) only[go_sem,au,aA,aB,h2]|refine aq ?_|refine bw cm ?_|refine ak ?_ ?_<;>intro hw<;>try omega|fail
  all_goals first|exact bG (gX (e2 _))|exact bh
 rw[if_neg h2];refine aH.WV (sJ.go ?_) (by simp);unfold dS;intro Q au aA aB;rw[GQ]
 have uK:∀ (r:Env),iU aE j5 Q (puts [(0,.str s),(2,.ref 0 0),(5,.aF false ET (T.map jU)),(8,.ref 1 0),(9,.ref 2 0)] r) [.cells [.bool false,.bool false,.ai],.cells [.aF false ET (T.map jU),I R.p,.bool R.bad],.cells [.bool false,.bool n,.own ES 3 R.ts.length 0 R.ts.length],.vec ES (R.ts.map bO)]:=by
  intro r;clear hR cm cl W7 h2 hnt e0 GD;obtain⟨rts,rp,RO⟩:=R;dsimp only at *;have e3:∀ σ : ae,σ[3]? = some (.vec ES (rts.map bO))->View σ (.agg [.bool false,.bool n,.own ES 3 rts.length 0 rts.length]) (bK ⟨false,n,rts⟩):=fun σ h=>J7 rfl h;by_cases h4:rp<T.length
  ·simp only[if_pos h4]at au aA aB;generalize bK c0=E at *;unfold j5;repeat' first|refine aq ?_|refine ak ?_ ?_<;>intro hw<;>try omega|fail
   all_goals first|exact bG (gX (e1 _))|exact bh
  simp only[if_neg h4]at au aA aB;cases RO with
  | true =>
    simp only[if_true]at au aA aB;generalize bK c0=E at *;unfold j5;repeat' first|refine aq ?_|refine ak ?_ ?_<;>intro hw<;>try omega|fail
    all_goals first|exact bG (gX (e1 _))|exact bh
  | false =>
    simp only[Bool.false_eq_true,if_false]at au aA aB;by_cases h6:12<rts.length
    ·simp only[if_pos h6]at au aA aB;generalize bK c0=E at *;unfold j5;repeat' first|refine aq ?_|refine ak ?_ ?_<;>intro hw<;>try omega|fail
     all_goals first|exact bG (gX (e1 _))|exact bh
    simp only[if_neg h6]at au aA aB;cases rb with
    | false =>
      simp only[if_true]at au aA aB;generalize bK c0=E at *;unfold j5;repeat' first|refine aq ?_|refine tN cc ?_|refine ak ?_ ?_<;>intro hw<;>try omega|fail
      all_goals first|exact bG (gX (e1 _))|exact bh
    | true =>
      simp only[gy,if_false]at au aA aB;generalize bK ⟨false,n,rts⟩=E3 at *;unfold j5;repeat' first|refine aq ?_|refine tN cc ?_|refine ak ?_ ?_<;>intro hw<;>try omega|fail
      all_goals first|exact bG (gX (e3 _ rfl))|exact bh
 clear cc e1 e2
 have GR:∀ (r:Env),iU aE sX Q (puts [(0,.str s),(2,.ref 0 0),(5,.aF false ET (T.map jU)),(8,.ref 1 0),(9,.ref 2 0)] r) [.cells [.bool false,.bool false,.ai],.cells [.aF false ET (T.map jU),I (Aq T),.bool false],.cells [.bool false,.bool n,.ai]]:=by
  intro r;clear cl cm W7 h2 hnt e0;rw[DK,dB]at hR;have ct:=DJ T (Aq T) false GD (by omega) hTs;have gt:=wV (T:=T) (b:=false) GD;generalize dX T (Aq T) false=x at *;obtain⟨xt,xp,xb⟩:=x;dsimp only at ct gt hR;generalize Aq T=p0 at *;have et:bO xt = .agg [I xt.kind,I xt.a.op,I xt.a.v.kind,I xt.a.v.n,.str xt.a.v.s,.str xt.a.s,.aF false EX (xt.a.l.map aI),I xt.b.op,I xt.b.v.kind,I xt.b.v.n,.str xt.b.v.s,.str xt.b.s,.aF false EX (xt.b.l.map aI),.bool xt.lo,.bool xt.hi]:=rfl;rw[et]at ct;simp only[bH]at ct;unfold sX;repeat' first|refine aq ?_|refine bw ct ?_|refine ak ?_ ?_<;>intro hw<;>try omega|fail
  with_reducible refine bn [75,76,77,78,79,80,81,82,83,84,85,86,87,88,89,90] (fun x:Lp2=>([]:List (Nat × AV))) (fun x=>stP T n x.p x.b x.t x.acc) (fun x=>x.p<=T.length/\x.acc.length+x.f=T.length/\T.length<=x.f+x.p/\vU T n (RP T x.f (x.t::x.acc) x.p x.b)=R) (fun x=>x.f) ⟨xt,[],xp,xb,T.length⟩ ⟨gt.2,by simp,by simp,hR⟩ rfl ?_ ?_
  ·exact at_
  clear ct hR;rintro⟨t0,acc,p,b,f⟩ r ⟨h1,h2,h3,h4⟩;dsimp only at h1 h2 h3 h4;obtain⟨o,ho⟩:∃ o,dW T p b 4 [44]=o:=⟨_,rfl⟩;have Ar:=nQ T p b [44] o ho;unfold RP at h4;rw[ho]at h4;have et0:bO t0 = .agg [I t0.kind,I t0.a.op,I t0.a.v.kind,I t0.a.v.n,.str t0.a.v.s,.str t0.a.s,.aF false EX (t0.a.l.map aI),I t0.b.op,I t0.b.v.kind,I t0.b.v.n,.str t0.b.v.s,.str t0.b.s,.aF false EX (t0.b.l.map aI),.bool t0.lo,.bool t0.hi]:=rfl;simp only[bH]at Ar;rw[aaf T n p b];cases o with
  | true =>
    have hlt:=jN ho;obtain⟨f,rfl⟩:∃ g,f=g+1:=⟨f-1,by omega⟩;rw[if_pos rfl,DK]at h4;have ct:=DJ T (p+1) b hlt.1 (by omega) hTs;have gt:=wV (T:=T) (p:=p+1) (b:=b) hlt.1;generalize dX T (p+1) b=x at *;obtain⟨xt,xp,xb⟩:=x;dsimp only at ct gt h4;have et:bO xt = .agg [I xt.kind,I xt.a.op,I xt.a.v.kind,I xt.a.v.n,.str xt.a.v.s,.str xt.a.s,.aF false EX (xt.a.l.map aI),I xt.b.op,I xt.b.v.kind,I xt.b.v.n,.str xt.b.v.s,.str xt.b.s,.aF false EX (xt.b.l.map aI),.bool xt.lo,.bool xt.hi]:=rfl;rw[et]at ct;simp only[bH,Int.natCast_add,Int.cast_ofNat_Int]at ct;repeat' first|simp (disch:=omega) only[go_sem,au,aA,aB,Int.natCast_add,Int.cast_ofNat_Int]|refine aq ?_|refine bw Ar ?_|refine bw ct ?_|refine ak ?_ ?_<;>intro hw<;>try omega|fail
    refine⟨⟨t0,acc++[xt],xp,xb,f⟩,?_,?_,?_,bL,at_⟩<;>(try dsimp only)
    ·exact⟨gt.2,by simp only[aC,List.length_cons,List.length_nil];omega,by omega,h4⟩
    ·omega
    ·simp[stP,bO,cg]
  | false =>
    rw[if_neg (by simp)]at h4;have cmu:=zz T p b [41] (by omega)
    have zA:(n=false\/b=true)\/(n=true/\b=false):=by
     cases n with
     | false=>exact .inl (.inl rfl)
     | true => cases b with
       | false=>exact .inr ⟨rfl,rfl⟩
       | true=>exact .inl (.inr rfl)
    rcases zA with zA|⟨rfl,rfl⟩
    ·have h5 : (⟨t0 :: acc, p, b⟩ : CS) = R := by
      rw[<-h4];unfold vU;cases n with
      | false=>rfl
      | true =>
        rcases zA with h|h
        ·cases h
        ·subst h;have mV:dW T p true 4 [41]=false:=rfl;rw[if_pos rfl];dsimp only;unfold nI;rw[mV];rfl
     subst h5;rw[show (t0::acc).map bO=bO t0::acc.map bO from rfl,et0]at uK;simp only[List.length_cons]at uK;have hnb:(n && !b)=false:=by rcases zA with rfl|rfl<;>simp
     cases n with
     | false =>
       repeat' first|refine aq ?_|refine bw Ar ?_|refine ak ?_ ?_<;>intro hw<;>try omega|fail
       all_goals first|exact yw _ uK at_|exact bh
     | true =>
       obtain rfl:b=true:=by simpa using zA
       repeat' first|refine aq ?_|refine bw Ar ?_|refine ak ?_ ?_<;>intro hw<;>try omega|fail
       all_goals first|exact yw _ uK at_|exact bh
    ·simp only[vU,if_true]at h4;subst h4;dsimp only at uK;rw[show (t0::acc).map bO=bO t0::acc.map bO from rfl,et0]at uK;simp only[List.length_cons]at uK;generalize nI T p false 4 [41]=p9 at *;generalize (false || !(dW T p false 4 [41]))=b9 at *;simp only[bH]at cmu;repeat' first|refine aq ?_|refine bw Ar ?_|refine bw cmu ?_|refine ak ?_ ?_<;>intro hw<;>try omega|fail
     all_goals first|exact yw _ uK at_|exact bh
 clear uK hR hne qH;by_cases hn:n=true
 ·subst hn;rw[if_pos rfl]at e0;rw[e0]at GR
  symm at hnt
  simp only[aD,decide_eq_true_eq,iC,MZ]at hnt;obtain⟨q1,⟨q2,q3,q4⟩,q5,q6,q7⟩:=hnt;have uk:¬ T.length=1:=by omega
  repeat' first|simp (disch:=omega) only[go_sem,au,aA,aB,q3,q4,q6,q7]|refine aq ?_|refine ak ?_ ?_<;>intro hw<;>try omega|fail
  all_goals first|exact yw _ GR at_|exact bh
 ·obtain rfl:n=false:=by simpa using hn
  rw[if_neg (by simp)]at e0;rw[e0]at GR
  have adL:1<T.length->(T.getD 0 default).kind=1->(T.getD 0 default).s=[110,111,116]->(T.getD 1 default).kind=4->(T.getD 1 default).s=[40]->False:=fun q1 q2 q3 q4 q5=>by
   have q0:0<T.length:=by omega
   rw[decide_eq_true q1]at hnt;simp only[iC,MZ,q0,q1,q2,q3,q4,q5]at hnt;simp at hnt
  by_cases uk:T.length=1
  ·obtain rfl : od = false := by
    cases od with
    | false=>rfl
    | true=>exact absurd ⟨uk,rfl⟩ h2
   repeat' first|refine aq ?_|refine bw cm ?_|refine ak ?_ ?_<;>intro hw<;>try omega|fail
   all_goals first|exact yw _ GR at_|exact bh
  ·repeat' first|refine aq ?_|refine ak ?_ ?_<;>intro hw<;>try omega|fail
   all_goals first|exact yw _ GR at_|(exact(adL (by omega) (by assumption) (by assumption) (by assumption) (by assumption)).elim)|exact bh
def rM(t:Test)(a b:Int): Bool:=iS a b && (decide (t.kind=1) ||(decide (a≠3) && decide (b≠3)))
def J9(t:Test)(a b:Int): aH aE 267 [bO t,I a,I b] (.bool (rM t a b)):=by
 have hf:=nP a b;have hS:rM t a b=(iS a b && (decide (t.kind=1) ||(decide (a≠3) && decide (b≠3)))):=rfl;rw[hS];generalize iS a b=f at *;simp only[bO,cg];refine aJ Mt ?_;intro Q au aA aB;repeat' first|refine aq ?_|refine ak ?_ ?_<;>intro hw<;>try omega|fail
 all_goals (refine aL ?_ rfl;refine congrArg AV.bool ?_;rw[aS];simp_all)
def GS(t:Test)(a b:Int): aH aE 251 [bO t,I a,I b] (.bool (rM t a b)):=by
 have hf:=po a b;have hS:rM t a b=(iS a b && (decide (t.kind=1) ||(decide (a≠3) && decide (b≠3)))):=rfl;rw[hS];generalize iS a b=f at *;simp only[bO,cg];refine aJ K9 ?_;intro Q au aA aB;repeat' first|refine aq ?_|refine ak ?_ ?_<;>intro hw<;>try omega|fail
 all_goals (refine aL ?_ rfl;refine congrArg AV.bool ?_;rw[aS];simp_all)
def GU(t:Test): List Expr:=if t.kind=6 then [t.a,t.b]else [t.a]
def RQ(t:Test): aH aE 266 [bO t] (cg (GU t)):=by
 have h1:∀ σ : ae,View σ (.aF true EX [.agg [I t.a.op,I t.a.v.kind,I t.a.v.n,.str t.a.v.s,.str t.a.s,.aF false EX (t.a.l.map aI)]]) (cg [t.a]):=fun σ=>by
  rw[cg,aR,bu,aO];exact View.weak _ _ _ (by simp)
 have h2:∀ σ : ae,View σ (.aF true EX [.agg [I t.a.op,I t.a.v.kind,I t.a.v.n,.str t.a.v.s,.str t.a.s,.aF false EX (t.a.l.map aI)],.agg [I t.b.op,I t.b.v.kind,I t.b.v.n,.str t.b.v.s,.str t.b.s,.aF false EX (t.b.l.map aI)]]) (cg [t.a,t.b]):=fun σ=>by
  rw[cg,aR,aR,bu,aO,aO];exact View.weak _ _ _ (by simp)
 unfold GU;by_cases h6:t.kind=6
 ·rw[if_pos h6];generalize cg [t.a,t.b]=E at *;simp only[bO,cg];refine aJ Al ?_;intro Q au aA aB;repeat' first|simp (disch:=omega) only[go_sem,au,aA,aB,h6]|refine aq ?_|refine ak ?_ ?_<;>intro hw<;>try omega|fail
  all_goals exact eT (h2 _)
 ·rw[if_neg h6];generalize cg [t.a]=E at *;simp only[bO,cg];refine aJ Al ?_;intro Q au aA aB;repeat' first|refine aq ?_|refine ak ?_ ?_<;>intro hw<;>try omega|fail
  all_goals exact eT (h1 _)
def ef(cs:List cL)(x:Expr): Int × Int:=if cq x then gu cs x else(0,2)
def vV(cs:List cL)(hcs:cs.length<=2 ^ 60)(x:Expr)(hx:gV x)(hz:ew x<=2 ^ 60): aH aE 234 [aI x,bP cs] (.bJ [I (ef cs x).1,I (ef cs x).2]):=by
 have:=OR cs hcs x hx hz;unfold ef;cases hr:cq x<;>simpa[hr]using this
def tq(cs:List cL)(hcs:cs.length<=2 ^ 60)(x:Expr)(hx:gV x)(hz:ew x<=2 ^ 60): aH aE 213 [aI x,bP cs] (.bJ [I (ef cs x).1,I (ef cs x).2]):=by
 have:=RG cs hcs x hx hz;unfold ef;cases hr:cq x<;>simpa[hr]using this
def vW(cs:List cL)(kind:Int)(t:Test): Int :=
 if(ef cs t.a).2≠0 then(ef cs t.a).2
 else if t.kind=6 then(if(ef cs t.b).2≠0 then(ef cs t.b).2 else if rM t kind (ef cs t.a).1 && rM t kind (ef cs t.b).1 then 0 else 14)
 else if rM t kind (ef cs t.a).1 then 0 else 14
def oD(cs:List cL)(kind:Int)(c:Cell): Int:=if iX c then(match c.tests.find? (fun t=>vW cs kind t != 0)with
 | some t=>vW cs kind t
 | none=>0)else 2
def Qb{cs:List cL}{kind:Int}{c:Cell}{i:Nat}{e:Int}(hr:iX c=true)(hi:i<c.tests.length)(h:∀ k,k<i->(vW cs kind (c.tests.getD k default) != 0)=false)(he:vW cs kind (c.tests.getD i default)=e)(hne:e≠0): oD cs kind c=e:=by
 unfold oD;rw[if_pos hr,qL (p:=fun t=>vW cs kind t != 0) hi h (by rw[he];simpa using hne)];exact he
def M5{cs:List cL}{kind:Int}{c:Cell}(hr:iX c=true)(h:∀ k,k<c.tests.length->(vW cs kind (c.tests.getD k default) != 0)=false): oD cs kind c=0:=by
 unfold oD;rw[if_pos hr,qy (p:=fun t=>vW cs kind t != 0) h]
def DM(cs:List cL)(hcs:cs.length<=2 ^ 60)(kind:Int)(c:Cell)(h:DC c): aH aE 211 [bK c,I kind,bP cs] (I (oD cs kind c)):=by
 have hR:=xA c h;obtain⟨hl,ht⟩:=h;cases hr:iX c with
 | false =>
   rw[show oD cs kind c=2 from by unfold oD;rw[if_neg (by simp[hr])]];rw[hr]at hR;simp only[bK,eV,bP]at hR ⊢;refine aJ x9 ?_;intro Q au aA aB;repeat' first|refine aq ?_|refine ak ?_ ?_<;>intro hw<;>try omega|fail
   exact aL rfl rfl
 | true =>
   rw[hr]at hR;simp only[bK,eV,bP]at hR ⊢;refine aJ x9 ?_;intro Q au aA aB;repeat' first|refine aq ?_|refine ak ?_ ?_<;>intro hw<;>try omega|fail
   with_reducible refine bn [6,7,8,9,10,11,15,16,17,18,19,20,21,22,23,24,25,26,27,28,29,30,31,32,33,34,35,36,37,38,39,40,41,42,43,44,45,46,47,48,49,50,51,52,53,54,55,56,57,58,59,60,61,62,63] (fun q:Nat × List bx=>[(7,I q.1)]) (fun q=> .cells [.bool c.any,.bool c.neg,.aF false ES (c.tests.map bO)]::q.2) (fun q=>q.1<=c.tests.length/\ ∀ k,k<q.1->(vW cs kind (c.tests.getD k default) != 0)=false) (fun q=>c.tests.length-q.1) (0,[]) ?_ ?_ ?_ ?_
   ·simp
   ·rfl
   ·exact at_
   rintro⟨i,τ⟩ r ⟨h1,h2⟩;dsimp only at h1 h2;by_cases hi:i<c.tests.length
   ·have n5:=ht _ (aV hi);have mE:=fun e he hne=>Qb (cs:=cs) (kind:=kind) (e:=e) hr hi h2 he hne;have bV:=fun he=>aY h2 (i:=i) he;obtain⟨t,oE⟩:∃ t,c.tests.getD i default=t:=⟨_,rfl⟩;rw[oE]at n5 mE bV;have ka:=tq cs hcs t.a n5.1.1 n5.1.2;have kb:=tq cs hcs t.b n5.2.1 n5.2.2;have fa:=GS t kind (ef cs t.a).1;have fb:=GS t kind (ef cs t.b).1;simp only[vW]at mE bV;generalize rM t kind (ef cs t.a).1=va at *;generalize rM t kind (ef cs t.b).1=vb at *;generalize ef cs t.a=ra at *;generalize ef cs t.b=rb at *;rw[aO]at ka kb;simp only[bO,cg,bP]at ka kb fa fb;repeat' first|simp (disch:=omega) only[go_sem,au,aA,aB,oE]|refine aq ?_|refine ak ?_ ?_<;>intro hw<;>try omega|fail
    all_goals first
     |(refine aL ?_ rfl;refine congrArg I ?_;symm;refine mE _ ?_ ?_<;>(clear mE bV;simp_all;done))
     | (refine ⟨(i + 1, τ ++ [.cells [I t.kind, I t.a.op, I t.a.v.kind, I t.a.v.n, .str t.a.v.s, .str t.a.s, .aF false EX (t.a.l.map aI), I t.b.op, I t.b.v.kind, I t.b.v.n, .str t.b.v.s, .str t.b.s, .aF false EX (t.b.l.map aI), .bool t.lo, .bool t.hi]]), ?_, ?_, ?_, bL, at_⟩ <;> (try dsimp only)
        ·exact⟨by omega,bV (by clear mE bV;simp_all)⟩
        ·omega
        all_goals (first|rfl|(simp[go_sem];done)))
     | exact bh
   ·repeat' first|refine aq ?_|refine ak ?_ ?_<;>intro hw<;>try omega|fail
    refine aL ?_ rfl;rw[M5 hr (fun k hk=>h2 k (by omega))]
def RR(cs:List cL)(hcs:cs.length<=2 ^ 60)(kind:Int)(c:Cell)(h:DC c): aH aE 232 [bK c,I kind,bP cs] (I (oD cs kind c)):=by
 have hR:=zy c h;obtain⟨hl,ht⟩:=h;cases hr:iX c with
 | false =>
   rw[show oD cs kind c=2 from by unfold oD;rw[if_neg (by simp[hr])]];rw[hr]at hR;simp only[mw,Bool.false_eq_true,if_false]at hR;simp only[bK,eV,bP]at hR ⊢;refine aJ Ak ?_;intro Q au aA aB;repeat' first|refine aq ?_|refine ak ?_ ?_<;>intro hw<;>try omega|fail
   exact aL rfl rfl
 | true =>
   rw[hr]at hR;simp only[mw,if_true]at hR;simp only[bK,eV,bP]at hR ⊢;refine aJ Ak ?_;intro Q au aA aB;repeat' first|refine aq ?_|refine ak ?_ ?_<;>intro hw<;>try omega|fail
   with_reducible refine bn [6,9,10,12,13,14,23,24,25,26,27,28,29,30,31,32,33,34,35,36,37,38,39,40,41,42,43,44,45,46,47,48,49,50,51,52,53] (fun q:Nat × List bx=>[(23,I q.1)]) (fun q=> .cells [.bool c.any,.bool c.neg,.aF false ES (c.tests.map bO)]::q.2) (fun q=>q.1<=c.tests.length/\ ∀ k,k<q.1->(vW cs kind (c.tests.getD k default) != 0)=false) (fun q=>c.tests.length-q.1) (0,[]) ?_ ?_ ?_ ?_
   ·simp
   ·rfl
   ·exact at_
   rintro⟨i,τ⟩ r ⟨h1,h2⟩;dsimp only at h1 h2;by_cases hi:i<c.tests.length
   ·have n5:=ht _ (aV hi);have mE:=fun e he hne=>Qb (cs:=cs) (kind:=kind) (e:=e) hr hi h2 he hne;have bV:=fun he=>aY h2 (i:=i) he;obtain⟨t,oE⟩:∃ t,c.tests.getD i default=t:=⟨_,rfl⟩;rw[oE]at n5 mE bV;have ka:=vV cs hcs t.a n5.1.1 n5.1.2;have kb:=vV cs hcs t.b n5.2.1 n5.2.2;have fa:=J9 t kind (ef cs t.a).1;have fb:=J9 t kind (ef cs t.b).1;have hp:=RQ t;simp only[vW]at mE bV;generalize rM t kind (ef cs t.a).1=va at *;generalize rM t kind (ef cs t.b).1=vb at *;generalize ef cs t.a=ra at *;generalize ef cs t.b=rb at *;rw[aO]at ka kb;simp only[bO,cg,bP]at ka kb fa fb;by_cases h6:t.kind=6
    ·rw[GU,if_pos h6,cg,aR,aR,bu,aO,aO]at hp;simp only[bO,cg]at hp;simp only[if_pos h6]at mE bV;repeat' first|simp (disch:=omega) only[go_sem,au,aA,aB,oE]|refine aq ?_|refine ak ?_ ?_<;>intro hw<;>try omega|fail
     with_reducible refine bn [6,10,12,13,14,30,31,32,33,34,35,36,37,38,39,40,41,42,43,44,45,46,47,48,49,50] (fun q:Int × Bool × List bx=>[(30,I q.1),(10,.bool q.2.1)]) (fun q=> .cells [.bool c.any,.bool c.neg,.aF false ES (c.tests.map bO)]::q.2.2) (fun q=>((q.1=0/\q.2.1=true)\/(q.1=1/\ra.2=0/\q.2.1=va)\/(q.1=2/\ra.2=0/\rb.2=0/\q.2.1=(va && vb)))/\q.2.2[τ.length]? = some (.cells [I t.kind,I t.a.op,I t.a.v.kind,I t.a.v.n,.str t.a.v.s,.str t.a.s,.aF false EX (t.a.l.map aI),I t.b.op,I t.b.v.kind,I t.b.v.n,.str t.b.v.s,.str t.b.s,.aF false EX (t.b.l.map aI),.bool t.lo,.bool t.hi])) (fun q=>(2-q.1).toNat) (0,true,τ++[.cells [I t.kind,I t.a.op,I t.a.v.kind,I t.a.v.n,.str t.a.v.s,.str t.a.s,.aF false EX (t.a.l.map aI),I t.b.op,I t.b.v.kind,I t.b.v.n,.str t.b.v.s,.str t.b.s,.aF false EX (t.b.l.map aI),.bool t.lo,.bool t.hi]]) ?_ ?_ ?_ ?_
     ·exact⟨.inl ⟨rfl,rfl⟩,by simp⟩
     ·rfl
     ·exact at_
     clear hp;rintro⟨j,ok,GV⟩ r2 ⟨hj,hk⟩;dsimp only at hj hk;have i_:=fun d:bx=>(aN (l₁:=GV) (l₂:=[d]) (aP.1 hk).1).trans hk;rcases hj with⟨rfl,rfl⟩|⟨rfl,hra,rfl⟩|⟨rfl,hra,hrb,rfl⟩
     ·repeat' first|simp (disch:=omega) only[go_sem,au,aA,aB,hk,i_,fA]|refine aq ?_|refine ak ?_ ?_<;>intro hw<;>try omega|fail
      all_goals first
       |(refine aL ?_ rfl;refine congrArg I ?_;symm;refine mE _ ?_ ?_<;>(clear mE bV;simp_all;done))
       | (refine ⟨(1, va, GV ++ [.cells [I t.a.op, I t.a.v.kind, I t.a.v.n, .str t.a.v.s, .str t.a.s, .aF false EX (t.a.l.map aI)]]), ?_, ?_, ?_, bL, at_⟩ <;> (try dsimp only)
          ·exact⟨.inr (.inl ⟨rfl,by assumption,rfl⟩),i_ _⟩
          ·omega
          all_goals (first|rfl|(simp[go_sem];done)))
       | exact bh
     ·cases ok
      ·repeat' first|simp (disch:=omega) only[go_sem,au,aA,aB,hk,i_,fA]|refine aq ?_|refine ak ?_ ?_<;>intro hw<;>try omega|fail
       all_goals first
        |(refine aL ?_ rfl;refine congrArg I ?_;symm;refine mE _ ?_ ?_<;>(clear mE bV;simp_all;done))
        | (refine ⟨(2, false, GV ++ [.cells [I t.b.op, I t.b.v.kind, I t.b.v.n, .str t.b.v.s, .str t.b.s, .aF false EX (t.b.l.map aI)]]), ?_, ?_, ?_, bL, at_⟩ <;> (try dsimp only)
           ·exact⟨.inr (.inr ⟨rfl,by assumption,by assumption,rfl⟩),i_ _⟩
           ·omega
           all_goals (first|rfl|(simp[go_sem];done)))
        | exact bh
      ·repeat' first|simp (disch:=omega) only[go_sem,au,aA,aB,hk,i_,fA]|refine aq ?_|refine ak ?_ ?_<;>intro hw<;>try omega|fail
       all_goals first
        |(refine aL ?_ rfl;refine congrArg I ?_;symm;refine mE _ ?_ ?_<;>(clear mE bV;simp_all;done))
        | (refine ⟨(2, vb, GV ++ [.cells [I t.b.op, I t.b.v.kind, I t.b.v.n, .str t.b.v.s, .str t.b.s, .aF false EX (t.b.l.map aI)]]), ?_, ?_, ?_, bL, at_⟩ <;> (try dsimp only)
           ·exact⟨.inr (.inr ⟨rfl,by assumption,by assumption,rfl⟩),i_ _⟩
           ·omega
           all_goals (first|rfl|(simp[go_sem];done)))
        | exact bh
     ·repeat' first|simp (disch:=omega) only[go_sem,au,aA,aB,hk,i_]|refine aq ?_|refine ak ?_ ?_<;>intro hw<;>try omega|fail
      all_goals first
       |(refine aL ?_ rfl;refine congrArg I ?_;symm;refine mE _ ?_ ?_<;>(clear mE bV;simp_all;done))
       | (refine ⟨(i + 1, GV), ?_, ?_, ?_, bL, at_⟩ <;> (try dsimp only)
          ·exact⟨by omega,bV (by clear mE bV;simp_all)⟩
          ·omega
          all_goals (first|rfl|(simp[go_sem];done)))
       | exact bh
    ·rw[GU,if_neg h6,cg,aR,bu,aO]at hp;simp only[bO,cg]at hp;simp only[if_neg h6]at mE bV;repeat' first|simp (disch:=omega) only[go_sem,au,aA,aB,oE]|refine aq ?_|refine ak ?_ ?_<;>intro hw<;>try omega|fail
     with_reducible refine bn [6,10,12,13,14,30,31,32,33,34,35,36,37,38,39,40,41,42,43,44,45,46,47,48,49,50] (fun q:Int × Bool × List bx=>[(30,I q.1),(10,.bool q.2.1)]) (fun q=> .cells [.bool c.any,.bool c.neg,.aF false ES (c.tests.map bO)]::q.2.2) (fun q=>((q.1=0/\q.2.1=true)\/(q.1=1/\ra.2=0/\q.2.1=va))/\q.2.2[τ.length]? = some (.cells [I t.kind,I t.a.op,I t.a.v.kind,I t.a.v.n,.str t.a.v.s,.str t.a.s,.aF false EX (t.a.l.map aI),I t.b.op,I t.b.v.kind,I t.b.v.n,.str t.b.v.s,.str t.b.s,.aF false EX (t.b.l.map aI),.bool t.lo,.bool t.hi])) (fun q=>(2-q.1).toNat) (0,true,τ++[.cells [I t.kind,I t.a.op,I t.a.v.kind,I t.a.v.n,.str t.a.v.s,.str t.a.s,.aF false EX (t.a.l.map aI),I t.b.op,I t.b.v.kind,I t.b.v.n,.str t.b.v.s,.str t.b.s,.aF false EX (t.b.l.map aI),.bool t.lo,.bool t.hi]]) ?_ ?_ ?_ ?_
     ·exact⟨.inl ⟨rfl,rfl⟩,by simp⟩
     ·rfl
     ·exact at_
     clear hp;rintro⟨j,ok,GV⟩ r2 ⟨hj,hk⟩;dsimp only at hj hk;have i_:=fun d:bx=>(aN (l₁:=GV) (l₂:=[d]) (aP.1 hk).1).trans hk;rcases hj with⟨rfl,rfl⟩|⟨rfl,hra,rfl⟩
     ·repeat' first|simp (disch:=omega) only[go_sem,au,aA,aB,hk,i_,fA]|refine aq ?_|refine ak ?_ ?_<;>intro hw<;>try omega|fail
      all_goals first
       |(refine aL ?_ rfl;refine congrArg I ?_;symm;refine mE _ ?_ ?_<;>(clear mE bV;simp_all;done))
       | (refine ⟨(1, va, GV ++ [.cells [I t.a.op, I t.a.v.kind, I t.a.v.n, .str t.a.v.s, .str t.a.s, .aF false EX (t.a.l.map aI)]]), ?_, ?_, ?_, bL, at_⟩ <;> (try dsimp only)
          ·exact⟨.inr ⟨rfl,by assumption,rfl⟩,i_ _⟩
          ·omega
          all_goals (first|rfl|(simp[go_sem];done)))
       | exact bh
     ·repeat' first|simp (disch:=omega) only[go_sem,au,aA,aB,hk,i_]|refine aq ?_|refine ak ?_ ?_<;>intro hw<;>try omega|fail
      all_goals first
       |(refine aL ?_ rfl;refine congrArg I ?_;symm;refine mE _ ?_ ?_<;>(clear mE bV;simp_all;done))
       | (refine ⟨(i + 1, GV), ?_, ?_, ?_, bL, at_⟩ <;> (try dsimp only)
          ·exact⟨by omega,bV (by clear mE bV;simp_all)⟩
          ·omega
          all_goals (first|rfl|(simp[go_sem];done)))
       | exact bh
   ·repeat' first|refine aq ?_|refine ak ?_ ?_<;>intro hw<;>try omega|fail
    refine aL ?_ rfl;rw[M5 hr (fun k hk=>h2 k (by omega))]
