import Derived.Test.YtgdcofbnbiclmaaGreatDoorQCrwH
import Derived.Test.YtgdcofbnbiclmaaGreatDoorQCrwS
import Derived.Test.YtgdcofbnbiclmaaGreatDoorQIdle
namespace Go.Proofs.YtgdcofbnbiclmaaGreatDoor
set_option linter.all false
set_option maxHeartbeats 32000000
open Go.RowKit
section
attribute [local irreducible] wpStill
variable {w w':World} {base Kb:Nat} {M:Nat→Prop} {s:Cw} {i:Nat} {a:T3 NA} {v:T3 Value}
set_option maxRecDepth 100000 in
theorem trim_no (h:Cr w base Kb M s) (hi:i<3) (heq:(s.nd.get i).commit=(s.nd.get i).b) :
  Calls Tryz.prog 109 #[.pointer (some ⟨Kb,i*33,none⟩)] w (Does base Kb M (s.put i (s.nd.get i).trim) w):=by
 have HC:=hide h
 obtain ⟨A,k,c,n6,n7,n8,hO⟩:=h.nlog hi
 have n19:=h.ncommit hi
 have hK:=h.own.2.1
 have hX:s.put i (s.nd.get i).trim=s:=by unfold Nd.trim;rw [if_pos heq,Cw.put_self hi]
 rw [hX]
 rw [heq] at n19
 generalize (s.nd.get i).b=b at *
 clear heq hO
 go_enter Tryz.func109,Tryz.ntmps109
 go_wp2_with fail
 go_quiet (fail)
 go_wp2_with fail
 go_end0
 exact ⟨rfl,CPost.same HC.out below_by⟩
set_option maxRecDepth 100000 in
theorem ask_no (h:Cr w base Kb M s) (hi:i<3) (c:CallM) (hro:(s.nd.get i).role≠3) (hlen:s.told.length≤900000000000) :
  Calls Tryz.prog 68 #[.pointer (some ⟨Kb,0,none⟩),.pointer (some ⟨Kb,i*33,none⟩),.agg (callCells c).toArray] w (Does base Kb M (s.ask i c) w):=by
 have HC:=hide h
 have nup:=h.nup hi
 have nro:=h.nrole hi
 have HAN:=hide (fun w' (q:Below w.heap.size w w') (er:Int)=>answer_any (h.bl q) hi c er hlen)
 obtain ⟨ci,sq,⟨ck,cy,cf,ct,cn⟩⟩:=c
 have HAN:=hide (show ∀ w' (q:Below w.heap.size w w') (er:Int),Calls Tryz.prog 88 #[.pointer (some ⟨Kb,0,none⟩),.pointer (some ⟨Kb,i*33,none⟩),.agg #[.int .i64 ci,.int .i64 sq,.int .i64 ck,.string cy,.string cf,.string ct,.int .i64 cn],.int .i64 er] w' (Does base Kb M (s.answer i ⟨ci,sq,⟨ck,cy,cf,ct,cn⟩⟩ er) w') from HAN.out)
 have HX:=hide (show s.ask i ⟨ci,sq,⟨ck,cy,cf,ct,cn⟩⟩=if (s.nd.get i).up=false then s.answer i ⟨ci,sq,⟨ck,cy,cf,ct,cn⟩⟩ 13 else s.answer i ⟨ci,sq,⟨ck,cy,cf,ct,cn⟩⟩ 12 by unfold Cw.ask;simp only [if_pos hro])
 generalize s.ask i ⟨ci,sq,⟨ck,cy,cf,ct,cn⟩⟩=X at *
 have B0:=Blk.new w 38 #[.int .i64 ci,.int .i64 sq,.int .i64 ck,.string cy,.string cf,.string ct,.int .i64 cn]
 have q0:Below w.heap.size w (w.alloc (.cells #[.int .i64 ci,.int .i64 sq,.int .i64 ck,.string cy,.string cf,.string ct,.int .i64 cn] 38)):=below_by
 have hK:=h.own.2.1
 show Calls Tryz.prog _ #[_,_,.agg #[.int .i64 ci,.int .i64 sq,.int .i64 ck,.string cy,.string cf,.string ct,.int .i64 cn]] w _
 clear h
 by_cases hup:(s.nd.get i).up=false
 ·have HX2:=hide (show X=s.answer i ⟨ci,sq,⟨ck,cy,cf,ct,cn⟩⟩ 13 by rw [HX.out,if_pos hup])
  rw [hup] at nup
  have HA:=hide (HAN.out _ q0 13)
  rw [←HX2.out] at HA
  clear HX HX2 hup nro HAN
  go_enter Tryz.func68,Tryz.ntmps68
  (try clear cB0 fB0);have cB0:=B0.cell;have fB0:=B0.frozen
  go_wp2_with fail
  refine HA.out.mono ?_
  rintro e w1 ⟨rfl,hp⟩
  go_wp2_with fail
  go_end0
  exact ⟨rfl,hp.pre q0⟩
 have hup:(s.nd.get i).up=true:=by simpa using hup
 rw [hup] at nup
 have hro':((s.nd.get i).role != 3)=true:=by simpa using hro
 have HX2:=hide (show X=s.answer i ⟨ci,sq,⟨ck,cy,cf,ct,cn⟩⟩ 12 by rw [HX.out,if_neg (by rw [hup];decide)])
 have HA:=hide (HAN.out _ q0 12)
 rw [←HX2.out] at HA
 clear HX HX2 hup hro HAN
 generalize (s.nd.get i).role=ro at *
 go_enter Tryz.func68,Tryz.ntmps68
 (try clear cB0 fB0);have cB0:=B0.cell;have fB0:=B0.frozen
 go_wp2_with fail
 refine HA.out.mono ?_
 rintro e w1 ⟨rfl,hp⟩
 go_wp2_with fail
 go_end0
 exact ⟨rfl,hp.pre q0⟩
set_option maxRecDepth 100000 in
theorem come_no (h:Cr w base Kb M s) (hi:i<3) (m:Msg) (row:List Value) (hm:MsgAt w m row) (hd:m.dst=(i:Int)) (hup:(s.nd.get i).up=false) :
  Calls Tryz.prog 70 #[.pointer (some ⟨Kb,0,none⟩),.agg row.toArray] w (Does base Kb M s w):=by
 have HC:=hide h
 have HM:=hide hm
 have hK:=h.own.2.1
 obtain ⟨I,i1,i2,E,e1,e2,C,c1,c2,rfl,-,-,-⟩:=hm
 have ii:(i:Int)<3:=by omega
 have nup:=h.nup hi
 show Calls Tryz.prog _ #[_,.agg #[.int .i64 m.src,.int .i64 m.dst,.int .i64 m.kind,.int .i64 m.term,.int .i64 m.last,.int .i64 m.lastTerm,.bool m.yes,.int .i64 m.commit,.slice I i1 i2,.int .i64 m.si,.int .i64 m.st,.int .i64 m.sm.now,.slice E e1 e2,.int .i64 m.sm.next,.slice C c1 c2]] w _
 have B0:=Blk.new w 153 #[.int .i64 m.src,.int .i64 m.dst,.int .i64 m.kind,.int .i64 m.term,.int .i64 m.last,.int .i64 m.lastTerm,.bool m.yes,.int .i64 m.commit,.slice I i1 i2,.int .i64 m.si,.int .i64 m.st,.int .i64 m.sm.now,.slice E e1 e2,.int .i64 m.sm.next,.slice C c1 c2]
 have q0:Below w.heap.size w (w.alloc (.cells #[.int .i64 m.src,.int .i64 m.dst,.int .i64 m.kind,.int .i64 m.term,.int .i64 m.last,.int .i64 m.lastTerm,.bool m.yes,.int .i64 m.commit,.slice I i1 i2,.int .i64 m.si,.int .i64 m.st,.int .i64 m.sm.now,.slice E e1 e2,.int .i64 m.sm.next,.slice C c1 c2] 153)):=below_by
 have hMX:¬ M w.heap.size:=HC.out.none_
 have HDM:=hide hd
 clear h hd
 go_enter Tryz.func70,Tryz.ntmps70
 go_upto_region 1 with fail
 obtain ⟨w1,hw1⟩:∃ w1,w1=(w.alloc (.cells #[.int .i64 m.src,.int .i64 m.dst,.int .i64 m.kind,.int .i64 m.term,.int .i64 m.last,.int .i64 m.lastTerm,.bool m.yes,.int .i64 m.commit,.slice I i1 i2,.int .i64 m.si,.int .i64 m.st,.int .i64 m.sm.now,.slice E e1 e2,.int .i64 m.sm.next,.slice C c1 c2] 153)):=⟨_,rfl⟩
 rw [←hw1] at B0 q0 ⊢
 clear hw1
 have n1:=(HC.out.bl q0).nup hi
 clear nup
 (try clear cB0 fB0);have cB0:=B0.cell;have fB0:=B0.frozen
 have hbl:=B0.lt
 have hdm:=HDM.out
 go_quiet (fail)
 clear hdm
 have q1:Below w.heap.size w (w1.drewN nq):=bdrewN q0 nq
 have B1:=B0.drewN nq
 obtain ⟨w2,hw2⟩:∃ w2,w2=w1.drewN nq:=⟨_,rfl⟩
 rw [←hw2] at q1 B1 ⊢
 have C2:=hide (HC.out.bl q1)
 clear n1 cB0 fB0 B0 q0 hbl hw2
 have n1:=C2.out.nup hi
 have hbl:=B1.lt
 (try clear cB1 fB1);have cB1:=B1.cell;have fB1:=B1.frozen
 rw [hup] at n1
 clear hup
 go_wp2_with fail
 go_end0
 exact ⟨rfl,CPost.same HC.out q1⟩
set_option maxRecDepth 100000 in
theorem act_no (h:Cr w base Kb M s) (hi:i<3) (a:ActD) (D:BareN (s.nd.get i) i) (p0:0≤a.pick) (p1:a.pick≤400000) :
  Calls Tryz.prog 71 #[.pointer (some ⟨Kb,0,none⟩),.pointer (some ⟨Kb,i*33,none⟩),.agg a.cells.toArray] w (Does base Kb M (s.act i a) w):=by
 have HC:=hide h
 have HD:=hide D
 have hlog:checkLog (s.nd.get i).b (s.nd.get i).bt (s.nd.get i).L=0:=by rw [D.b,D.bt,D.L];rfl
 have htp:(tapeB (s.nd.get i).recs).length≤400000:=by rw [D.recs];simp [tapeB]
 have hsn:(s.nd.get i).sn≤(s.nd.get i).recs.length:=by rw [D.sn];omega
 have hrk:∀ r∈(s.nd.get i).recs,rkB r=true:=by rw [D.recs];exact fun r h=>by cases h
 have herr:a.kind=9→(foldG newDk ((s.nd.get i).left a.pick)).2=0:=fun _=>by rw [bare_left D];rfl
 have hcb:(s.nd.get i).commit=(s.nd.get i).b:=by rw [D.commit,D.b]
 have hro3:=Bare.nl D
 have HX:=hide (show s.act i a=if a.kind=2 then (if (s.nd.get i).role≠3∧(s.nd.get i).term<1048576 then
  s.put i (Nd.tell { s.nd.get i with role:=1,votes:=aloneV i } { Msg.of 1 ((s.nd.get i).term+1) with last:=(s.nd.get i).lastP.1,lastTerm:=(s.nd.get i).lastP.2 }) else s)
 else if a.kind=3 then (if (s.nd.get i).role=3 then s.put i (s.nd.get i).heap else s)
 else if a.kind=4 then s.sync i
 else if a.kind=9 then s.put i ((s.nd.get i).crash a.pick)
 else if a.kind=11 then s.put i (s.nd.get i).trim
 else s by unfold Cw.act;simp only [D.me])
 generalize s.act i a=X at *
 have n3:=h.nrole hi
 have n4:=h.nterm hi
 have n0:=h.nme hi
 rw [D.me] at n0
 clear D h
 show Calls Tryz.prog _ #[_,_,.agg #[.int .i64 a.kind,.int .i64 a.node,.int .i64 a.pick,.int .i64 a.client,.int .i64 a.seq,.int .i64 a.cmd.kind,.string a.cmd.key,.string a.cmd.field,.string a.cmd.text,.int .i64 a.cmd.n]] w _
 have B0:=Blk.new w 40 #[.int .i64 a.kind,.int .i64 a.node,.int .i64 a.pick,.int .i64 a.client,.int .i64 a.seq,.int .i64 a.cmd.kind,.string a.cmd.key,.string a.cmd.field,.string a.cmd.text,.int .i64 a.cmd.n]
 have q0:Below w.heap.size w (w.alloc (.cells #[.int .i64 a.kind,.int .i64 a.node,.int .i64 a.pick,.int .i64 a.client,.int .i64 a.seq,.int .i64 a.cmd.kind,.string a.cmd.key,.string a.cmd.field,.string a.cmd.text,.int .i64 a.cmd.n] 40)):=below_by
 have hK:=HC.out.own.2.1
 by_cases hk2:a.kind=2
 ·have hk2':(a.kind == 2)=true:=by simpa using hk2
  have HX2:=hide (HX.out.trans (if_pos hk2))
  clear HX hk2 herr
  by_cases hr:(s.nd.get i).role=3
  ·have hr':((s.nd.get i).role != 3)=false:=by simp [hr]
   have HX3:=hide (show X=s by rw [HX2.out,if_neg (fun h=>h.1 hr)])
   clear HX2 hr
   go_enter Tryz.func71,Tryz.ntmps71
   (try clear cB0 fB0);have cB0:=B0.cell;have fB0:=B0.frozen
   go_wp2_with fail
   (try go_quiet (fail))
   (try go_wp2_with fail)
   go_end0
   exact ⟨rfl,by rw [HX3.out];exact CPost.same HC.out (by first|exact q0|exact bdrewN q0 _|exact q0.drew)⟩
  ·have hr':((s.nd.get i).role != 3)=true:=by simpa using hr
   by_cases ht:(s.nd.get i).term<1048576
   ·have HX3:=hide (show X=s.put i (Nd.tell { s.nd.get i with role:=1,votes:=aloneV i } { Msg.of 1 ((s.nd.get i).term+1) with last:=(s.nd.get i).lastP.1,lastTerm:=(s.nd.get i).lastP.2 }) by rw [HX2.out,if_pos ⟨hr,ht⟩])
    have HAL:=hide (fun w=>alone_any i hi w)
    have htw:IntKind.i64.wrap ((s.nd.get i).term+1)=(s.nd.get i).term+1:=IntWalk.i64_in _ (by have:=HD.out.term;omega)
    clear HX2 hr
    go_enter Tryz.func71,Tryz.ntmps71
    (try clear cB0 fB0);have cB0:=B0.cell;have fB0:=B0.frozen
    go_upto_region 4 with fail
    have htlt:decide ((s.nd.get i).term<1048576)=true:=by simpa using ht
    clear n3 n4 n0
    obtain ⟨w1,hw1⟩:∃ w1,w1=w.alloc (.cells #[.int .i64 a.kind,.int .i64 a.node,.int .i64 a.pick,.int .i64 a.client,.int .i64 a.seq,.int .i64 a.cmd.kind,.string a.cmd.key,.string a.cmd.field,.string a.cmd.text,.int .i64 a.cmd.n] 40):=⟨_,rfl⟩
    rw [←hw1] at q0 ⊢
    clear hw1 cB0 fB0 B0
    have n0:=(HC.out.bl q0).nme hi
    rw [HD.out.me] at n0
    go_wp2_with fail
    refine (HAL.out _).mono ?_
    rintro e w3 ⟨rfl,b3⟩
    obtain ⟨a3,v3,H3,rfl⟩:=HC.out.bl (bstep q0 b3)
    have K3:=hide (Keep.of (M:=Mut Kb a3 v3) (bstep q0 b3))
    have m3:=H3.raw.nd hi 3 (by omega)
    have m20:=H3.raw.nd hi 20 (by omega)
    have m21:=H3.raw.nd hi 21 (by omega)
    have m22:=H3.raw.nd hi 22 (by omega)
    simp only [nodeC,List.getElem?_cons_zero,List.getElem?_cons_succ] at m3 m20 m21 m22
    have f3:=H3.raw.froz (i*33+3)
    have f20:=H3.raw.froz (i*33+20)
    have f21:=H3.raw.froz (i*33+21)
    have f22:=H3.raw.froz (i*33+22)
    have R0:=H3.raw
    rw [←T3.set_get (rowsOf _ _) hi,rows_get hi] at R0
    have R1:=(((R0.put hi 3 (by omega) (.int .i64 1)).put hi 20 (by omega) (.bool (aloneV i).x)).putp hi 21 (by omega) (i*33+20+1) (by omega) (.bool (aloneV i).y)).putp hi 22 (by omega) (i*33+20+2) (by omega) (.bool (aloneV i).z)
    obtain ⟨H4,k4⟩:=H3.upd (n':={ s.nd.get i with role:=1,votes:=aloneV i }) (x':=a3.get i) hi R1 (grown_trans (grown_trans (grown_trans (grown_setRow_cell w3 Kb _ _) (grown_setRow_cell _ Kb _ _)) (grown_setRow_cell _ Kb _ _)) (grown_setRow_cell _ Kb _ _)) { H3.rep i hi with } (.inl rfl) (.inl rfl)
    have K4:=hide (K3.out.trans k4)
    have C4:=hide (show Cr _ base Kb _ (s.put i { s.nd.get i with role:=1,votes:=aloneV i }) from ⟨_,_,H4,rfl⟩)
    have HLP:=hide (last_node C4.out hi (by rw [Cw.get_put hi];exact hlog))
    rw [Cw.get_put hi] at HLP
    have HLP:=hide (show Calls Tryz.prog 91 #[.pointer (some ⟨Kb,i*33,none⟩)] _ fun e w'=>e = .returned (.tuple #[.int .i64 (s.nd.get i).lastP.1,.int .i64 (s.nd.get i).lastP.2])∧_ from HLP.out)
    clear R0 R1 k4 K3 H4 b3 HAL
    go_wp2_with fail
    refine HLP.out.mono ?_
    rintro e w5 ⟨rfl,b5⟩
    have m4:=(C4.out.bl b5).nterm hi
    rw [Cw.get_put hi] at m4
    simp only at m4
    have HT:=hide (tell_any (C4.out.bl b5) hi { Msg.of 1 ((s.nd.get i).term+1) with last:=(s.nd.get i).lastP.1,lastTerm:=(s.nd.get i).lastP.2 } _ (msg_nil w5 _ rfl rfl))
    rw [Cw.get_put hi,Cw.put_put hi,←HX3.out] at HT
    have K5:=hide (K4.out.trans (Keep.of b5))
    clear HLP b5 C4 K4 H3 m3 m20 m21 m22 f3 f20 f21 f22
    go_wp2_with fail
    refine HT.out.mono ?_
    rintro e w6 ⟨rfl,M6,hc6,k6⟩
    go_wp2_with fail
    go_end0
    exact ⟨rfl,M6,hc6,K5.out.trans k6⟩
   ·have HX3:=hide (show X=s by rw [HX2.out,if_neg (fun h=>ht h.2)])
    have ht':decide ((s.nd.get i).term<1048576)=false:=by simpa using ht
    clear HX2 hr
    go_enter Tryz.func71,Tryz.ntmps71
    (try clear cB0 fB0);have cB0:=B0.cell;have fB0:=B0.frozen
    go_wp2_with fail
    (try go_quiet (fail))
    (try go_wp2_with fail)
    go_end0
    exact ⟨rfl,by rw [HX3.out];exact CPost.same HC.out (by first|exact q0|exact bdrewN q0 _|exact q0.drew)⟩
 have hk2':(a.kind == 2)=false:=by simpa using hk2
 have HX2:=hide (HX.out.trans (if_neg hk2))
 clear HX hk2
 by_cases hk3:a.kind=3
 ·have hk3':(a.kind == 3)=true:=by simpa using hk3
  have HX3:=hide (HX2.out.trans (if_pos hk3))
  clear HX2 hk3 herr
  have hr:=hro3
  ·have hr':((s.nd.get i).role == 3)=false:=by simpa using hr
   have HX4:=hide (show X=s by rw [HX3.out,if_neg hr])
   clear HX3 hr
   go_enter Tryz.func71,Tryz.ntmps71
   (try clear cB0 fB0);have cB0:=B0.cell;have fB0:=B0.frozen
   go_wp2_with fail
   go_end0
   exact ⟨rfl,by rw [HX4.out];exact CPost.same HC.out q0⟩
 have hk3':(a.kind == 3)=false:=by simpa using hk3
 have HX3:=hide (HX2.out.trans (if_neg hk3))
 clear HX2 hk3
 by_cases hk4:a.kind=4
 ·have hk4':(a.kind == 4)=true:=by simpa using hk4
  have HX4:=hide (HX3.out.trans (if_pos hk4))
  have HP:=hide (sync_any (HC.out.bl q0) hi htp hsn)
  rw [←HX4.out] at HP
  clear HX3 HX4 hk4 herr
  go_enter Tryz.func71,Tryz.ntmps71
  (try clear cB0 fB0);have cB0:=B0.cell;have fB0:=B0.frozen
  go_wp2_with fail
  refine HP.out.mono ?_
  rintro e w2 ⟨rfl,hp⟩
  go_wp2_with fail
  go_end0
  exact ⟨rfl,hp.pre q0⟩
 have hk4':(a.kind == 4)=false:=by simpa using hk4
 have HX4:=hide (HX3.out.trans (if_neg hk4))
 clear HX3 hk4
 by_cases hk9:a.kind=9
 ·have hk9':(a.kind == 9)=true:=by simpa using hk9
  have HX5:=hide (HX4.out.trans (if_pos hk9))
  have HP:=hide (crash_any (HC.out.bl q0) hi a.pick p0 p1 htp hrk (herr hk9))
  rw [←HX5.out] at HP
  clear HX4 HX5 hk9 herr
  go_enter Tryz.func71,Tryz.ntmps71
  (try clear cB0 fB0);have cB0:=B0.cell;have fB0:=B0.frozen
  go_wp2_with fail
  refine HP.out.mono ?_
  rintro e w2 ⟨rfl,hp⟩
  go_wp2_with fail
  go_end0
  exact ⟨rfl,hp.pre q0⟩
 have hk9':(a.kind == 9)=false:=by simpa using hk9
 have HX5:=hide (HX4.out.trans (if_neg hk9))
 clear HX4 hk9 herr
 by_cases hk11:a.kind=11
 ·have hk11':(a.kind == 11)=true:=by simpa using hk11
  have HX6:=hide (HX5.out.trans (if_pos hk11))
  have HP:=hide (trim_no (HC.out.bl q0) hi hcb)
  rw [←HX6.out] at HP
  clear HX5 HX6 hk11
  go_enter Tryz.func71,Tryz.ntmps71
  (try clear cB0 fB0);have cB0:=B0.cell;have fB0:=B0.frozen
  go_wp2_with fail
  refine HP.out.mono ?_
  rintro e w2 ⟨rfl,hp⟩
  go_wp2_with fail
  go_end0
  exact ⟨rfl,hp.pre q0⟩
 have hk11':(a.kind == 11)=false:=by simpa using hk11
 have HX6:=hide (HX5.out.trans (if_neg hk11))
 clear HX5 hk11
 go_enter Tryz.func71,Tryz.ntmps71
 (try clear cB0 fB0);have cB0:=B0.cell;have fB0:=B0.frozen
 go_wp2_with fail
 go_end0
 exact ⟨rfl,by rw [HX6.out];exact CPost.same HC.out q0⟩
end
end Go.Proofs.YtgdcofbnbiclmaaGreatDoor

