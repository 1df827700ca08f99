import Derived.Test.YtgmojjclobkpjaaGreatDoorQBase
import Derived.Test.YtgmojjclobkpjaaGreatDoorQHold
import Derived.Test.YtgmojjclobkpjaaGreatDoorQStoP
import Derived.Test.YtgmojjclobkpjaaGreatDoorQMachC
namespace Go.Proofs.YtgmojjclobkpjaaGreatDoor
set_option linter.all false
set_option maxHeartbeats 32000000
open Go.RowKit
theorem sameTexts_eq (A B:Option Addr) (n m c d:Nat) (l l':List ByteArray) (w:World) (ha:Sl w 1 A n c (strRows l)) (hb:Sl w 1 B m d (strRows l')) (hll:l=l') :
  Calls Tryz.prog 84 #[.slice A n c,.slice B m d] w fun e w'=>e = .returned (.bool true)∧Below w.heap.size w w':=by
 subst hll
 have hn:l.length=n:=by have:=ha.len;simpa [strRows] using this
 have hm:l.length=m:=by have:=hb.len;simpa [strRows] using this
 have hlm:=ha.cm
 have hlm2:=ha.nc
 unfold maxLen at hlm
 subst hn;subst hm
 go_enter Tryz.func84,Tryz.ntmps84
 go_wp2_with fail
 go_loopw [5] (fun i wr=>∃ k:Nat,k≤l.length∧i = .int .i64 k∧Below w.heap.size w wr) (fun i _=>l.length - (intOf i).toNat)
 case atStart=>exact ⟨0,by omega,rfl,below_by⟩
 case round=>
  obtain ⟨k,hk,rfl,hbr⟩:=hrel
  by_cases hlt:k<l.length
  ·obtain ⟨b1,o1,rfl,_,i0⟩:=(ha.below hbr).seg.str hlt
   obtain ⟨b2,o2,rfl,_,j0⟩:=(hb.below hbr).seg.str hlt
   generalize l[k]=x at i0 j0
   go_wp2_with fail
   go_quiet (fail)
   go_wp2_with fail
   go_roundw
   case rel=>exact ⟨k+1,by omega,by go_num,below_by⟩
   case measure=>simp [intOf];omega
  ·obtain rfl:k=l.length:=by omega
   go_wp2_with fail
   go_ret
   exact ⟨rfl,below_by⟩
theorem sameReply_eq (r r':Re) (A B:Option Addr) (n m c d:Nat) (w:World) (ha:Sl w 1 A n c (strRows r.list)) (hb:Sl w 1 B m d (strRows r'.list)) (hrr:r=r') :
  Calls Tryz.prog 48 #[.agg #[.int .i64 r.code,.string r.text,.int .i64 r.n,.slice A n c],.agg #[.int .i64 r'.code,.string r'.text,.int .i64 r'.n,.slice B m d]] w fun e w'=>e = .returned (.bool true)∧Below w.heap.size w w':=by
 subst hrr
 go_enter Tryz.func48,Tryz.ntmps48
 go_wp2_with (go_at_call 84;refine (sameTexts_eq _ _ _ _ _ _ r.list r.list _ ((ha.alloc _).alloc _) ((hb.alloc _).alloc _) rfl).mono ?_;rintro e w1 ⟨rfl,hb1⟩)
 go_ret
 exact ⟨rfl,below_by⟩
theorem sameValue_eq (v v':Va) (A1 A2 A3 B1 B2 B3:Option Addr) (n1 c1 n2 c2 n3 c3 m1 d1 m2 d2 m3 d3:Nat) (w:World) (h:VSl w v A1 n1 c1 A2 n2 c2 A3 n3 c3) (h':VSl w v' B1 m1 d1 B2 m2 d2 B3 m3 d3) (hvv:v=v') :
  Calls Tryz.prog 83 #[.agg #[.int .i64 v.kind,.string v.text,.int .i64 v.count,.slice A1 n1 c1,.slice A2 n2 c2,.slice A3 n3 c3],.agg #[.int .i64 v'.kind,.string v'.text,.int .i64 v'.count,.slice B1 m1 d1,.slice B2 m2 d2,.slice B3 m3 d3]] w fun e w'=>e = .returned (.bool true)∧Below w.heap.size w w':=by
 subst hvv
 have e1:=h.n1_;have e2:=h.n2_;have e3:=h.n3_
 have g1:=h'.n1_;have g2:=h'.n2_;have g3:=h'.n3_
 have q1:=h.p.cm;have q1':=h.p.nc;have q3:=h.s.cm;have q3':=h.s.nc
 unfold maxLen at q1 q3
 obtain ⟨vk,vt,vc,ps,is_,ss⟩:=v
 simp only at e1 e2 e3 g1 g2 g3 ⊢
 subst e1;subst e2;subst e3
 subst g1;subst g2;subst g3
 have V0:=(Blk.new w 96 #[.int .i64 vk,.string vt,.int .i64 vc,.slice A1 ps.length c1,.slice A2 is_.length c2,.slice A3 ss.length c3]).alloc (.cells #[.int .i64 vk,.string vt,.int .i64 vc,.slice B1 ps.length d1,.slice B2 is_.length d2,.slice B3 ss.length d3] 96)
 have X0:Blk ((w.alloc (.cells #[.int .i64 vk,.string vt,.int .i64 vc,.slice A1 ps.length c1,.slice A2 is_.length c2,.slice A3 ss.length c3] 96)).alloc (.cells #[.int .i64 vk,.string vt,.int .i64 vc,.slice B1 ps.length d1,.slice B2 is_.length d2,.slice B3 ss.length d3] 96)) (w.heap.size+1) 96 #[.int .i64 vk,.string vt,.int .i64 vc,.slice B1 ps.length d1,.slice B2 is_.length d2,.slice B3 ss.length d3]:=Blk.new' _ _ _ (by simp)
 have N0:=(h.al (.cells #[.int .i64 vk,.string vt,.int .i64 vc,.slice A1 ps.length c1,.slice A2 is_.length c2,.slice A3 ss.length c3] 96)).al (.cells #[.int .i64 vk,.string vt,.int .i64 vc,.slice B1 ps.length d1,.slice B2 is_.length d2,.slice B3 ss.length d3] 96)
 have M0:=(h'.al (.cells #[.int .i64 vk,.string vt,.int .i64 vc,.slice A1 ps.length c1,.slice A2 is_.length c2,.slice A3 ss.length c3] 96)).al (.cells #[.int .i64 vk,.string vt,.int .i64 vc,.slice B1 ps.length d1,.slice B2 is_.length d2,.slice B3 ss.length d3] 96)
 go_enter Tryz.func83,Tryz.ntmps83
 go_wp2_with (go_at_call 84;refine (sameTexts_eq _ _ _ _ _ _ is_ is_ _ N0.i M0.i rfl).mono ?_;rintro e w1 ⟨rfl,hb1⟩)
 have V1:=V0.below' hb1;have X1:=X0.below' hb1;have N1:=N0.bl hb1;have M1:=M0.bl hb1
 have p1:Below w.heap.size w w1:=below_by
 clear V0 X0 N0 M0
 go_loopw [5] (fun i wr=>∃ k:Nat,k≤ps.length∧i = .int .i64 k∧Below w1.heap.size w1 wr) (fun i _=>ps.length - (intOf i).toNat)
 case atStart=>exact ⟨0,by omega,rfl,below_by⟩
 case round=>
  obtain ⟨k,hk,rfl,hbr⟩:=hrel
  have V2:=V1.below' hbr;have X2:=X1.below' hbr;have N2:=N1.bl hbr;have M2:=M1.bl hbr
  (try clear cV2 fV2);have cV2:=V2.cell;have fV2:=V2.frozen;(try clear cX2 fX2);have cX2:=X2.cell;have fX2:=X2.frozen
  by_cases hlt:k<ps.length
  ·obtain ⟨b1,o1,rfl,_,⟨i0,i1⟩⟩:=N2.p.seg.pair hlt
   obtain ⟨b2,o2,rfl,_,⟨j0,j1⟩⟩:=M2.p.seg.pair hlt
   generalize ps[k]=x at i0 i1 j0 j1
   go_wp2_with fail
   go_quiet (fail)
   go_wp2_with fail
   go_roundw
   case rel=>exact ⟨k+1,by omega,by go_num,below_by⟩
   case measure=>simp [intOf];omega
  ·obtain rfl:k=ps.length:=by omega
   go_wp2_with fail
   go_loopw [6] (fun i wx=>∃ k:Nat,k≤ss.length∧i = .int .i64 k∧Below wr.heap.size wr wx) (fun i _=>ss.length - (intOf i).toNat)
   case atStart=>exact ⟨0,by omega,rfl,below_by⟩
   case round=>
    obtain ⟨k,hk,rfl,hbx⟩:=hrel
    have V3:=V2.below' hbx;have X3:=X2.below' hbx;have N3:=N2.bl hbx;have M3:=M2.bl hbx
    clear cV2 fV2 cX2 fX2
    (try clear cV3 fV3);have cV3:=V3.cell;have fV3:=V3.frozen;(try clear cX3 fX3);have cX3:=X3.cell;have fX3:=X3.frozen
    by_cases hlt:k<ss.length
    ·obtain ⟨b1,o1,rfl,_,⟨i0,i1⟩⟩:=N3.s.seg.score hlt
     obtain ⟨b2,o2,rfl,_,⟨j0,j1⟩⟩:=M3.s.seg.score hlt
     generalize ss[k]=x at i0 i1 j0 j1
     go_wp2_with fail
     go_quiet (fail)
     go_wp2_with fail
     go_roundw
     case rel=>exact ⟨k+1,by omega,by go_num,below_by⟩
     case measure=>simp [intOf];omega
    ·obtain rfl:k=ss.length:=by omega
     go_wp2_with fail
     go_ret
     exact ⟨rfl,bstep p1 (bstep hbr hbx)⟩
set_option maxRecDepth 100000 in
theorem sameStore_eq (now:Int) (A B:Option Addr) (n m c d:Nat) (l:List En) (w:World) (ha:St w A n c l) (hb:St w B m d l) (hl:l.length≤1048576) :
  Calls Tryz.prog 47 #[.agg #[.int .i64 now,.slice A n c],.agg #[.int .i64 now,.slice B m d]] w fun e w'=>e = .returned (.bool true)∧Below w.heap.size w w':=by
 have hn:=ha.sl.len
 have hm:=hb.sl.len
 subst hn
 subst hm
 have X0:=(Blk.new w 38 #[.int .i64 now,.slice A l.length c]).alloc (.cells #[.int .i64 now,.slice B l.length d] 38)
 have Z0:Blk ((w.alloc (.cells #[.int .i64 now,.slice A l.length c] 38)).alloc (.cells #[.int .i64 now,.slice B l.length d] 38)) (w.heap.size+1) 38 #[.int .i64 now,.slice B l.length d]:=Blk.new' _ _ _ (by simp)
 have q0:Below w.heap.size w ((w.alloc (.cells #[.int .i64 now,.slice A l.length c] 38)).alloc (.cells #[.int .i64 now,.slice B l.length d] 38)):=below_by
 go_enter Tryz.func47,Tryz.ntmps47
 go_wp2_with fail
 go_loopw [5] (fun i wr=>∃ k:Nat,k≤l.length∧i = .int .i64 k∧Blk wr w.heap.size 38 #[.int .i64 now,.slice A l.length c]∧Blk wr (w.heap.size+1) 38 #[.int .i64 now,.slice B l.length d]∧Below w.heap.size w wr) (fun i _=>l.length - (intOf i).toNat)
 case atStart=>exact ⟨0,by omega,rfl,X0,Z0,q0⟩
 case round=>
  obtain ⟨k,hk,rfl,X,Z,hbr⟩:=hrel
  clear X0 Z0 q0
  have Sa:=ha.bl hbr;have Sb:=hb.bl hbr
  have lx:=X.lt;have lz:=Z.lt
  (try clear cX fX);have cX:=X.cell;have fX:=X.frozen;(try clear cZ fZ);have cZ:=Z.cell;have fZ:=Z.frozen
  by_cases hlt:k<l.length
  ·obtain ⟨b1,o1,A1,n1,c1,A2,n2,c2,A3,n3,c3,rfl,hb1,E1,N1,T1⟩:=Sa.sl.at_ hlt
   obtain ⟨b2,o2,B1,m1,d1,B2,m2,d2,B3,m3,d3,rfl,hb2,E2,N2,T2⟩:=Sb.sl.at_ hlt
   generalize l[k]=x at E1 E2 N1 N2
   clear Sa Sb T1 T2 ha hb
   obtain ⟨xk,⟨vk,vt,vc,ps,is_,ss⟩,xt⟩:=x
   obtain ⟨e0,e1,e2,e3,e4,e5,e6,e7⟩:=E1
   obtain ⟨g0,g1,g2,g3,g4,g5,g6,g7⟩:=E2
   simp only at e0 e1 e2 e3 e7 g0 g1 g2 g3 g7
   have hC:=fun w' (hw:Below wr.heap.size wr w')=>sameValue_eq ⟨vk,vt,vc,ps,is_,ss⟩ ⟨vk,vt,vc,ps,is_,ss⟩ A1 A2 A3 B1 B2 B3 n1 c1 n2 c2 n3 c3 m1 d1 m2 d2 m3 d3 w' (N1.bl hw) (N2.bl hw) rfl
   have HC:=hide hC
   clear hC N1 N2
   go_wp2_with fail
   refine (HC.out _ below_by).mono ?_
   rintro e w1 ⟨rfl,hb1'⟩
   have q1:Below wr.heap.size wr w1:=below_by
   go_wp2_with fail
   go_roundw
   case rel=>exact ⟨k+1,by omega,by go_num,X.bl q1,Z.bl q1,bstep hbr q1⟩
   case measure=>simp [intOf];omega
  ·obtain rfl:k=l.length:=by omega
   go_wp2_with fail
   go_ret
   exact ⟨rfl,below_by⟩
set_option maxRecDepth 100000 in
theorem sameMachine_eq (m:Mach) (A A' B B':Option Addr) (n c n' c' k d k' d':Nat) (w:World) (hE1:St w A n c m.ents) (hE2:St w A' n' c' m.ents) (hC1:Ci w B k d m.clis) (hC2:Ci w B' k' d' m.clis) (hl:m.ents.length≤1048576) (hl2:m.clis.length≤1048576) :
  Calls Tryz.prog 21 #[.agg #[.int .i64 m.now,.slice A n c,.int .i64 m.next,.slice B k d],.agg #[.int .i64 m.now,.slice A' n' c',.int .i64 m.next,.slice B' k' d']] w fun e w'=>e = .returned (.bool true)∧Below w.heap.size w w':=by
 have KS:=hide (fun w' (hb:Below w.heap.size w w')=>sameStore_eq m.now A A' n n' c c' m.ents w' (hE1.bl hb) (hE2.bl hb) hl)
 have hk1:=hC1.sl.len
 have hk2:=hC2.sl.len
 obtain ⟨now,ents,next,clis⟩:=m
 simp only at KS hk1 hk2 hC1 hC2 hl2 ⊢
 clear hE1 hE2 hl
 subst hk1
 subst hk2
 have X0:=(Blk.new w 41 #[.int .i64 now,.slice A n c,.int .i64 next,.slice B clis.length d]).alloc (.cells #[.int .i64 now,.slice A' n' c',.int .i64 next,.slice B' clis.length d'] 41)
 have Z0:Blk ((w.alloc (.cells #[.int .i64 now,.slice A n c,.int .i64 next,.slice B clis.length d] 41)).alloc (.cells #[.int .i64 now,.slice A' n' c',.int .i64 next,.slice B' clis.length d'] 41)) (w.heap.size+1) 41 #[.int .i64 now,.slice A' n' c',.int .i64 next,.slice B' clis.length d']:=Blk.new' _ _ _ (by simp)
 have q0:Below w.heap.size w ((w.alloc (.cells #[.int .i64 now,.slice A n c,.int .i64 next,.slice B clis.length d] 41)).alloc (.cells #[.int .i64 now,.slice A' n' c',.int .i64 next,.slice B' clis.length d'] 41)):=below_by
 go_enter Tryz.func21,Tryz.ntmps21
 go_wp2_with fail
 refine (KS.out _ q0).mono ?_
 rintro e w1 ⟨rfl,hb1⟩
 replace X0:=X0.bl hb1;replace Z0:=Z0.bl hb1
 replace q0:=bstep q0 hb1
 clear hb1 KS
 (try clear cX0 fX0);have cX0:=X0.cell;have fX0:=X0.frozen;(try clear cZ0 fZ0);have cZ0:=Z0.cell;have fZ0:=Z0.frozen
 go_wp2_with fail
 clear cX0 fX0 cZ0 fZ0
 go_loopw [5] (fun i wr=>∃ k:Nat,k≤clis.length∧i = .int .i64 k∧Blk wr w.heap.size 41 #[.int .i64 now,.slice A n c,.int .i64 next,.slice B clis.length d]∧Blk wr (w.heap.size+1) 41 #[.int .i64 now,.slice A' n' c',.int .i64 next,.slice B' clis.length d']∧Below w.heap.size w wr) (fun i _=>clis.length - (intOf i).toNat)
 case atStart=>exact ⟨0,by omega,rfl,X0,Z0,q0⟩
 case round=>
  obtain ⟨k,hk,rfl,X,Z,hbr⟩:=hrel
  clear X0 Z0 q0
  have lx:=X.lt;have lz:=Z.lt
  (try clear cX fX);have cX:=X.cell;have fX:=X.frozen;(try clear cZ fZ);have cZ:=Z.cell;have fZ:=Z.frozen
  by_cases hlt:k<clis.length
  ·obtain ⟨b1,o1,Y1,m1,d1,rfl,hb1,E1,T1⟩:=(hC1.bl hbr).sl.at_ hlt
   obtain ⟨b2,o2,Y2,m2,d2,rfl,hb2,E2,T2⟩:=(hC2.bl hbr).sl.at_ hlt
   generalize clis[k]=x at E1 E2 T1 T2
   obtain ⟨xi,xs,xt,⟨rc,rt,rn,rl⟩⟩:=x
   obtain ⟨e0,e1,e2,e3,e4,e5,e6⟩:=E1
   obtain ⟨g0,g1,g2,g3,g4,g5,g6⟩:=E2
   simp only at e0 e1 e2 e3 e4 e5 g0 g1 g2 g3 g4 g5 T1 T2
   have HC:=hide (fun w' (hw:Below wr.heap.size wr w')=>sameReply_eq ⟨rc,rt,rn,rl⟩ ⟨rc,rt,rn,rl⟩ Y1 Y2 m1 m2 d1 d2 w' (T1.bl hw).sl (T2.bl hw).sl rfl)
   clear T1 T2
   have hz1:(0:Int)≤(k:Int):=by omega
   have hz2:(k:Int)<(clis.length:Int):=by omega
   have q1:Below wr.heap.size wr ((wr.alloc (.cells #[.int .i64 xi,.int .i64 xs,.int .i64 xt,.int .i64 rc,.string rt,.int .i64 rn,.slice Y1 m1 d1] 104)).alloc (.cells #[.int .i64 xi,.int .i64 xs,.int .i64 xt,.int .i64 rc,.string rt,.int .i64 rn,.slice Y2 m2 d2] 104)):=below_by
   have HQ:=hide (fun w' (hb:Below _ _ w')=>bstep q1 hb)
   go_wp2_with fail
   refine (HC.out _ q1).mono ?_
   rintro e w3 ⟨rfl,hb3⟩
   have q3:=HQ.out _ hb3
   have X3:=X.bl q3;have Z3:=Z.bl q3
   have q4:=bstep hbr q3
   clear HC HQ q1 hb3 q3 cX fX cZ fZ e0 e1 e2 e3 e4 e5 e6 g0 g1 g2 g3 g4 g5 g6
   go_wp2_with fail
   go_roundw
   case rel=>exact ⟨k+1,by omega,by go_num,X3,Z3,q4⟩
   case measure=>simp [intOf];omega
  ·obtain rfl:k=clis.length:=by omega
   go_wp2_with fail
   go_ret
   exact ⟨rfl,hbr⟩
end Go.Proofs.YtgmojjclobkpjaaGreatDoor

