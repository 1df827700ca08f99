import Derived.Test.YtgdcofbnbiclmaaGreatDoorQCrwM
import Derived.Test.YtgdcofbnbiclmaaGreatDoorQHeldG
import Derived.Test.YtgdcofbnbiclmaaGreatDoorQBlkS
import Derived.Test.YtgdcofbnbiclmaaGreatDoorQTapS
import Derived.Test.YtgdcofbnbiclmaaGreatDoorQHeldX
import Derived.Test.YtgdcofbnbiclmaaGreatDoorQCrwP
import Derived.Test.YtgdcofbnbiclmaaGreatDoorQMatchP
import Derived.StillTailTactics
import Derived.Test.YtgdcofbnbiclmaaGreatDoorQWire
namespace Go.Proofs.YtgdcofbnbiclmaaGreatDoor
set_option linter.all false
set_option maxHeartbeats 32000000
open Go.RowKit
def Cr (w:World) (base Kb:Nat) (M:Nat→Prop) (s:Cw):Prop:=∃ a v,Crw w base Kb a v s∧M=Mut Kb a v
def CPost (base Kb:Nat) (M:Nat→Prop) (s':Cw) (w w':World):Prop:=∃ M',Cr w' base Kb M' s'∧Keep M M' w w'
section
variable {w w':World} {base Kb:Nat} {M:Nat→Prop} {s:Cw} {i:Nat} {a:T3 NA} {v:T3 Value}
theorem Cr.bl (h:Cr w base Kb M s) (hb:Below w.heap.size w w'):Cr w' base Kb M s:=by obtain ⟨a,v,h1,h2⟩:=h;exact ⟨a,v,h1.bl hb,h2⟩
theorem Cr.lt (h:Cr w base Kb M s) {b:Nat} (hb:M b):b<w.heap.size∧base≤b:=by obtain ⟨a,v,h1,rfl⟩:=h;exact h1.mut_lt hb
theorem Cr.own (h:Cr w base Kb M s):M Kb∧Kb<w.heap.size∧base≤Kb∧base≤w.heap.size:=by obtain ⟨a,v,h1,rfl⟩:=h;exact ⟨.inl rfl,h1.raw.blk.lt,h1.kb,h1.bw⟩
theorem msg_info:(Tryz.prog.info? 153).map (fun i=>(i.zero,i.size,i.bytes))=some (some (.agg #[.int .i64 0,.int .i64 0,.int .i64 0,.int .i64 0,.int .i64 0,.int .i64 0,.bool false,.int .i64 0,.slice none 0 0,.int .i64 0,.int .i64 0,.int .i64 0,.slice none 0 0,.int .i64 0,.slice none 0 0]),15,168):=by kernel_rfl
theorem msg_size:(Tryz.prog.info? 153).map (·.size)=some 15:=by kernel_rfl
theorem Raw.nd0 (h:Raw w Kb (rowsOf s.nd a) v) (hi:i<3):w.cell? ⟨Kb,i*33,none⟩=some (.int .i64 (s.nd.get i).me):=by
 have:=h.cell hi (j:=0) (by omega);rw [rows_get hi] at this;exact this
theorem Raw.nd (h:Raw w Kb (rowsOf s.nd a) v) (hi:i<3) (j:Nat) (hj:j<33):w.cell? ⟨Kb,i*33+j,none⟩=(nodeC (s.nd.get i) (a.get i))[j]?:=by
 rw [←rows_get hi];exact h.cell hi hj
def Does (base Kb:Nat) (M:Nat→Prop) (s':Cw) (w:World) (e:Ending) (w':World):Prop:=e = .returned (.tuple #[])∧CPost base Kb M s' w w'
theorem CPost.same (h:Cr w base Kb M s) (hb:Below w.heap.size w w'):CPost base Kb M s w w':=⟨M,h.bl hb,Keep.of hb⟩
set_option maxRecDepth 100000 in
theorem send_any (h:Cr w base Kb M s) (hi:i<3) (q:Int) (m:Msg) (row:List Value) (hm:MsgAt w m row) :
  Calls Tryz.prog 128 #[.pointer (some ⟨Kb,i*33,none⟩),.int .i64 q,.agg row.toArray] w (Does base Kb M (s.put i ((s.nd.get i).send q m)) w):=by
 obtain ⟨a,v,H,rfl⟩:=h
 obtain ⟨I,i1,i2,E,e1,e2,C,c1,c2,rfl,hI,hE,hC⟩:=hm
 have n0:=H.raw.nd0 hi
 have n32:=H.raw.nd hi 32 (by omega)
 have hK:=H.raw.blk.lt
 obtain ⟨A,c,rows,hou,hO,hR,hS⟩:=(H.rep i hi).ou.form
 have B0:=Blk.new w 153 #[.int .i64 m.src,.int .i64 m.dst,.int .i64 m.kind,.int .i64 m.term,.int .i64 m.last,.int .i64 m.lastTerm,.bool m.yes,.int .i64 m.commit,.slice I i1 i2,.int .i64 m.si,.int .i64 m.st,.int .i64 m.sm.now,.slice E e1 e2,.int .i64 m.sm.next,.slice C c1 c2]
 have q0:Below w.heap.size w (w.alloc (.cells #[.int .i64 m.src,.int .i64 m.dst,.int .i64 m.kind,.int .i64 m.term,.int .i64 m.last,.int .i64 m.lastTerm,.bool m.yes,.int .i64 m.commit,.slice I i1 i2,.int .i64 m.si,.int .i64 m.st,.int .i64 m.sm.now,.slice E e1 e2,.int .i64 m.sm.next,.slice C c1 c2] 153)):=below_by
 simp only [nodeC,List.getElem?_cons_zero,List.getElem?_cons_succ,hou] at n32
 obtain ⟨me,hme⟩:∃ me,me=(s.nd.get i).me:=⟨_,rfl⟩
 rw [←hme] at n0
 have hn:=hS.len
 have HS:=hide (show (s.nd.get i).send q m=if (s.nd.get i).out.length<300 then { s.nd.get i with out:=(s.nd.get i).out ++ [{ m with src:=me,dst:=q }] } else s.nd.get i by rw [hme];rfl)
 have HM:=hide (show ∀ w',FrI w w'→MsgAt w' { m with src:=me,dst:=q } #[.int .i64 me,.int .i64 q,.int .i64 m.kind,.int .i64 m.term,.int .i64 m.last,.int .i64 m.lastTerm,.bool m.yes,.int .i64 m.commit,.slice I i1 i2,.int .i64 m.si,.int .i64 m.st,.int .i64 m.sm.now,.slice E e1 e2,.int .i64 m.sm.next,.slice C c1 c2].toList from fun w' f=>⟨I,i1,i2,E,e1,e2,C,c1,c2,rfl,hI.fri f,hE.fri f,hC.fri f⟩)
 clear hI hE hC hme hS
 generalize hX:s.put i ((s.nd.get i).send q m)=X
 have HX:=hide hX
 clear hX
 show Calls Tryz.prog _ #[_,_,.agg #[.int .i64 m.src,.int .i64 m.dst,.int .i64 m.kind,.int .i64 m.term,.int .i64 m.last,.int .i64 m.lastTerm,.bool m.yes,.int .i64 m.commit,.slice I i1 i2,.int .i64 m.si,.int .i64 m.st,.int .i64 m.sm.now,.slice E e1 e2,.int .i64 m.sm.next,.slice C c1 c2]] w _
 by_cases hlt:(s.nd.get i).out.length<300
 ·have hl':((s.nd.get i).out.length:Int)<300:=by omega
  have HY:=hide (show X=s.put i { s.nd.get i with out:=(s.nd.get i).out ++ [{ m with src:=me,dst:=q }] } by rw [←HX.out,HS.out,if_pos hlt])
  clear HS HX
  go_enter Tryz.func128,Tryz.ntmps128
  go_upto_region 3 with fail
  obtain ⟨w1,hw1⟩:∃ w1,w1=(w.alloc (.cells #[.int .i64 me,.int .i64 q,.int .i64 m.kind,.int .i64 m.term,.int .i64 m.last,.int .i64 m.lastTerm,.bool m.yes,.int .i64 m.commit,.slice I i1 i2,.int .i64 m.si,.int .i64 m.st,.int .i64 m.sm.now,.slice E e1 e2,.int .i64 m.sm.next,.slice C c1 c2] 153)).drew:=⟨_,rfl⟩
  have q2:Below w.heap.size w w1:=by rw [hw1];exact below_by
  have B2:Blk w1 w.heap.size 153 #[.int .i64 me,.int .i64 q,.int .i64 m.kind,.int .i64 m.term,.int .i64 m.last,.int .i64 m.lastTerm,.bool m.yes,.int .i64 m.commit,.slice I i1 i2,.int .i64 m.si,.int .i64 m.st,.int .i64 m.sm.now,.slice E e1 e2,.int .i64 m.sm.next,.slice C c1 c2]:=by rw [hw1];exact (Blk.new w _ _).drew
  have H1:=H.bl q2
  have g32:w1.cell? ⟨Kb,i*33+32,none⟩=some (.slice A (s.nd.get i).out.length c):=by have:=H1.raw.nd hi 32 (by omega);simpa only [nodeC,List.getElem?_cons_zero,List.getElem?_cons_succ,hou] using this
  refine wp_region_x (l:=[10]) (S:=fun w'=>w'.cell? ⟨Kb,i*33+32,none⟩=some (.slice A (s.nd.get i).out.length c)∧Blk w' w.heap.size 153 #[.int .i64 me,.int .i64 q,.int .i64 m.kind,.int .i64 m.term,.int .i64 m.last,.int .i64 m.lastTerm,.bool m.yes,.int .i64 m.commit,.slice I i1 i2,.int .i64 m.si,.int .i64 m.st,.int .i64 m.sm.now,.slice E e1 e2,.int .i64 m.sm.next,.slice C c1 c2]) (by kernel_rfl) (by rw [←hw1];exact ⟨g32,B2⟩) (fun hS=>?_)
  rw [←hw1] at hS ⊢
  clear hw1 B0 q0 n0 n32
  refine wpAnyX_tq 0 ?_
  refine wpAnyX_tq 1 ?_
  refine wpAnyX_tq 2 ?_
  refine wpAnyX_tq 3 ?_
  refine wpAnyX_tq 4 ?_
  refine wpAnyX_tq 5 ?_ (hy:=yieldsIf_lod (by rfl) 153 _ rfl rfl (fun w' h=>h.2) Tryz.underlying153 rfl msg_size)
  have HR1:=H1.raw
  have hK1:=H1.raw.blk.lt
  have hl1:=B2.lt
  have hb1:=H1.bw
  have O1:=(H1.rep i hi).ou
  rw [hou] at O1
  obtain ⟨rows1,O1,R1⟩:=O1
  clear hS
  refine wpAnyX_oq 6 fun K hK=>?_
  go_wp2_with fail
  refine hK.out _ _ (Or.inr ⟨(World.cell?_alloc_lt w1 _ _ hK1).trans g32,B2.alloc _⟩) (fun hS=>?_)
  clear hK K
  refine wpAnyX_oq 7 fun K hK=>?_
  refine wpList_push_k rfl _ _ _ rfl Tryz.underlying116 msg_info rfl (by decide) (by rfl) O1 rfl (by rfl) (row:=#[.int .i64 me,.int .i64 q,.int .i64 m.kind,.int .i64 m.term,.int .i64 m.last,.int .i64 m.lastTerm,.bool m.yes,.int .i64 m.commit,.slice I i1 i2,.int .i64 m.si,.int .i64 m.st,.int .i64 m.sm.now,.slice E e1 e2,.int .i64 m.sm.next,.slice C c1 c2]) rfl (all_one rfl) (by unfold maxLen;omega) (by omega) hb1 ?_
  intro A5 c5 w5 O5 g5 hn5
  have P5:=Pushed.of O1 g5 hn5
  have R5:Raw w5 Kb (rowsOf s.nd a) v:=HR1.same (P5.blk Kb hK1 (fun e=>H1.notK (j:=i) (by omega) (by rw [slot_out hi,hou];exact e) rfl))
  have B5:Blk w5 w.heap.size 153 #[.int .i64 me,.int .i64 q,.int .i64 m.kind,.int .i64 m.term,.int .i64 m.last,.int .i64 m.lastTerm,.bool m.yes,.int .i64 m.commit,.slice I i1 i2,.int .i64 m.si,.int .i64 m.st,.int .i64 m.sm.now,.slice E e1 e2,.int .i64 m.sm.next,.slice C c1 c2]:=(P5.blk _ hl1 (fun e=>by have:=(H.slot (j:=i) (by omega) (by rw [slot_out hi,hou];exact e)).1;omega)).trans B2
  have M5:MSl w5 base (.slice A5 ((s.nd.get i).out.length+1) c5) ((s.nd.get i).out ++ [{ m with src:=me,dst:=q }]):=⟨_,O5,(R1.mono fun _ _ h=>h.fri P5.fr).app (Rws.one _ _ (HM.out w5 ((FrI.of q2).trans P5.fr)))⟩
  have g5':w5.cell? ⟨Kb,i*33+32,none⟩=some (.slice A (s.nd.get i).out.length c):=by have:=R5.nd hi 32 (by omega);simpa only [nodeC,List.getElem?_cons_zero,List.getElem?_cons_succ,hou] using this
  have f5:=R5.froz (i*33+32)
  refine hK.out _ _ (Or.inr ⟨g5',B5⟩) (fun hS=>?_)
  clear hK K g5 hn5 O5 O1 R1
  replace hS:=hS.resolve_left (by decide)
  refine wpAnyX_ps 8 ?_
  refine wpAnyX_ps 9 ?_
  clear hS
  refine wpAnyX_oq 10 fun K hK=>?_
  go_wp2_with fail
  refine hK.out _ _ (Or.inl (by decide)) (fun _=>?_)
  clear hK K
  refine wpAnyX_done (by kernel_rfl) ?_ _
  go_wp2_with fail
  go_end0
  obtain ⟨h1,h2⟩:=H1.push_out hi (by rw [hou];exact P5) M5
  exact ⟨rfl,_,by rw [HY.out];exact ⟨_,_,h1,rfl⟩,(Keep.of q2).trans h2⟩
 ·have hl':¬ (((s.nd.get i).out.length:Int)<300):=by omega
  obtain rfl:X=s:=by rw [←HX.out,HS.out,if_neg hlt];cases s;simp only [Cw.put];rw [T3.set_get _ hi]
  clear HX HS HM
  go_enter Tryz.func128,Tryz.ntmps128
  go_wp2_with fail
  go_end0
  exact ⟨rfl,CPost.same ⟨a,v,H,rfl⟩ q0⟩
theorem Cw.get_put (hi:i<3) (n:Nd):(s.put i n).nd.get i=n:=T3.get_set _ hi n
theorem Cw.put_put (hi:i<3) (n n':Nd):(s.put i n).put i n'=s.put i n':=by unfold Cw.put;simp only [T3.set_set _ hi]
theorem Cw.put_self (hi:i<3):s.put i (s.nd.get i)=s:=by cases s;simp only [Cw.put];rw [T3.set_get _ hi]
theorem CPost.pre {w1:World} {X:Cw} (hb:Below w.heap.size w w1) (h:CPost base Kb M X w1 w'):CPost base Kb M X w w':=by
 obtain ⟨M',h1,h2⟩:=h;exact ⟨M',h1,(Keep.of hb).trans h2⟩
theorem msg_nil (w:World) (m:Msg) (h1:m.items=[]) (h2:m.sm=zeroMach):MsgAt w m (msgC m (.slice none 0 0) (.slice none 0 0) (.slice none 0 0)):=
 ⟨none,0,0,none,0,0,none,0,0,rfl,by rw [h1];exact ⟨0,Own.nil⟩,by rw [h2];exact St.nil w,by rw [h2];exact Ci.nil w⟩
theorem last_node (h:Cr w base Kb M s) (hi:i<3) (hg:checkLog (s.nd.get i).b (s.nd.get i).bt (s.nd.get i).L=0) :
  Calls Tryz.prog 91 #[.pointer (some ⟨Kb,i*33,none⟩)] w fun e w'=>e = .returned (.tuple #[.int .i64 (s.nd.get i).lastP.1,.int .i64 (s.nd.get i).lastP.2])∧Below w.heap.size w w':=by
 obtain ⟨a,v,H,rfl⟩:=h
 obtain ⟨A,k,c,hlg,hO⟩:=(H.rep i hi).lg
 have n6:=H.raw.nd hi 6 (by omega)
 have n7:=H.raw.nd hi 7 (by omega)
 have n8:=H.raw.nd hi 8 (by omega)
 simp only [nodeC,List.getElem?_cons_zero,List.getElem?_cons_succ,hlg] at n6 n7 n8
 have hgg:=log_good hg
 have HL:=hide (Last_any _ _ A k c _ w ⟨by omega,by omega⟩ ⟨by omega,by omega⟩ hO.sl hg)
 unfold Nd.lastP
 generalize lastOf (s.nd.get i).b (s.nd.get i).bt (s.nd.get i).L=P at *
 obtain ⟨p,t⟩:=P
 generalize (s.nd.get i).b=b at *
 generalize (s.nd.get i).bt=bt at *
 clear hgg hO hg
 go_enter Tryz.func91,Tryz.ntmps91
 go_wp2_with fail
 refine HL.out.mono ?_
 rintro e w1 ⟨rfl,hb⟩
 go_wp2_with fail
 go_ret2
 exact ⟨rfl,hb⟩
end
section
variable {w w':World} {base Kb:Nat} {M:Nat→Prop} {s:Cw} {i:Nat} {a:T3 NA} {v:T3 Value}
def tellK (n:Nd) (m:Msg):Nat→Nd
 | 0=>n
 | k+1=>(tellK n m k).tellTo m k
theorem send_me (n:Nd) (q:Int) (m:Msg):(n.send q m).me=n.me:=by unfold Nd.send;split <;> rfl
theorem tellK_me (n:Nd) (m:Msg):∀ k,(tellK n m k).me=n.me
 | 0=>rfl
 | k+1=>by
  show ((tellK n m k).tellTo m k).me=n.me
  unfold Nd.tellTo
  split
  ·rw [send_me,tellK_me n m k]
  ·exact tellK_me n m k
set_option maxRecDepth 100000 in
theorem tell_any (h:Cr w base Kb M s) (hi:i<3) (m:Msg) (row:List Value) (hm:MsgAt w m row) :
  Calls Tryz.prog 105 #[.pointer (some ⟨Kb,i*33,none⟩),.agg row.toArray] w (Does base Kb M (s.put i ((s.nd.get i).tell m)) w):=by
 have hme:=fun k=>tellK_me (s.nd.get i) m k
 have HSD:=hide (fun (w1:World) (M1:Nat→Prop) (s1:Cw) (h1:Cr w1 base Kb M1 s1) (k:Keep M M1 w w1) (q:Int)=>send_any h1 hi q m row (hm.fri k.fr))
 have hX:s.put i ((s.nd.get i).tell m)=s.put i (tellK (s.nd.get i) m 3):=rfl
 rw [hX]
 clear hX
 generalize (s.nd.get i).me=me at *
 obtain ⟨I,i1,i2,E,e1,e2,C,c1,c2,rfl,hI,hE,hC⟩:=hm
 clear hI hE hC
 have HSD:=hide (show ∀ (w1:World) (M1:Nat→Prop) (s1:Cw) (h1:Cr w1 base Kb M1 s1) (k:Keep M M1 w w1) (q:Int),Calls Tryz.prog 128 #[.pointer (some ⟨Kb,i*33,none⟩),.int .i64 q,.agg #[.int .i64 m.src,.int .i64 m.dst,.int .i64 m.kind,.int .i64 m.term,.int .i64 m.last,.int .i64 m.lastTerm,.bool m.yes,.int .i64 m.commit,.slice I i1 i2,.int .i64 m.si,.int .i64 m.st,.int .i64 m.sm.now,.slice E e1 e2,.int .i64 m.sm.next,.slice C c1 c2]] w1 (Does base Kb M1 (s1.put i ((s1.nd.get i).send q m)) w1) from HSD.out)
 show Calls Tryz.prog _ #[_,.agg #[.int .i64 m.src,.int .i64 m.dst,.int .i64 m.kind,.int .i64 m.term,.int .i64 m.last,.int .i64 m.lastTerm,.bool m.yes,.int .i64 m.commit,.slice I i1 i2,.int .i64 m.si,.int .i64 m.st,.int .i64 m.sm.now,.slice E e1 e2,.int .i64 m.sm.next,.slice C c1 c2]] w _
 have B0:=Blk.new w 153 #[.int .i64 m.src,.int .i64 m.dst,.int .i64 m.kind,.int .i64 m.term,.int .i64 m.last,.int .i64 m.lastTerm,.bool m.yes,.int .i64 m.commit,.slice I i1 i2,.int .i64 m.si,.int .i64 m.st,.int .i64 m.sm.now,.slice E e1 e2,.int .i64 m.sm.next,.slice C c1 c2]
 have q0:Below w.heap.size w (w.alloc (.cells #[.int .i64 m.src,.int .i64 m.dst,.int .i64 m.kind,.int .i64 m.term,.int .i64 m.last,.int .i64 m.lastTerm,.bool m.yes,.int .i64 m.commit,.slice I i1 i2,.int .i64 m.si,.int .i64 m.st,.int .i64 m.sm.now,.slice E e1 e2,.int .i64 m.sm.next,.slice C c1 c2] 153)):=below_by
 have hM0:¬ M w.heap.size:=fun hm=>by have:=(h.lt hm).1;omega
 obtain ⟨w1,hw1⟩:∃ w1,w1=w.alloc (.cells #[.int .i64 m.src,.int .i64 m.dst,.int .i64 m.kind,.int .i64 m.term,.int .i64 m.last,.int .i64 m.lastTerm,.bool m.yes,.int .i64 m.commit,.slice I i1 i2,.int .i64 m.si,.int .i64 m.st,.int .i64 m.sm.now,.slice E e1 e2,.int .i64 m.sm.next,.slice C c1 c2] 153):=⟨_,rfl⟩
 have k1:Keep M M w w1:=by rw [hw1];exact Keep.of q0
 have h1:Cr w1 base Kb M (s.put i (tellK (s.nd.get i) m 0)):=by rw [show tellK (s.nd.get i) m 0=s.nd.get i from rfl,Cw.put_self hi,hw1];exact h.bl q0
 have B1:Blk w1 w.heap.size 153 #[.int .i64 m.src,.int .i64 m.dst,.int .i64 m.kind,.int .i64 m.term,.int .i64 m.last,.int .i64 m.lastTerm,.bool m.yes,.int .i64 m.commit,.slice I i1 i2,.int .i64 m.si,.int .i64 m.st,.int .i64 m.sm.now,.slice E e1 e2,.int .i64 m.sm.next,.slice C c1 c2]:=by rw [hw1];exact B0
 have hl1:w.heap.size<w1.heap.size:=B1.lt
 go_enter Tryz.func105,Tryz.ntmps105
 go_wp2_with fail
 rw [←hw1]
 clear hw1 q0 B0 h
 have HME:=hide hme
 clear hme
 go_loopw [4,5] (fun s4 s5 wr=>∃ k:Nat,k≤3∧s5 = .int .i64 (k:Int)∧∃ M',Cr wr base Kb M' (s.put i (tellK (s.nd.get i) m k))∧Keep M M' w wr∧Blk wr w.heap.size 153 #[.int .i64 m.src,.int .i64 m.dst,.int .i64 m.kind,.int .i64 m.term,.int .i64 m.last,.int .i64 m.lastTerm,.bool m.yes,.int .i64 m.commit,.slice I i1 i2,.int .i64 m.si,.int .i64 m.st,.int .i64 m.sm.now,.slice E e1 e2,.int .i64 m.sm.next,.slice C c1 c2]∧¬ M' w.heap.size) (fun _ s5 _=>3 - (intOf s5).toNat)
 case atStart=>exact ⟨0,by omega,rfl,M,h1,k1,B1,hM0⟩
 case round=>
  obtain ⟨k,hk,rfl,M',hc,kk,B,hM'⟩:=hrel
  by_cases hlt:k<3
  ·have ik:(k:Int)<3:=by omega
   have HC:=hide hc
   obtain ⟨a,v,H,rfl⟩:=hc
   have n0:=H.raw.nd0 hi
   rw [Cw.get_put hi,HME.out k] at n0
   have hbl:=B.lt
   (try clear cB fB);have cB:=B.cell;have fB:=B.frozen
   by_cases hq:(k:Int)=me
   ·have hq':((k:Int) != me)=false:=by simp [hq]
    have HP:=hide (show tellK (s.nd.get i) m (k+1)=tellK (s.nd.get i) m k by show Nd.tellTo _ m k=_;unfold Nd.tellTo;rw [if_neg (by rw [HME.out k];simpa using hq)])
    clear hq
    go_wp2_with fail
    go_roundw
    case rel=>exact ⟨k+1,by omega,by go_num,_,by rw [HP.out];exact HC.out,kk,B,hM'⟩
    case measure=>simp [intOf];omega
   ·have hq':((k:Int) != me)=true:=by simpa using hq
    have HP:=hide (show (s.put i (tellK (s.nd.get i) m k)).put i (((s.put i (tellK (s.nd.get i) m k)).nd.get i).send k m)=s.put i (tellK (s.nd.get i) m (k+1)) by
     rw [Cw.get_put hi,Cw.put_put hi]
     show _=s.put i (Nd.tellTo _ m k)
     unfold Nd.tellTo
     rw [if_pos (by rw [HME.out k];exact hq)])
    clear hq
    have HS:=hide (HSD.out wr _ _ HC.out kk k)
    rw [HP.out] at HS
    go_wp2_with fail
    refine HS.out.mono ?_
    rintro e w2 ⟨rfl,M2,hc2,kk2⟩
    have B2:=kk2.loc B hM'
    have hM2:=kk2.not hbl hM'
    have kk3:=kk.trans kk2
    clear cB fB n0
    go_wp2_with fail
    go_roundw
    case rel=>exact ⟨k+1,by omega,by go_num,M2,hc2,kk3,B2,hM2⟩
    case measure=>simp [intOf];omega
  ·obtain rfl:k=3:=by omega
   go_wp2_with fail
   go_end0
   exact ⟨rfl,M',hc,kk⟩
theorem syn_le (n:Nd):n.syn≤(tapeB n.recs).length:=tapeB_take_le _ _
end
section
variable {w w':World} {base Kb:Nat} {M:Nat→Prop} {s:Cw} {i:Nat} {a:T3 NA} {v:T3 Value}
theorem alone_any (me:Nat) (hme:me<3) (w:World) :
  Calls Tryz.prog 104 #[.int .i64 (me:Int)] w fun e w'=>e = .returned (.agg #[.bool (aloneV me).x,.bool (aloneV me).y,.bool (aloneV me).z])∧Below w.heap.size w w':=by
 match me,hme with
 | 0,_=>
  go_enter Tryz.func104,Tryz.ntmps104
  go_wp2_with fail
  refine bodyPost_ret (v:=.agg #[.bool true,.bool false,.bool false]) ?_ rfl ⟨rfl,below_by⟩
  simp [results,Tryz.results104,go_sem]
 | 1,_=>
  go_enter Tryz.func104,Tryz.ntmps104
  go_wp2_with fail
  refine bodyPost_ret (v:=.agg #[.bool false,.bool true,.bool false]) ?_ rfl ⟨rfl,below_by⟩
  simp [results,Tryz.results104,go_sem]
 | 2,_=>
  go_enter Tryz.func104,Tryz.ntmps104
  go_wp2_with fail
  refine bodyPost_ret (v:=.agg #[.bool false,.bool false,.bool true]) ?_ rfl ⟨rfl,below_by⟩
  simp [results,Tryz.results104,go_sem]
end
end Go.Proofs.YtgdcofbnbiclmaaGreatDoor

