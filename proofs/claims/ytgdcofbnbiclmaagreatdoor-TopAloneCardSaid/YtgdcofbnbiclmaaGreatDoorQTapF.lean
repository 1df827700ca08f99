import Derived.Test.YtgdcofbnbiclmaaGreatDoorQFoldP
import Derived.Test.YtgdcofbnbiclmaaGreatDoorQDecM
import Derived.Test.YtgdcofbnbiclmaaGreatDoorQHeldG
namespace Go.Proofs.YtgdcofbnbiclmaaGreatDoor
set_option linter.all false
set_option maxHeartbeats 32000000
open Go.RowKit
def OI (w:World) (A:Option Addr) (n c:Nat) (L:List Itm):Prop:=∃ B,Own w B 67 10 (.slice A n c) (itemRows L)
section
variable {w w':World} {A:Option Addr} {n c:Nat} {L:List Itm}
theorem OI.sl (h:OI w A n c L):Sl w 10 A n c (itemRows L):=by obtain ⟨B,h⟩:=h;exact h.sl'
theorem OI.bl (h:OI w A n c L) (hb:Below w.heap.size w w'):OI w' A n c L:=by obtain ⟨B,h⟩:=h;exact ⟨B,h.below hb⟩
theorem OI.grew (h:OI w A n c L) {g:Nat} {t:TypeId} {cs:Array Value} (R:Blk w g t cs) (hg:w.grownBy w' (some g)) (hne:t≠67:=by decide):OI w' A n c L:=by obtain ⟨B,h⟩:=h;exact ⟨B,own_grew h R hg hne⟩
theorem OI.len (h:OI w A n c L):L.length=n:=rows_len h.sl
end
theorem log_size:(Tryz.prog.info? 43).map (·.size)=some 3:=by kernel_rfl
def LinePost (b bt:Int) (r:List Itm×Int) (w:World) (e:Ending) (w':World):Prop:=
 ∃ A n c,e = .returned (.tuple #[.agg #[.int .i64 b,.int .i64 bt,.slice A n c],.int .i64 r.2])∧OI w' A n c r.1∧Below w.heap.size w w'
set_option maxRecDepth 100000 in
theorem line_any (b bt i:Int) (A:Option Addr) (n c:Nat) (L:List Itm) (x:Itm) (w:World) (hO:OI w A n c L) (hg:checkLog b bt L=0) (hi:I64 i) :
  Calls Tryz.prog 172 #[.agg #[.int .i64 b,.int .i64 bt,.slice A n c],.int .i64 i,.agg #[.int .i64 x.term,.int .i64 x.time,.bool x.nop,.int .i64 x.client,.int .i64 x.seq,.int .i64 x.cmd.kind,.string x.cmd.key,.string x.cmd.field,.string x.cmd.text,.int .i64 x.cmd.n]] w (LinePost b bt (lineP b bt L i x) w):=by
 obtain rfl:=hO.len
 have hgg:=log_good hg
 obtain ⟨g1,g2,g3,g4,g5,-,-⟩:=hgg
 have hb1:I64 b:=⟨by omega,by omega⟩
 have hb2:I64 bt:=⟨by omega,by omega⟩
 have i0:=hi.1;have i1:=hi.2
 have hS:=hO.sl
 have hnc:=hS.nc
 have hcm:=hS.cm
 have HL:=hide (fun w' (q:Below w.heap.size w w')=>Last_any b bt A L.length c L w' hb1 hb2 (hS.below q) hg)
 have hl1:(lastOf b bt L).1=b+L.length:=lastOf_place b bt L
 rw [hl1] at HL
 clear hl1
 generalize (lastOf b bt L).2=lt at *
 have wl:IntKind.i64.wrap (b+L.length+1)=b+L.length+1:=IntWalk.i64_in _ (by omega)
 have HLP:=hide (show lineP b bt L i x=if i≤b then (L,0) else if b+L.length+1<i then (L,10) else if checkLog b bt (L.take (i - b - 1).toNat ++ [x])=0 then (L.take (i - b - 1).toNat ++ [x],0) else (L,10) from rfl)
 generalize lineP b bt L i x=R at *
 have T0:=((Blk.new w 43 #[.int .i64 b,.int .i64 bt,.slice A L.length c]).alloc (.cells #[.int .i64 x.term,.int .i64 x.time,.bool x.nop,.int .i64 x.client,.int .i64 x.seq,.int .i64 x.cmd.kind,.string x.cmd.key,.string x.cmd.field,.string x.cmd.text,.int .i64 x.cmd.n] 67)).alloc (.cells #[.int .i64 0,.int .i64 0,.slice none 0 0] 43)
 have X0:Blk (((w.alloc (.cells #[.int .i64 b,.int .i64 bt,.slice A L.length c] 43)).alloc (.cells #[.int .i64 x.term,.int .i64 x.time,.bool x.nop,.int .i64 x.client,.int .i64 x.seq,.int .i64 x.cmd.kind,.string x.cmd.key,.string x.cmd.field,.string x.cmd.text,.int .i64 x.cmd.n] 67)).alloc (.cells #[.int .i64 0,.int .i64 0,.slice none 0 0] 43)) (w.heap.size+1) 67 #[.int .i64 x.term,.int .i64 x.time,.bool x.nop,.int .i64 x.client,.int .i64 x.seq,.int .i64 x.cmd.kind,.string x.cmd.key,.string x.cmd.field,.string x.cmd.text,.int .i64 x.cmd.n]:=(Blk.new' _ _ _ (by simp)).alloc _
 have R0:Blk (((w.alloc (.cells #[.int .i64 b,.int .i64 bt,.slice A L.length c] 43)).alloc (.cells #[.int .i64 x.term,.int .i64 x.time,.bool x.nop,.int .i64 x.client,.int .i64 x.seq,.int .i64 x.cmd.kind,.string x.cmd.key,.string x.cmd.field,.string x.cmd.text,.int .i64 x.cmd.n] 67)).alloc (.cells #[.int .i64 0,.int .i64 0,.slice none 0 0] 43)) (w.heap.size+1+1) 43 #[.int .i64 0,.int .i64 0,.slice none 0 0]:=Blk.new' _ _ _ (by simp)
 have q0:Below w.heap.size w (((w.alloc (.cells #[.int .i64 b,.int .i64 bt,.slice A L.length c] 43)).alloc (.cells #[.int .i64 x.term,.int .i64 x.time,.bool x.nop,.int .i64 x.client,.int .i64 x.seq,.int .i64 x.cmd.kind,.string x.cmd.key,.string x.cmd.field,.string x.cmd.text,.int .i64 x.cmd.n] 67)).alloc (.cells #[.int .i64 0,.int .i64 0,.slice none 0 0] 43)):=below_by
 have ret_old:∀ (w2:World) (k:Int),R=(L,k)→Blk w2 w.heap.size 43 #[.int .i64 b,.int .i64 bt,.slice A L.length c]→Blk w2 (w.heap.size+1+1) 43 #[.int .i64 0,.int .i64 0,.slice none 0 0]→Below w.heap.size w w2 →
   ∀ w9,Blk w9 (w.heap.size+1+1) 43 #[.int .i64 b,.int .i64 bt,.slice A L.length c]→w2.grownBy w9 (some (w.heap.size+1+1))→w9.heap.size=w2.heap.size →
   LinePost b bt R w (.returned (.tuple #[.agg #[.int .i64 b,.int .i64 bt,.slice A L.length c],.int .i64 k])) w9:=fun w2 k hR T2 R2 q2 w9 Z9 gr sz=>
  ⟨A,L.length,c,by rw [hR],by rw [hR];exact (hO.bl q2).grew R2 gr,below_grow q2 gr q2.size (by omega)⟩
 have HRO:=hide ret_old
 clear ret_old
 go_enter Tryz.func172,Tryz.ntmps172
 (try clear cT0 fT0);have cT0:=T0.cell;have fT0:=T0.frozen;(try clear cX0 fX0);have cX0:=X0.cell;have fX0:=X0.frozen
 go_wp2_with fail
 refine (HL.out _ q0).mono ?_
 rintro e w1 ⟨rfl,b1⟩
 replace T0:=T0.below' b1
 replace X0:=X0.below' b1
 replace R0:=R0.below' b1
 have q1:=bstep q0 b1
 clear b1 q0 cT0 fT0 cX0 fX0 HL
 by_cases h1:i≤b
 ·have hR:R=(L,0):=by rw [HLP.out,if_pos h1]
  have HR:=hide (HRO.out _ 0 hR T0 R0 q1)
  clear hR HLP HRO X0 hO hg hS wl
  (try clear cT0 fT0);have cT0:=T0.cell;have fT0:=T0.frozen
  go_wp2_with (refine wpList_store_blk rfl 43 _ _ rfl (cells:=#[.int .i64 b,.int .i64 bt,.slice A L.length c]) rfl rfl R0 rfl log_size (all_one rfl) ?_;intro w9 Z9 gr9 sz9)
  have HP:=hide (HR.out _ Z9 gr9 sz9)
  clear gr9 sz9 R0 T0 cT0 fT0 HR
  (try clear cZ9 fZ9);have cZ9:=Z9.cell;have fZ9:=Z9.frozen
  go_wp2_with fail
  refine bodyPost_ret (v:=.tuple #[.agg #[.int .i64 b,.int .i64 bt,.slice A L.length c],.int .i64 0]) ?_ rfl HP.out
  simp [results,Tryz.results172,go_sem, *]
 by_cases h2:b+L.length+1<i
 ·have hR:R=(L,10):=by rw [HLP.out,if_neg h1,if_pos h2]
  have HR:=hide (HRO.out _ 10 hR T0 R0 q1)
  clear hR HLP HRO X0 hO hg hS
  (try clear cT0 fT0);have cT0:=T0.cell;have fT0:=T0.frozen
  go_wp2_with (refine wpList_store_blk rfl 43 _ _ rfl (cells:=#[.int .i64 b,.int .i64 bt,.slice A L.length c]) rfl rfl R0 rfl log_size (all_one rfl) ?_;intro w9 Z9 gr9 sz9)
  have HP:=hide (HR.out _ Z9 gr9 sz9)
  clear gr9 sz9 R0 T0 cT0 fT0 HR
  (try clear cZ9 fZ9);have cZ9:=Z9.cell;have fZ9:=Z9.frozen
  go_wp2_with fail
  refine bodyPost_ret (v:=.tuple #[.agg #[.int .i64 b,.int .i64 bt,.slice A L.length c],.int .i64 10]) ?_ rfl HP.out
  simp [results,Tryz.results172,go_sem, *]
 obtain ⟨k,hk⟩:=Int.eq_ofNat_of_zero_le (show 0≤i - b - 1 by omega)
 have hkl:k≤L.length:=by omega
 have wi1:IntKind.i64.wrap (i - b)=i - b:=IntWalk.i64_in _ (by omega)
 have wi2:IntKind.i64.wrap (i - b - 1)=(k:Int):=by rw [IntWalk.i64_in _ (by omega)];omega
 rw [if_neg h1,if_neg h2,show (i - b - 1).toNat=k by omega] at HLP
 have s1:=fun w=>run_take Tryz.underlying41 item_size A L.length c k (by omega) w
 have hT:=hS.take k (by omega) c (by omega) (Nat.le_refl _)
 rw [itemRows_take] at hT
 have HCL:=hide (fun w' (q:Below w.heap.size w w')=>Clone_item A k c (itemRows (L.take k)) w' (hT.below q) (item_one _) (by omega))
 have hLk:(L.take k).length=k:=by rw [List.length_take];omega
 have HK:=hide hk
 clear hk hT hO hg hS
 (try clear cT0 fT0);have cT0:=T0.cell;have fT0:=T0.frozen
 go_wp2_with fail
 clear cT0 fT0
 refine wp_region_x (l:=[]) (S:=fun w'=>w'.cell? ⟨w.heap.size,0,none⟩=some (.int .i64 b)∧w'.cell? ⟨w.heap.size,1,none⟩=some (.int .i64 bt)∧w'.cell? ⟨w.heap.size,2,none⟩=some (.slice A L.length c)∧w'.cell? ⟨w.heap.size+1,0,none⟩=some (.int .i64 x.term)∧w'.cell? ⟨w.heap.size+1,1,none⟩=some (.int .i64 x.time)∧w'.cell? ⟨w.heap.size+1,2,none⟩=some (.bool x.nop)∧w'.cell? ⟨w.heap.size+1,3,none⟩=some (.int .i64 x.client)∧w'.cell? ⟨w.heap.size+1,4,none⟩=some (.int .i64 x.seq)∧w'.cell? ⟨w.heap.size+1,5,none⟩=some (.int .i64 x.cmd.kind)∧w'.cell? ⟨w.heap.size+1,6,none⟩=some (.string x.cmd.key)∧w'.cell? ⟨w.heap.size+1,7,none⟩=some (.string x.cmd.field)∧w'.cell? ⟨w.heap.size+1,8,none⟩=some (.string x.cmd.text)∧w'.cell? ⟨w.heap.size+1,9,none⟩=some (.int .i64 x.cmd.n)) (by kernel_rfl) ⟨T0.drew.cell 0,T0.drew.cell 1,T0.drew.cell 2,X0.drew.cell 0,X0.drew.cell 1,X0.drew.cell 2,X0.drew.cell 3,X0.drew.cell 4,X0.drew.cell 5,X0.drew.cell 6,X0.drew.cell 7,X0.drew.cell 8,X0.drew.cell 9⟩ (fun hS=>?_)
 replace T0:=T0.drew;replace X0:=X0.drew;replace R0:=R0.drew;replace q1:=q1.drew
 obtain ⟨wd,hwd⟩:∃ wd,wd=w1.drew:=⟨_,rfl⟩
 rw [←hwd] at hS T0 X0 R0 q1 ⊢
 clear hwd
 have hsG:=hide (fun w' (q:Below wd.heap.size wd w')=>And.intro ((T0.below' q).cell 0) (And.intro ((T0.below' q).cell 1) (And.intro ((T0.below' q).cell 2) (And.intro ((X0.below' q).cell 0) (And.intro ((X0.below' q).cell 1) (And.intro ((X0.below' q).cell 2) (And.intro ((X0.below' q).cell 3) (And.intro ((X0.below' q).cell 4) (And.intro ((X0.below' q).cell 5) (And.intro ((X0.below' q).cell 6) (And.intro ((X0.below' q).cell 7) (And.intro ((X0.below' q).cell 8) ((X0.below' q).cell 9)))))))))))))
 refine wpAnyX_tq 0 ?_
 refine wpAnyX_tq 1 ?_
 refine wpAnyX_tq 2 ?_
 refine wpAnyX_tq 3 ?_
 refine wpAnyX_tq 4 ?_
 refine wpAnyX_tq 5 ?_
 refine wpAnyX_tq 6 ?_
 refine wpAnyX_tq 7 ?_
 refine wpAnyX_tq 8 ?_
 refine wpAnyX_tq 9 ?_
 refine wpAnyX_tq 10 ?_
 refine wpAnyX_tq 11 ?_
 refine wpAnyX_tq 13 ?_
 clear hS
 refine wpG_start2 (j1:=14) (d1:=44) (t1:=67) (z1:=#[.int .i64 x.term,.int .i64 x.time,.bool x.nop,.int .i64 x.client,.int .i64 x.seq,.int .i64 x.cmd.kind,.string x.cmd.key,.string x.cmd.field,.string x.cmd.text,.int .i64 x.cmd.n]) (v1:=vsl 1) (C1:=fun a=>a.tmps[43]?.getD undef = .agg #[.int .i64 x.term,.int .i64 x.time,.bool x.nop,.int .i64 x.client,.int .i64 x.seq,.int .i64 x.cmd.kind,.string x.cmd.key,.string x.cmd.field,.string x.cmd.text,.int .i64 x.cmd.n]) (j2:=17) (d2:=11) (t2:=43) (z2:=#[.int .i64 0,.int .i64 0,.slice none 0 0]) (v2:=vptr) (C2:=fun _=>True) ⟨⟨_,rfl,rfl,rfl,fun a w h=>?al1⟩,vsl_inj 1⟩ ⟨⟨_,rfl,rfl,rfl,fun a w _=>?al2⟩,vptr_inj⟩ (fun al1 al2=>?_)
 (case al1=>simp [go_sem,execOp,h,vsl])
 (case al2=>simp [go_sem,execOp,vptr])
 refine wpG_phase2 (base:=wd.heap.size) al1 al2 12 (f:=3) (fun b_ c_=>#[true,true,true,true,true,true,true,true,true,true,true,true,false,true,b_,false,false,c_,false]) (fun w'=>Below wd.heap.size wd w') (x:=undef) (y:=undef) (fun w' q=>hsG.out w' q) (fun w' o q=>q.alloc q.size o) (fun w' q=>q.size) (fun _ _=>rfl) (fun _ _=>trivial) (Below.refl _ wd) PendG.no PendG.no TwoG.no ?_
 intro b_ c_ x_ y_ w2 G2 hx hy hxy K_ hK_
 (try simp only [vptr,vsl,Act.put,List.setIfInBounds_toArray,List.set_cons_zero,List.set_cons_succ,List.getElem_toArray,List.getElem_cons_zero,List.getElem_cons_succ])
 go_wp2_with fail
 refine (HCL.out _ (bstep q1 G2)).mono ?_
 rintro e w3 ⟨v3,rfl,O3,b3⟩
 obtain ⟨A3,n3,c3,rfl⟩:=own_slice O3
 go_wp2_with fail
 have G3:=bstep G2 b3
 replace hx:=hx.bl b3
 replace hy:=hy.bl b3
 refine hK_.out _ _ (Or.inr (hsG.out _ G3)) ?_
 clear hK_ K_ HCL
 have h23:=G2.size
 replace O3:=O3.mono h23
 refine wpG_force (base:=wd.heap.size) al1 al2 (f:=3) (fun b_ c_=>#[true,true,true,true,true,true,true,true,true,true,true,true,true,true,b_,false,false,c_,false]) (fun w'=>Below w3.heap.size w3 w') (x:=x_) (y:=y_) (fun w' q=>hsG.out w' (bstep G3 q)) (fun w' o q=>q.alloc q.size o) (fun w' q=>Nat.le_trans G3.size q.size) (fun _ _=>rfl) (fun _ _=>trivial) (Below.refl _ w3) hx hy hxy ?_
 clear hx hy hxy
 intro c_ p_ y_ w4 G4 hp4 B4 hy hne
 replace O3:=O3.below G4
 replace G4:=bstep G3 G4
 refine wpG_phase1 (base:=wd.heap.size) al2 15 (f:=2) (fun b_=>#[true,true,true,true,true,true,true,true,true,true,true,true,true,true,true,false,false,b_,false]) (fun w'=>Below w4.heap.size w4 w') (x:=y_) (fun w' q=>hsG.out w' (bstep G4 q)) (fun w' o q=>q.alloc q.size o) (fun w' q=>Nat.le_trans G4.size q.size) (fun _=>trivial) (Below.refl _ w4) hy ?_
 clear hy
 intro c_ y_ w5 G5 hy K_ hK_
 (try simp only [vptr,vsl,Act.put,List.setIfInBounds_toArray,List.set_cons_zero,List.set_cons_succ,List.getElem_toArray,List.getElem_cons_zero,List.getElem_cons_succ])
 replace O3:=O3.below G5
 replace B4:=B4.below' G5
 replace G5:=bstep G4 G5
 have hX5:Sl w5 10 (some ⟨p_,0,none⟩) 1 1 (itemRows [x]):=Sl.of_blk B4 rfl (by intro r hr;obtain ⟨v,hv,rfl⟩:=List.mem_map.1 hr;rfl) rfl (by simp [maxLen])
 have h35:=G5.size
 go_wp2_with (at_builtin;refine wpList_pushes_g rfl _ _ _ rfl Tryz.underlying41 item_info rfl (by decide) (by rfl) O3 (by rfl) hX5 (item_one _) (by rw [itemRows_length,hLk];unfold maxLen at *;omega) (by rw [itemRows_length,hLk];omega) h35 ?_;intro A6 n6 c6 w6 O6 b6 g6)
 obtain rfl:n6=k+1:=by have:=O6.sl'.len;simp only [List.length_append,itemRows_length,hLk,List.length_singleton] at this;exact this.symm
 have S6:=O6.sl'
 rw [show itemRows (L.take k) ++ itemRows [x]=itemRows (L.take k ++ [x]) by simp [itemRows]] at O6 S6
 have G6:=G5.trans b6
 replace hy:=hy.grew g6 fun p _ R=>own_block_ne O3 R (by decide)
 have hS6:=hsG.out _ G6
 refine hK_.out _ _ (Or.inr hS6) ?_
 clear hK_ K_ G5 b6 g6 O3 hX5 B4
 refine wpG_take1 16 (f:=1) (fun b_=>#[true,true,true,true,true,true,true,true,true,true,true,true,true,true,true,true,false,b_,false]) ?_
 refine wpG_lay1 (base:=wd.heap.size) al2 (f:=1) (fun b_=>#[true,true,true,true,true,true,true,true,true,true,true,true,true,true,true,true,true,b_,false]) (fun w'=>Below w6.heap.size w6 w') (x:=y_) (fun w' q=>hsG.out w' (bstep G6 q)) (fun w' o q=>q.alloc q.size o) (fun w' q=>Nat.le_trans G6.size q.size) (fun _=>trivial) (Below.refl _ w6) hy ?_
 clear hy hS6
 intro g7 w7 b7 hg7 B7
 (try simp only [vptr,vsl,Act.put,List.setIfInBounds_toArray,List.set_cons_zero,List.set_cons_succ,List.getElem_toArray,List.getElem_cons_zero,List.getElem_cons_succ])
 replace O6:=O6.below b7
 replace G6:=bstep G6 b7
 have q7:=bstep q1 G6
 have T7:=T0.below' G6
 have R7:=R0.below' G6
 have hS7:=hsG.out _ G6
 have X7:=X0.below' G6
 clear al1 al2 b7 S6 X0
 have hq1:=q1.size
 have HNE:=hide (show w.heap.size≠g7∧w.heap.size+1≠g7∧w.heap.size+1+1≠g7 from ⟨by have:=T0.lt;omega,by have:=R0.lt;omega,by have:=R0.lt;omega⟩)
 refine wpAnyX_oq 18 fun K hK=>?_
 refine wpList_store_blk rfl 43 _ _ rfl (cells:=#[.int .i64 b,.int .i64 bt,.slice A6 (k+1) c6]) rfl rfl B7 rfl log_size (all_one rfl) ?_
 intro w9 Z9 gr9 sz9
 have T9:=grown_blk T7 gr9 HNE.out.1
 have R9:=grown_blk R7 gr9 HNE.out.2.2
 have O9:=own_grew O6 B7 gr9
 have q9:=below_grow q7 gr9 q7.size (by omega)
 have X9:=grown_blk X7 gr9 HNE.out.2.1
 refine hK.out _ _ (Or.inr ⟨T9.cell 0,T9.cell 1,T9.cell 2,X9.cell 0,X9.cell 1,X9.cell 2,X9.cell 3,X9.cell 4,X9.cell 5,X9.cell 6,X9.cell 7,X9.cell 8,X9.cell 9⟩) (fun _=>?_)
 clear hK K
 refine wpAnyX_done (by kernel_rfl) ?_ _
 obtain ⟨cl,hcl⟩:∃ cl,cl=checkLog b bt (L.take k ++ [x]):=⟨_,rfl⟩
 have HCK:=hide (Check_any b bt A6 (k+1) c6 (L.take k ++ [x]) w9 hb1 hb2 O9.sl')
 rw [←hcl] at HCK HLP
 clear hcl gr9 sz9 R7 T7 X7 X9 B7 O6 hS7 R0 T0 G6 q7 HNE hLk s1 wi1 wi2 wl h1 h2
 (try clear cZ9 fZ9);have cZ9:=Z9.cell;have fZ9:=Z9.frozen
 go_wp2_with fail
 refine HCK.out.mono ?_
 rintro e w10 ⟨rfl,b10⟩
 replace T9:=T9.below' b10
 replace R9:=R9.below' b10
 replace Z9:=Z9.below' b10
 replace O9:=O9.below b10
 have q10:=bstep q9 b10
 clear b10 HCK cZ9 fZ9
 by_cases h0:cl=0
 ·rw [if_pos h0] at HLP
  subst h0
  clear T9 HRO
  (try clear cZ9 fZ9);have cZ9:=Z9.cell;have fZ9:=Z9.frozen
  go_wp2_with (refine wpList_store_blk rfl 43 _ _ rfl (cells:=#[.int .i64 b,.int .i64 bt,.slice A6 (k+1) c6]) rfl rfl R9 rfl log_size (all_one rfl) ?_;intro w11 Z11 gr11 sz11)
  have HP:=hide (show LinePost b bt R w (.returned (.tuple #[.agg #[.int .i64 b,.int .i64 bt,.slice A6 (k+1) c6],.int .i64 0])) w11 from ⟨A6,k+1,c6,by rw [HLP.out],by rw [HLP.out];exact OI.grew ⟨_,O9⟩ R9 gr11,below_grow q10 gr11 q10.size (by omega)⟩)
  clear gr11 sz11 R9 Z9 cZ9 fZ9 O9 q10 q9 HLP
  (try clear cZ11 fZ11);have cZ11:=Z11.cell;have fZ11:=Z11.frozen
  go_wp2_with fail
  refine bodyPost_ret (v:=.tuple #[.agg #[.int .i64 b,.int .i64 bt,.slice A6 (k+1) c6],.int .i64 0]) ?_ rfl HP.out
  simp [results,Tryz.results172,go_sem, *]
 ·rw [if_neg h0] at HLP
  have hcb:(cl == 0)=false:=by simpa using h0
  have HR:=hide (HRO.out _ 10 HLP.out T9 R9 q10)
  clear HRO HLP Z9 O9 h0
  (try clear cT9 fT9);have cT9:=T9.cell;have fT9:=T9.frozen
  go_wp2_with (refine wpList_store_blk rfl 43 _ _ rfl (cells:=#[.int .i64 b,.int .i64 bt,.slice A L.length c]) rfl rfl R9 rfl log_size (all_one rfl) ?_;intro w11 Z11 gr11 sz11)
  have HP:=hide (HR.out _ Z11 gr11 sz11)
  clear gr11 sz11 R9 T9 cT9 fT9 HR q10 q9
  (try clear cZ11 fZ11);have cZ11:=Z11.cell;have fZ11:=Z11.frozen
  go_wp2_with fail
  refine bodyPost_ret (v:=.tuple #[.agg #[.int .i64 b,.int .i64 bt,.slice A L.length c],.int .i64 10]) ?_ rfl HP.out
  simp [results,Tryz.results172,go_sem, *]
end Go.Proofs.YtgdcofbnbiclmaaGreatDoor

