import Derived.Test.YtgmojjclobkpjaaGreatDoorQTapB
import Derived.Test.YtgmojjclobkpjaaGreatDoorQHeldS
import Derived.Test.YtgmojjclobkpjaaGreatDoorQHeldG
import Derived.Test.YtgmojjclobkpjaaGreatDoorQTapP
import Derived.Test.YtgmojjclobkpjaaGreatDoorQRest
namespace Go.Proofs.YtgmojjclobkpjaaGreatDoor
set_option linter.all false
set_option maxHeartbeats 32000000
open Go.RowKit
set_option maxRecDepth 100000 in
theorem encode_load (i t:Int) (hi:numberOk i=true) (ht:numberOk t=true) (m:Mach) (hok:MachOk m) (EA CA:Option Addr) (en ec cn cc:Nat) (w:World) (hE:St w EA en ec m.ents) (hC:Ci w CA cn cc m.clis) :
  Calls Tryz.prog 52 #[.agg #[.int .i64 3,.int .i64 0,.int .i64 0,.int .i64 0,.int .i64 0,.int .i64 0,.bool false,.int .i64 0,.int .i64 0,.int .i64 0,.string { data:=#[] },.string { data:=#[] },.string { data:=#[] },.int .i64 0,.int .i64 i,.int .i64 t,.int .i64 m.now,.slice EA en ec,.int .i64 m.next,.slice CA cn cc]] w fun e w'=>∃ A n c,e = .returned (.slice A n c)∧Own w' w.heap.size 5 1 (.slice A n c) (byteRows (RK.load i t m).bytes)∧Below w.heap.size w w':=by
 have ni:=number_iff.1 hi
 have nt:=number_iff.1 ht
 have HEN:=hide (fun w' (q:Below w.heap.size w w')=>(Encode_any hok EA CA en ec cn cc w' (hE.bl q) (hC.bl q)))
 have hlen:=encB_in hok
 have hpos:=encB_pos m
 have hu8:=u8s_mach hok
 have hbs:(RK.load i t m).bytes=u8 3 :: (three i ++ (three t ++ encB m)):=rfl
 rw [hbs]
 clear hbs hE hC hok hi ht
 obtain ⟨now,ents,next,clis⟩:=m
 simp only at HEN ⊢
 unfold EncPost at HEN
 generalize encB ⟨now,ents,next,clis⟩=bs at *
 have T0:=Blk.new w 45 #[.int .i64 3,.int .i64 0,.int .i64 0,.int .i64 0,.int .i64 0,.int .i64 0,.bool false,.int .i64 0,.int .i64 0,.int .i64 0,.string { data:=#[] },.string { data:=#[] },.string { data:=#[] },.int .i64 0,.int .i64 i,.int .i64 t,.int .i64 now,.slice EA en ec,.int .i64 next,.slice CA cn cc]
 have q0:Below w.heap.size w (w.alloc (.cells #[.int .i64 3,.int .i64 0,.int .i64 0,.int .i64 0,.int .i64 0,.int .i64 0,.bool false,.int .i64 0,.int .i64 0,.int .i64 0,.string { data:=#[] },.string { data:=#[] },.string { data:=#[] },.int .i64 0,.int .i64 i,.int .i64 t,.int .i64 now,.slice EA en ec,.int .i64 next,.slice CA cn cc] 45)):=below_by
 go_enter Tryz.func52,Tryz.ntmps52
 (try clear cT0 fT0);have cT0:=T0.cell;have fT0:=T0.frozen
 go_wp2_with fail
 refine (HEN.out _ q0).mono ?_
 rintro e w1 ⟨A1,n1,c1,rfl,o1,b1⟩
 have O1:=Own.of_row o1 (Nat.le_refl _)
 have S1:=O1.sl'
 obtain rfl:bs.length=n1:=by rw [←S1.len,byteRows_length]
 have T1:=T0.below' b1
 have q1:=bstep q0 b1
 clear o1 b1 cT0 fT0 T0 q0 HEN O1
 go_wp2_with fail
 refine wp_region_x (l:=[]) (S:=fun w'=>w'.cell? ⟨w.heap.size,14,none⟩=some (.int .i64 i)∧w'.cell? ⟨w.heap.size,15,none⟩=some (.int .i64 t)) (by kernel_rfl) ⟨T1.drew.cell 14,T1.drew.cell 15⟩ (fun hS=>?_)
 replace T1:=T1.drew;replace S1:=S1.below (Below.refl _ w1).drew
 replace q1:=q1.drew
 obtain ⟨wd,hwd⟩:∃ wd,wd=w1.drew:=⟨_,rfl⟩
 rw [←hwd] at hS T1 S1 q1 ⊢
 clear hwd
 have hsG:∀ w',Below wd.heap.size wd w'→w'.cell? ⟨w.heap.size,14,none⟩=some (.int .i64 i)∧w'.cell? ⟨w.heap.size,15,none⟩=some (.int .i64 t):=fun w' q=>⟨(T1.below' q).cell 14,(T1.below' q).cell 15⟩
 refine wpAnyX_tq 1 ?_
 refine wpAnyX_tq 2 ?_
 refine wpAnyX_tq 3 ?_
 refine wpAnyX_tq 5 ?_
 refine wpAnyX_tq 6 ?_
 refine wpAnyX_tq 7 ?_
 refine wpAnyX_tq 9 ?_
 have HSG:=hide hsG
 clear hsG hS
 refine wpS_startA (n:=5+left1 false) (listed:=(fun b_=>#[b_,true,true,true,false,true,true,true,false,true,false,false,false]) false) (j:=0) (d:=44) (t:=5) (z:=#[.int .u8 3]) (C:=fun _=>True) ?al1 ?aln ?all (fun al1=>?alr);(case al1=>exact ⟨⟨_,rfl,rfl,rfl,fun a w _=>by simp [go_sem,execOp]⟩⟩);(case aln=>kernel_rfl);(case all=>kernel_rfl)
 refine' wpS_phaseA' (f:=4) (i:=4) (L:=(fun b_=>#[b_,true,true,true,false,true,true,true,false,true,false,false,false])) (L':=(fun b_=>#[b_,true,true,true,true,true,true,true,false,true,false,false,false])) (base:=wd.heap.size) (G:=(fun w'=>Below wd.heap.size wd w')) (x:=undef) al1 ?an4 ?al4 ?aa4 ?hC4 ?ar4 ?ai4 ?ag4 ?ae14 ?ae34 ?ap14 (fun w' q=>HSG.out w' q) (fun w' o q=>q.alloc q.size o) (fun w' q=>q.size) ?aw4 ?am4;(case an4=>rfl);(case al4=>rfl);(case aa4=>rfl);(case hC4=>(intro;trivial));(case ar4=>kernel_rfl);(case ai4=>rfl);(case ag4=>rfl);(case ae14=>rfl);(case ae34=>(intros;rfl));(case ap14=>(intros;rfl))
 (case aw4=>exact Below.refl _ wd)
 intro b_ x_ wp0 hG_ hx_ K_ hK_;(try simp only [Act.put,List.setIfInBounds_toArray,List.set_cons_zero,List.set_cons_succ,List.getElem_toArray,List.getElem_cons_zero,List.getElem_cons_succ])
 go_wp2_with fail
 refine (three_any i (by omega) (by omega) _).mono ?_
 rintro e w3 ⟨A3,n3,c3,rfl,S3,b3⟩
 go_wp2_with fail
 have GA:Below wd.heap.size wd w3:=bstep hG_ b3
 have hxA:=hx_.bl b3
 have hSA:=HSG.out _ GA
 refine hK_.out _ _ (Or.inr hSA) ?_
 clear hK_ K_ hG_ hx_
 refine' wpS_phaseB' (f:=3) (i:=8) (L:=(fun b_=>#[b_,true,true,true,true,true,true,true,false,true,false,false,false])) (L':=(fun b_=>#[b_,true,true,true,true,true,true,true,true,true,false,false,false])) (base:=wd.heap.size) (G:=(fun w'=>Below w3.heap.size w3 w')) (x:=x_) (b:=b_) al1 ?an8 ?al8 ?aa8 ?hC8 ?ar8 ?ai8 ?ag8 ?ae18 ?ae38 ?ap18 (fun w' q=>HSG.out w' (bstep GA q)) (fun w' o q=>q.alloc q.size o) (fun w' q=>Nat.le_trans GA.size q.size) ?aw8 hxA ?am8;(case an8=>rfl);(case al8=>rfl);(case aa8=>rfl);(case hC8=>(intro;trivial));(case ar8=>kernel_rfl);(case ai8=>rfl);(case ag8=>rfl);(case ae18=>rfl);(case ae38=>(intros;rfl));(case ap18=>(intros;rfl))
 (case aw8=>exact Below.refl _ w3)
 clear hxA hSA
 intro b_ x_ wp1 hG_ hx_ K_ hK_;(try simp only [Act.put,List.setIfInBounds_toArray,List.set_cons_zero,List.set_cons_succ,List.getElem_toArray,List.getElem_cons_zero,List.getElem_cons_succ])
 go_wp2_with fail
 refine (three_any t (by omega) (by omega) _).mono ?_
 rintro e w5 ⟨A5,n5,c5,rfl,S5,b5⟩
 go_wp2_with fail
 have b35:Below w3.heap.size w3 w5:=bstep hG_ b5
 replace S3:=S3.below b35
 have GB:=bstep GA b35
 have hxB:=hx_.bl b5
 have hSB:=HSG.out _ GB
 refine hK_.out _ _ (Or.inr hSB) ?_
 clear hK_ K_ hG_ hx_ b5 b35 GA
 refine' wpS_layA' (f:=3) (L:=(fun b_=>#[b_,true,true,true,true,true,true,true,true,true,false,false,false])) (base:=wd.heap.size) (G:=(fun w'=>Below w5.heap.size w5 w')) (b:=b_) (x:=x_) al1 ?anL ?alL ?aaL ?hCL ?arL ?ae1L ?ap1L (fun w' q=>HSG.out w' (bstep GB q)) (fun w' o q=>q.alloc q.size o) (fun w' q=>Nat.le_trans GB.size q.size) ?awL hxB ?amL;(case anL=>rfl);(case alL=>rfl);(case aaL=>rfl);(case hCL=>(intro;trivial));(case arL=>kernel_rfl);(case ae1L=>rfl);(case ap1L=>(intros;rfl))
 (case awL=>exact Below.refl _ w5)
 clear hxB hSB
 intro g0 w6 G6 hg6 B6
 clear al1
 replace S3:=S3.below G6
 replace S5:=S5.below G6
 replace S1:=(S1.below GB).below G6
 have q6:=bstep q1 (bstep GB G6)
 have h36:n3=3:=by rw [←S3.len,byteRows_length];rfl
 have h56:n5=3:=by rw [←S5.len,byteRows_length];rfl
 subst h36
 subst h56
 have S0:Sl w6 1 (some ⟨g0,0,none⟩) 1 1 (byteRows [u8 3]):=Sl.of_blk B6 (by simp [byteRows,u8]) (by intro r hr;obtain ⟨v,_,rfl⟩:=List.mem_map.1 hr;rfl) rfl (by simp [maxLen])
 have hT6:=HSG.out _ (bstep GB G6)
 clear HSG GB G6 B6 T1
 refine wpAnyX_oq 10 fun K hK=>?_
 go_wp2_with fail
 have ba:Below w6.heap.size w6 (w6.alloc (.cells #[.slice (some ⟨g0,0,none⟩) 1 1,.slice A3 3 c3,.slice A5 3 c5,.slice A1 bs.length c1] 25)):=below_by
 refine hK.out _ _ (Or.inr ⟨(ba.cell (cell_lt hT6.1)).trans hT6.1,(ba.cell (cell_lt hT6.2)).trans hT6.2⟩) (fun hS=>?_)
 replace hS:=hS.resolve_left (by decide)
 clear hK K
 have HZ:Sl (w6.alloc (.cells #[.slice (some ⟨g0,0,none⟩) 1 1,.slice A3 3 c3,.slice A5 3 c5,.slice A1 bs.length c1] 25)) 1 (some ⟨w6.heap.size,0,none⟩) 4 4 (([⟨some ⟨g0,0,none⟩,1,1,[u8 3]⟩,⟨A3,3,c3,three i⟩,⟨A5,3,c5,three t⟩,⟨A1,bs.length,c1,bs⟩]:List Pt).map fun p=>[p.v]):=Sl.of_blk (Blk.new w6 _ _) rfl (by intro r hr;obtain ⟨v,_,rfl⟩:=List.mem_map.1 hr;rfl) rfl (by simp [maxLen])
 have HC:=hide (Concat_u8 [⟨some ⟨g0,0,none⟩,1,1,[u8 3]⟩,⟨A3,3,c3,three i⟩,⟨A5,3,c5,three t⟩,⟨A1,bs.length,c1,bs⟩] (some ⟨w6.heap.size,0,none⟩) 4 _ HZ (fun p hp=>by
  simp only [List.mem_cons,List.not_mem_nil,or_false] at hp
  rcases hp with rfl|rfl|rfl|rfl
  ·exact ⟨S0.below ba,U8s.one (by omega) (by omega)⟩
  ·exact ⟨S3.below ba,u8s_three i⟩
  ·exact ⟨S5.below ba,u8s_three t⟩
  ·exact ⟨S1.below ba,hu8⟩) (by simp [catB]) (by simp [catB,three];omega))
 have hcat:catB [⟨some ⟨g0,0,none⟩,1,1,[u8 3]⟩,⟨A3,3,c3,three i⟩,⟨A5,3,c5,three t⟩,⟨A1,bs.length,c1,bs⟩]=u8 3 :: (three i ++ (three t ++ bs)):=by simp [catB]
 have hl4:([⟨some ⟨g0,0,none⟩,1,1,[u8 3]⟩,⟨A3,3,c3,three i⟩,⟨A5,3,c5,three t⟩,⟨A1,bs.length,c1,bs⟩]:List Pt).length=4:=rfl
 rw [hcat,hl4] at HC
 refine wpAnyX_oq 11 fun K hK=>?_
 go_wp2_with fail
 refine HC.out.mono ?_
 rintro e w7 ⟨A7,n7,c7,rfl,O7,b7⟩
 go_wp2_with fail
 have q7:=bstep (bstep q6 ba) b7
 refine hK.out _ _ (Or.inr ⟨(b7.cell (cell_lt hS.1)).trans hS.1,(b7.cell (cell_lt hS.2)).trans hS.2⟩) (fun hS=>?_)
 replace hS:=hS.resolve_left (by decide)
 clear hK K
 refine wpAnyX_oq 12 fun K hK=>?_
 go_wp2_with fail
 refine hK.out _ _ (Or.inr hS) (fun _=>?_)
 clear hK K
 refine wpAnyX_done (by kernel_rfl) ?_ _
 go_wp2_with fail
 go_ret
 exact ⟨A7,n7,c7,rfl,O7.mono (by have:=q6.size;simp;omega),q7⟩
set_option maxRecDepth 100000 in
theorem encode_line (i:Int) (hi:numberOk i=true) (x:Itm) (hx:checkItem x=0) (w:World) :
  Calls Tryz.prog 52 #[.agg #[.int .i64 2,.int .i64 0,.int .i64 0,.int .i64 i,.int .i64 x.term,.int .i64 x.time,.bool x.nop,.int .i64 x.client,.int .i64 x.seq,.int .i64 x.cmd.kind,.string x.cmd.key,.string x.cmd.field,.string x.cmd.text,.int .i64 x.cmd.n,.int .i64 0,.int .i64 0,.int .i64 0,.slice none 0 0,.int .i64 0,.slice none 0 0]] w fun e w'=>∃ A n c,e = .returned (.slice A n c)∧Own w' w.heap.size 5 1 (.slice A n c) (byteRows (RK.line i x).bytes)∧Below w.heap.size w w':=by
 have ni:=number_iff.1 hi
 have HEN:=hide (fun w'=>EncodeItem_ok x w' hx)
 have hlen:=itemBytes_in hx
 have hone:=hide (bytes_one_ (u8s_item hx))
 have hone3:=hide (bytes_one_ (u8s_three i))
 have hbs:(RK.line i x).bytes=u8 2 :: (three i ++ itemBytes x):=rfl
 rw [hbs]
 clear hbs hi hx
 generalize itemBytes x=bs at *
 have T0:=Blk.new w 45 #[.int .i64 2,.int .i64 0,.int .i64 0,.int .i64 i,.int .i64 x.term,.int .i64 x.time,.bool x.nop,.int .i64 x.client,.int .i64 x.seq,.int .i64 x.cmd.kind,.string x.cmd.key,.string x.cmd.field,.string x.cmd.text,.int .i64 x.cmd.n,.int .i64 0,.int .i64 0,.int .i64 0,.slice none 0 0,.int .i64 0,.slice none 0 0]
 have q0:Below w.heap.size w (w.alloc (.cells #[.int .i64 2,.int .i64 0,.int .i64 0,.int .i64 i,.int .i64 x.term,.int .i64 x.time,.bool x.nop,.int .i64 x.client,.int .i64 x.seq,.int .i64 x.cmd.kind,.string x.cmd.key,.string x.cmd.field,.string x.cmd.text,.int .i64 x.cmd.n,.int .i64 0,.int .i64 0,.int .i64 0,.slice none 0 0,.int .i64 0,.slice none 0 0] 45)):=below_by
 go_enter Tryz.func52,Tryz.ntmps52
 (try clear cT0 fT0);have cT0:=T0.cell;have fT0:=T0.frozen
 go_wp2_with fail
 refine (HEN.out _).mono ?_
 rintro e w1 ⟨A1,n1,c1,rfl,O1,b1⟩
 have S1:=O1.sl'
 obtain rfl:bs.length=n1:=by rw [←S1.len,byteRows_length]
 have T1:=T0.below' b1
 have q1:=bstep q0 b1
 clear b1 cT0 fT0 T0 q0 HEN O1
 (try clear cT1 fT1);have cT1:=T1.cell;have fT1:=T1.frozen
 have htl:=T1.lt
 go_wp2_with fail
 refine (three_any i (by omega) (by omega) _).mono ?_
 rintro e w3 ⟨A3,n3,c3,rfl,S3,b3⟩
 have h36:n3=3:=by rw [←S3.len,byteRows_length];rfl
 subst h36
 have ba:Below w1.heap.size w1 (w1.alloc (.cells #[.int .u8 2] 5)):=below_by
 have B0:=(Blk.new w1 5 #[.int .u8 2]).below' b3
 have O0:Own w3 w1.heap.size 5 1 (.slice (some ⟨w1.heap.size,0,none⟩) 1 1) [[.int .u8 2]]:=Own.of_blk (rows:=[[.int .u8 2]]) B0 (Nat.le_refl _) rfl (by simp) (by simp [maxLen])
 have b13:=bstep ba b3
 have q3:=bstep q1 b13
 clear ba b3 B0 T1 cT1 fT1
 have hq3:w1.heap.size≤w3.heap.size:=b13.size
 have hq1:=q1.size
 go_wp2_with (first
  | (at_builtin;refine wpList_pushes rfl _ _ _ rfl Tryz.underlying25 u8_info rfl (by decide) (by rfl) O0 (by rfl) S3 hone3.out (by simp [maxLen]) (by simp) hq3 ?_;intro A5 n5 c5 w5 O5 b5;have S5:=Sl.below S1 (b13.trans b5))
  | (at_builtin;refine wpList_pushes rfl _ _ _ rfl Tryz.underlying25 u8_info rfl (by decide) (by rfl) O5 (by rfl) S5 hone.out (by simp [byteRows_length,three];unfold maxLen;omega) (by simp [byteRows_length,three];omega) (by have:=b5.size;omega) ?_;intro A6 n6 c6 w6 O6 b6))
 go_ret
 exact ⟨A6,n6,c6,rfl,by simpa [byteRows,u8] using O6.mono hq1,(q3.trans (b5.mono hq1)).trans (b6.mono hq1)⟩
set_option maxRecDepth 100000 in
theorem encode_mark (t f:Int) (ht:numberOk t=true) (hf0 : -1≤f) (hf3:f<3) (w:World) :
  Calls Tryz.prog 52 #[.agg #[.int .i64 1,.int .i64 t,.int .i64 f,.int .i64 0,.int .i64 0,.int .i64 0,.bool false,.int .i64 0,.int .i64 0,.int .i64 0,.string { data:=#[] },.string { data:=#[] },.string { data:=#[] },.int .i64 0,.int .i64 0,.int .i64 0,.int .i64 0,.slice none 0 0,.int .i64 0,.slice none 0 0]] w fun e w'=>∃ A n c,e = .returned (.slice A n c)∧Own w' w.heap.size 5 1 (.slice A n c) (byteRows (RK.mark t f).bytes)∧Below w.heap.size w w':=by
 have nt:=number_iff.1 ht
 have wu0:IntKind.i64.wrap (f+1)=f+1:=IntWalk.i64_in _ (by omega)
 have wu1:IntKind.u8.wrap (f+1)=f+1:=by rw [u8_wrap];omega
 have wu2:(f+1) % 256=f+1:=by omega
 have hone3:=hide (bytes_one_ (u8s_three t))
 have hbs:byteRows (RK.mark t f).bytes=([[.int .u8 1]] ++ byteRows (three t)) ++ byteRows [u8 (f+1)]:=rfl
 rw [hbs]
 clear hbs ht
 have T0:=Blk.new w 45 #[.int .i64 1,.int .i64 t,.int .i64 f,.int .i64 0,.int .i64 0,.int .i64 0,.bool false,.int .i64 0,.int .i64 0,.int .i64 0,.string { data:=#[] },.string { data:=#[] },.string { data:=#[] },.int .i64 0,.int .i64 0,.int .i64 0,.int .i64 0,.slice none 0 0,.int .i64 0,.slice none 0 0]
 have q0:Below w.heap.size w (w.alloc (.cells #[.int .i64 1,.int .i64 t,.int .i64 f,.int .i64 0,.int .i64 0,.int .i64 0,.bool false,.int .i64 0,.int .i64 0,.int .i64 0,.string { data:=#[] },.string { data:=#[] },.string { data:=#[] },.int .i64 0,.int .i64 0,.int .i64 0,.int .i64 0,.slice none 0 0,.int .i64 0,.slice none 0 0] 45)):=below_by
 go_enter Tryz.func52,Tryz.ntmps52
 (try clear cT0 fT0);have cT0:=T0.cell;have fT0:=T0.frozen
 go_wp2_with fail
 clear cT0 fT0
 obtain ⟨w1,hw1⟩:∃ w1,w1=w.alloc (.cells #[.int .i64 1,.int .i64 t,.int .i64 f,.int .i64 0,.int .i64 0,.int .i64 0,.bool false,.int .i64 0,.int .i64 0,.int .i64 0,.string { data:=#[] },.string { data:=#[] },.string { data:=#[] },.int .i64 0,.int .i64 0,.int .i64 0,.int .i64 0,.slice none 0 0,.int .i64 0,.slice none 0 0] 45):=⟨_,rfl⟩
 rw [←hw1] at T0 q0 ⊢
 clear hw1
 refine wp_region_x (l:=[]) (S:=fun w'=>w'.cell? ⟨w.heap.size,1,none⟩=some (.int .i64 t)∧w'.cell? ⟨w.heap.size,2,none⟩=some (.int .i64 f)) (by kernel_rfl) ⟨T0.drew.cell 1,T0.drew.cell 2⟩ (fun hS=>?_)
 replace T0:=T0.drew;replace q0:=q0.drew
 obtain ⟨wd,hwd⟩:∃ wd,wd=w1.drew:=⟨_,rfl⟩
 rw [←hwd] at hS T0 q0 ⊢
 clear hwd
 have hsG:=hide (fun w' (q:Below wd.heap.size wd w')=>And.intro ((T0.below' q).cell 1) ((T0.below' q).cell 2))
 refine wpAnyX_tq 1 ?_
 refine wpAnyX_tq 2 ?_
 refine wpAnyX_tq 5 ?_
 refine wpAnyX_tq 6 ?_
 refine wpAnyX_tq 7 ?_
 refine wpAnyX_tq 8 ?_
 clear hS
 refine wpG_start2 (j1:=0) (d1:=11) (t1:=5) (z1:=#[.int .u8 1]) (v1:=vsl 1) (C1:=fun _=>True) (j2:=9) (d2:=20) (t2:=5) (z2:=#[.int .u8 (f+1)]) (v2:=vsl 1) (C2:=fun a=>a.tmps[19]?.getD undef = .int .u8 (f+1)) ⟨⟨_,rfl,rfl,rfl,fun a w _=>?al1⟩,vsl_inj 1⟩ ⟨⟨_,rfl,rfl,rfl,fun a w h=>?al2⟩,vsl_inj 1⟩ (fun al1 al2=>?_)
 (case al1=>simp [go_sem,execOp,vsl])
 (case al2=>simp [go_sem,execOp,h,vsl])
 refine wpG_phase2 (base:=wd.heap.size) al1 al2 3 (f:=3) (fun b_ c_=>#[b_,true,true,false,false,true,true,true,true,c_,false,false]) (fun w'=>Below wd.heap.size wd w') (x:=undef) (y:=undef) (fun w' q=>hsG.out w' q) (fun w' o q=>q.alloc q.size o) (fun w' q=>q.size) (fun _ _=>trivial) (fun _ _=>rfl) (Below.refl _ wd) PendG.no PendG.no TwoG.no ?_
 intro b_ c_ x_ y_ w2 G2 hx hy hxy K_ hK_
 (try simp only [vptr,vsl,Act.put,List.setIfInBounds_toArray,List.set_cons_zero,List.set_cons_succ,List.getElem_toArray,List.getElem_cons_zero,List.getElem_cons_succ])
 go_wp2_with fail
 refine (three_any t (by omega) (by omega) _).mono ?_
 rintro e w3 ⟨A3,n3,c3,rfl,S3,b3⟩
 have h36:n3=3:=by rw [←S3.len,byteRows_length];rfl
 subst h36
 go_wp2_with fail
 have G3:=bstep G2 b3
 replace hx:=hx.bl b3
 replace hy:=hy.bl b3
 refine hK_.out _ _ (Or.inr (hsG.out _ G3)) ?_
 clear hK_ K_ G2 b3
 refine wpG_force (base:=wd.heap.size) al1 al2 (f:=3) (fun b_ c_=>#[b_,true,true,true,false,true,true,true,true,c_,false,false]) (fun w'=>Below w3.heap.size w3 w') (x:=x_) (y:=y_) (fun w' q=>hsG.out w' (bstep G3 q)) (fun w' o q=>q.alloc q.size o) (fun w' q=>Nat.le_trans G3.size q.size) (fun _ _=>trivial) (fun _ _=>rfl) (Below.refl _ w3) hx hy hxy ?_
 clear hx hy hxy
 intro c_ p_ y_ w4 G4 hp4 B4 hy hne
 replace S3:=S3.below G4
 replace G4:=bstep G3 G4
 refine wpG_phase1E (base:=wd.heap.size) al2 4 (f:=2) (fun b_=>#[true,true,true,true,false,true,true,true,true,b_,false,false]) (fun w'=>Below w4.heap.size w4 w') (fun q=>p_≠q) (x:=y_) (fun w' q=>hsG.out w' (bstep G4 q)) (fun w' o q=>q.alloc q.size o) (fun w' q=>Nat.le_trans G4.size q.size) (fun _=>rfl) (Below.refl _ w4) hy (fun w' q r hr=>by have:=B4.lt;have:=q.size;omega) (fun h q e=>hne h q e) ?_
 clear hy hne
 intro c_ y_ w5 G5 hy hne K_ hK_
 (try simp only [vptr,vsl,Act.put,List.setIfInBounds_toArray,List.set_cons_zero,List.set_cons_succ,List.getElem_toArray,List.getElem_cons_zero,List.getElem_cons_succ])
 replace S3:=S3.below G5
 replace B4:=B4.below' G5
 replace G5:=bstep G4 G5
 have O5:Own w5 wd.heap.size 5 1 (.slice (some ⟨p_,0,none⟩) 1 1) [[.int .u8 1]]:=Own.of_blk (rows:=[[.int .u8 1]]) B4 hp4 rfl (by simp) (by simp [maxLen])
 have h5:=G5.size
 go_wp2_with (at_builtin;refine wpList_pushes_g rfl _ _ _ rfl Tryz.underlying25 u8_info rfl (by decide) (by rfl) O5 (by rfl) S3 hone3.out (by simp [maxLen]) (by simp) h5 ?_;intro A6 n6 c6 w6 O6 b6 g6)
 have h46:n6=4:=by have:=O6.sl'.len;simpa [byteRows_length,three_len] using this.symm
 subst h46
 have G6:=G5.trans b6
 obtain ⟨hcy⟩:Nonempty (c_=true→∀ q,y_=vsl 1 q→p_≠q):=⟨hne⟩
 have hy6:PendG c_ wd.heap.size 5 #[.int .u8 (f+1)] (vsl 1) y_ w6:=fun hh=>by
  obtain ⟨p,h1,h2,h3⟩:=hy hh
  exact ⟨p,h1,h2,(g6.block p h3.lt (fun e=>by simp [Value.ownBlock] at e;exact hne hh p h1 e.symm)).trans h3⟩
 refine hK_.out _ _ (Or.inr (hsG.out _ G6)) ?_
 clear hK_ K_ hy hne hcy g6 b6 G5 S3 B4 O5
 refine wpG_lay1 (base:=wd.heap.size) al2 (f:=2) (fun b_=>#[true,true,true,true,true,true,true,true,true,b_,false,false]) (fun w'=>Below w6.heap.size w6 w') (x:=y_) (fun w' q=>hsG.out w' (bstep G6 q)) (fun w' o q=>q.alloc q.size o) (fun w' q=>Nat.le_trans G6.size q.size) (fun _=>rfl) (Below.refl _ w6) hy6 ?_
 clear hy6
 intro g7 w7 b7 hg7 B7
 (try simp only [vptr,vsl,Act.put,List.setIfInBounds_toArray,List.set_cons_zero,List.set_cons_succ,List.getElem_toArray,List.getElem_cons_zero,List.getElem_cons_succ])
 replace O6:=O6.below b7
 replace G6:=bstep G6 b7
 have S7:Sl w7 1 (some ⟨g7,0,none⟩) 1 1 (byteRows [u8 (f+1)]):=Sl.of_blk B7 (by simp [byteRows,u8]) (by intro r hr;obtain ⟨v,_,rfl⟩:=List.mem_map.1 hr;rfl) rfl (by simp [maxLen])
 have hone1:=hide (bytes_one_ (U8s.one (show 0≤f+1 by omega) (show f+1<256 by omega)))
 have h7:=G6.size
 clear al1 al2 b7 B7
 refine wpAnyX_oq 10 fun K hK=>?_
 go_wp2_with (at_builtin;refine wpList_pushes_g rfl _ _ _ rfl Tryz.underlying25 u8_info rfl (by decide) (by rfl) O6 (by rfl) S7 hone1.out (by simp [byteRows_length,three_len,maxLen]) (by simp [byteRows_length,three_len]) h7 ?_;intro A8 n8 c8 w8 O8 b8 g8)
 have G8:=G6.trans b8
 refine hK.out _ _ (Or.inr (hsG.out _ G8)) (fun hS=>?_)
 replace hS:=hS.resolve_left (by decide)
 clear hK K g8 b8 O6 S7
 refine wpAnyX_oq 11 fun K hK=>?_
 go_wp2_with fail
 refine hK.out _ _ (Or.inr hS) (fun _=>?_)
 clear hK K
 refine wpAnyX_done (by kernel_rfl) ?_ _
 go_wp2_with fail
 go_ret
 exact ⟨A8,n8,c8,rfl,O8.mono (by have:=q0.size;omega),bstep q0 G8⟩
theorem encode_any {r:RK} (hr:r.Ok) {row:List Value} (w:World) (h:RecAt w r row) :
  Calls Tryz.prog 52 #[.agg row.toArray] w fun e w'=>∃ A n c,e = .returned (.slice A n c)∧Own w' w.heap.size 5 1 (.slice A n c) (byteRows r.bytes)∧Below w.heap.size w w':=by
 cases r with
 | mark t f=>rw [show row=markCells t f from h];exact encode_mark t f hr.1 hr.2.1 hr.2.2 w
 | line i x=>rw [show row=lineCells i x from h];exact encode_line i hr.1 x hr.2 w
 | load i t m=>
  obtain ⟨A,n,c,B,k,d,rfl,hE,hC⟩:=h
  exact encode_load i t hr.1 hr.2.1 m hr.2.2 A B n c k d w hE hC
def AppPost (l:List Value) (s:Int) (r:RK) (w:World) (e:Ending) (w':World):Prop:=
 ∃ Y m d,e = .returned (.tuple #[.agg #[.slice Y m d,.int .i64 s],.int .i64 0])∧TpSl w' Y m d (l ++ r.frame)∧Own w' w.heap.size 5 1 (.slice Y m d) (byteRows (l ++ r.frame))∧Below w.heap.size w w'
set_option maxRecDepth 100000 in
theorem Append_any (l:List Value) (A:Option Addr) (n c:Nat) (s:Int) {r:RK} (hr:r.Ok) (row:List Value) (w:World) (hT:TpSl w A n c l) (h0:0≤s) (h1:s≤l.length) (hrow:RecAt w r row) (hlen:l.length+r.frame.length≤400000) :
  Calls Tryz.prog 26 #[.agg #[.slice A n c,.int .i64 s],.agg row.toArray] w (AppPost l s r w):=by
 have hm:=hT.len
 obtain ⟨v0,v1,v2,v3,v4,v5,v6,v7,v8,v9,v10,v11,v12,v13,v14,v15,v16,v17,v18,v19,rfl⟩:=twenty hrow.len
 have HO:=hide (fun w' (q:Below w.heap.size w w')=>topen_any l hT.u8 A n c s w' (hT.sl.below q) h0 h1 (by omega))
 have HCK:=hide (fun w' (q:Below w.heap.size w w')=>Check_rec hr w' (hrow.bl q))
 have HEN:=hide (fun w' (q:Below w.heap.size w w')=>encode_any hr w' (hrow.bl q))
 have HU:=hide hT.u8
 have HUB:=hide (u8s_bytes hr)
 have hbl:=bytes_in hr
 have hfr:=frame_len r
 have HFR:=hide (show r.frame=three r.bytes.length ++ r.bytes from rfl)
 clear hT hrow
 unfold AppPost
 generalize r.frame=fr at *
 generalize r.bytes=bs at *
 clear hr
 have T0:=((Blk.new w 27 #[.slice A n c,.int .i64 s]).alloc (.cells #[v0,v1,v2,v3,v4,v5,v6,v7,v8,v9,v10,v11,v12,v13,v14,v15,v16,v17,v18,v19] 45)).alloc (.cells #[.slice none 0 0,.int .i64 0] 27)
 have R0:Blk (((w.alloc (.cells #[.slice A n c,.int .i64 s] 27)).alloc (.cells #[v0,v1,v2,v3,v4,v5,v6,v7,v8,v9,v10,v11,v12,v13,v14,v15,v16,v17,v18,v19] 45)).alloc (.cells #[.slice none 0 0,.int .i64 0] 27)) (w.heap.size+1) 45 #[v0,v1,v2,v3,v4,v5,v6,v7,v8,v9,v10,v11,v12,v13,v14,v15,v16,v17,v18,v19]:=(Blk.new' _ _ _ (by simp)).alloc _
 have Z0:Blk (((w.alloc (.cells #[.slice A n c,.int .i64 s] 27)).alloc (.cells #[v0,v1,v2,v3,v4,v5,v6,v7,v8,v9,v10,v11,v12,v13,v14,v15,v16,v17,v18,v19] 45)).alloc (.cells #[.slice none 0 0,.int .i64 0] 27)) (w.heap.size+1+1) 27 #[.slice none 0 0,.int .i64 0]:=Blk.new' _ _ _ (by simp)
 have q0:Below w.heap.size w (((w.alloc (.cells #[.slice A n c,.int .i64 s] 27)).alloc (.cells #[v0,v1,v2,v3,v4,v5,v6,v7,v8,v9,v10,v11,v12,v13,v14,v15,v16,v17,v18,v19] 45)).alloc (.cells #[.slice none 0 0,.int .i64 0] 27)):=below_by
 go_enter Tryz.func26,Tryz.ntmps26
 (try clear cT0 fT0);have cT0:=T0.cell;have fT0:=T0.frozen
 go_wp2_with fail
 refine (HO.out _ q0).mono ?_
 rintro e w1 ⟨Y,n1,d,rfl,o1,b1⟩
 obtain rfl:n=n1:=by rw [←hm,←o1.sl'.len,byteRows_length]
 have hnc:=o1.sl'.nc
 clear cT0 fT0 T0 HO
 replace R0:=R0.below' b1
 replace Z0:=Z0.below' b1
 have q1:=bstep q0 b1
 have hz1:=hide Z0.lt
 replace o1:=o1.mono q0.size
 clear b1 q0
 have X1:=Blk.new w1 27 #[.slice Y n d,.int .i64 s]
 have bz:Below w1.heap.size w1 (w1.alloc (.cells #[.slice Y n d,.int .i64 s] 27)):=below_by
 replace R0:=R0.below' bz
 replace Z0:=Z0.below' bz
 replace o1:=o1.below bz
 have q2:=bstep q1 bz
 clear bz
 go_upto_region 4 with fail
 obtain ⟨w2,hw2⟩:∃ w2,w2=w1.alloc (.cells #[.slice Y n d,.int .i64 s] 27):=⟨_,rfl⟩
 rw [←hw2] at X1 R0 Z0 o1 q2 ⊢
 clear hw2
 go_wp2_with (refine wpList_load_blk rfl 45 _ rfl rfl R0 Tryz.underlying45 rfl rec_size ?_)
 refine (HCK.out _ q2).mono ?_
 rintro e w3 ⟨rfl,b3⟩
 replace R0:=R0.below' b3
 replace Z0:=Z0.below' b3
 replace X1:=X1.below' b3
 replace o1:=o1.below b3
 have q3:=bstep q2 b3
 clear b3 q2
 go_wp2_with (refine wpList_load_blk rfl 45 _ rfl rfl R0 Tryz.underlying45 rfl rec_size ?_)
 refine (HEN.out _ q3).mono ?_
 rintro e w4 ⟨A4,n4,c4,rfl,o4,b4⟩
 obtain rfl:bs.length=n4:=by rw [←o4.sl'.len,byteRows_length]
 replace Z0:=Z0.below' b4
 replace X1:=X1.below' b4
 replace o1:=o1.below b4
 have q4:=bstep q3 b4
 have S1:=o1.sl'
 have S4:=o4.sl'
 clear b4 q3 R0 HCK HEN o1 o4 q1
 have hbl2:bs.length≤12807:=hbl.2
 have hnl:n+3+bs.length≤400000:=by omega
 have wz1:¬ (400000:Int)<(n:Int)+3+(bs.length:Int):=by omega
 have hx4:=X1.lt
 clear hbl hlen hfr h1
 (try clear cX1 fX1);have cX1:=X1.cell;have fX1:=X1.frozen
 go_upto_region 10 with fail
 clear cX1 fX1 wz1
 refine wp_region_x (l:=[9]) (S:=fun w'=>w'.cell? ⟨w1.heap.size,0,none⟩=some (.slice Y n d)) (by kernel_rfl) (X1.drew.cell 0) (fun hS=>?_)
 replace X1:=X1.drew;replace Z0:=Z0.drew;replace q4:=q4.drew
 replace S1:=S1.drew;replace S4:=S4.drew
 obtain ⟨wd,hwd⟩:∃ wd,wd=w4.drew:=⟨_,rfl⟩
 rw [←hwd] at hS X1 Z0 q4 S1 S4 ⊢
 clear hwd
 refine wpAnyX_tq 0 ?_
 refine wpAnyX_tq 1 ?_
 refine wpAnyX_tq 2 ?_
 refine wpAnyX_tq 3 ?_
 refine wpAnyX_tq 5 ?_
 refine wpAnyX_oq 4 fun K hK=>?_
 go_wp2_with fail
 refine (three_any (bs.length:Int) (by omega) (by omega) _).mono ?_
 rintro e w5 ⟨A5,n5,c5,rfl,S5,b5⟩
 have h36:n5=3:=by rw [←S5.len,byteRows_length];rfl
 subst h36
 go_wp2_with fail
 replace X1:=X1.below' b5
 replace Z0:=Z0.below' b5
 replace S1:=S1.below b5
 replace S4:=S4.below b5
 have q5:=bstep q4 b5
 refine hK.out _ _ (Or.inr (X1.cell 0)) (fun hS=>?_)
 replace hS:=hS.resolve_left (by decide)
 clear hK K b5 q4
 refine wpAnyX_oq 6 fun K hK=>?_
 go_wp2_with fail
 have ba:Below w5.heap.size w5 (w5.alloc (.cells #[.slice Y n d,.slice A5 3 c5,.slice A4 bs.length c4] 25)):=below_by
 refine hK.out _ _ (Or.inr ((X1.below' ba).cell 0)) (fun hS=>?_)
 replace hS:=hS.resolve_left (by decide)
 clear hK K
 have HZ:Sl (w5.alloc (.cells #[.slice Y n d,.slice A5 3 c5,.slice A4 bs.length c4] 25)) 1 (some ⟨w5.heap.size,0,none⟩) 3 3 (([⟨Y,n,d,l⟩,⟨A5,3,c5,three bs.length⟩,⟨A4,bs.length,c4,bs⟩]:List Pt).map fun p=>[p.v]):=Sl.of_blk (Blk.new w5 _ _) rfl (by intro r hr;obtain ⟨v,_,rfl⟩:=List.mem_map.1 hr;rfl) rfl (by simp [maxLen])
 have HC:=hide (Concat_u8 [⟨Y,n,d,l⟩,⟨A5,3,c5,three bs.length⟩,⟨A4,bs.length,c4,bs⟩] (some ⟨w5.heap.size,0,none⟩) 3 _ HZ (fun p hp=>by
  simp only [List.mem_cons,List.not_mem_nil,or_false] at hp
  rcases hp with rfl|rfl|rfl
  ·exact ⟨S1.below ba,HU.out⟩
  ·exact ⟨S5.below ba,u8s_three _⟩
  ·exact ⟨S4.below ba,HUB.out⟩) (by simp [catB,three_len];omega) (by simp [catB,three_len];omega))
 have hcat:catB [⟨Y,n,d,l⟩,⟨A5,3,c5,three bs.length⟩,⟨A4,bs.length,c4,bs⟩]=l ++ fr:=by rw [HFR.out];simp [catB]
 have hl3:([⟨Y,n,d,l⟩,⟨A5,3,c5,three bs.length⟩,⟨A4,bs.length,c4,bs⟩]:List Pt).length=3:=rfl
 rw [hcat,hl3] at HC
 replace X1:=X1.below' ba
 replace Z0:=Z0.below' ba
 have q6:=bstep q5 ba
 obtain ⟨w6,hw6⟩:∃ w6,w6=w5.alloc (.cells #[.slice Y n d,.slice A5 3 c5,.slice A4 bs.length c4] 25):=⟨_,rfl⟩
 rw [←hw6] at HC X1 Z0 q6 hS ⊢
 clear hw6 ba HZ hcat hl3 S1 S4 S5 q5
 refine wpAnyX_oq 7 fun K hK=>?_
 go_wp2_with fail
 refine HC.out.mono ?_
 rintro e w7 ⟨A7,n7,c7,rfl,O7,b7⟩
 go_wp2_with fail
 replace X1:=X1.below' b7
 replace Z0:=Z0.below' b7
 have q7:=bstep q6 b7
 replace O7:=O7.mono q6.size
 refine hK.out _ _ (Or.inr (X1.cell 0)) (fun hS=>?_)
 replace hS:=hS.resolve_left (by decide)
 clear hK K b7 q6 HC
 refine wpAnyX_tq 8 ?_
 have hx7:=X1.lt
 have E8:=hide (one_step (w:=w7) (cs':=#[.slice A7 n7 c7,.int .i64 s]) 0 (.slice A7 n7 c7) ⟨X1,grown_refl _ _,rfl⟩ rfl)
 refine wpAnyX_oq 9 fun K hK=>?_
 (try clear cX1 fX1);have cX1:=X1.cell;have fX1:=X1.frozen
 go_wp2_with fail
 clear cX1 fX1
 refine hK.out _ _ (Or.inl (by decide)) (fun _=>?_)
 clear hK K hS
 refine wpAnyX_done (by kernel_rfl) ?_ _
 obtain ⟨w8,hw8⟩:∃ w8,w8=w7.setCell ⟨w1.heap.size,0,none⟩ (.slice A7 n7 c7):=⟨_,rfl⟩
 rw [←hw8] at E8 ⊢
 clear hw8
 have Z8:=grown_blk Z0 E8.out.2.1 (by have:=hz1.out;omega)
 have O8:=own_grew O7 X1 E8.out.2.1
 have q8:=below_grow q7 E8.out.2.1 q7.size (by have:=hz1.out;omega)
 have X8:=E8.out.1
 clear E8 X1 Z0 O7 q7
 have hz8:=Z8.lt
 have hx8:=X8.lt
 (try clear cX8 fX8);have cX8:=X8.cell;have fX8:=X8.frozen
 go_wp2_with (refine wpList_store_blk rfl 27 _ _ rfl (cells:=#[.slice A7 n7 c7,.int .i64 s]) rfl rfl Z8 rfl tape_size (all_one rfl) ?_;intro w9 Z9 gr9 sz9)
 have O9:=own_grew O8 Z8 gr9
 have q9:=below_grow q8 gr9 q8.size (by omega)
 clear gr9 sz9 cX8 fX8
 have HP:=hide (show ∃ Y m d,(Ending.returned (.tuple #[.agg #[.slice A7 n7 c7,.int .i64 s],.int .i64 0])) = .returned (.tuple #[.agg #[.slice Y m d,.int .i64 s],.int .i64 0])∧TpSl w9 Y m d (l ++ fr)∧Own w9 w.heap.size 5 1 (.slice Y m d) (byteRows (l ++ fr))∧Below w.heap.size w w9 from ⟨A7,n7,c7,rfl,⟨O9.sl',by rw [HFR.out];exact HU.out.app ((u8s_three _).app HUB.out),own_tp O9⟩,O9,q9⟩)
 clear O9 q9 O8 q8 X8 Z8
 (try clear cZ9 fZ9);have cZ9:=Z9.cell;have fZ9:=Z9.frozen
 go_wp2_with fail
 refine bodyPost_ret (v:=.tuple #[.agg #[.slice A7 n7 c7,.int .i64 s],.int .i64 0]) ?_ rfl HP.out
 simp [results,Tryz.results26,go_sem, *]
end Go.Proofs.YtgmojjclobkpjaaGreatDoor



