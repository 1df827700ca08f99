/- rostrumkeep.TapeKeeps returns true for every input; client.nothing holds what its initialiser lays. -/
import Derived.Test.YtgmojjclobkpjaaGreatDoorQTapM
namespace Go.Proofs.YtgmojjclobkpjaaGreatDoor
set_option linter.all false
set_option maxHeartbeats 32000000
open Go.ChangeShapes Go.WideShapes Go.ChangeAt Go.RowKit
set_option maxRecDepth 100000 in
theorem tapeKeeps_walk (A:Option Addr) (n c:Nat) (ys:List NoteD) (ka kb:Int) (w:World) (hN:Notes w A n c ys) (hy:∀ y∈ys,y.ok) (hka:I64 ka) (hkb:I64 kb) (hNo:Noth w) :
  Calls Tryz.prog 8 #[.slice A n c,.int .i64 ka,.int .i64 kb] w fun e w'=>e = .returned (.bool true)∧Below w.heap.size w w':=by
 have HRC:=hide (records_any A n c ys w hN hy hNo)
 have hok:=recsOf_ok ys
 have hlen:=recsOf_tape ys
 have hl16:=recsOf_len ys
 rw [show (ys.take 16).map recOf=recsOf ys from rfl] at HRC
 generalize recsOf ys=rs at *
 clear hN hy hNo
 unfold RecsPost at HRC
 have r1:=picked_lo ka (rs.length+1) (by omega)
 have r2:=picked_hi ka (rs.length+1) (by omega)
 have HPK:=hide (fun w=>picked_any ka (rs.length+1) w hka.1 hka.2 (by omega) (by omega))
 obtain ⟨p,hp⟩:=Int.eq_ofNat_of_zero_le r1
 rw [hp] at HPK r2
 have hpl:p≤rs.length:=by omega
 have k1:=picked_lo kb 900 (by omega)
 have k2:=picked_hi kb 900 (by omega)
 have HPK2:=hide (fun w=>picked_any kb 900 w hkb.1 hkb.2 (by omega) (by omega))
 generalize picked kb 900=kp at *
 clear hp r1 hka hkb
 have h0le:=tapeB_take_le rs p
 have HTP:=hide (fun A n c rows w h=>taped_any A n c (rs.take p) rows w h (fun r hr=>hok r (List.mem_of_mem_take hr)) (by omega))
 unfold TapedPost at HTP
 have HSY:=hide (fun Y d w (h:TpSl w Y (tapeB (rs.take p)).length d (tapeB (rs.take p)))=>Sync_any (tapeB (rs.take p)) Y (tapeB (rs.take p)).length d 0 w h (by omega) (by omega) (by omega))
 obtain ⟨mm,hmm⟩:=Int.eq_ofNat_of_zero_le (show 0≤min (((tapeB (rs.take p)).length:Int)+kp) ((tapeB rs).length:Int) by omega)
 have hm0:(tapeB (rs.take p)).length≤mm:=by omega
 have hm1:mm≤(tapeB rs).length:=by omega
 have HCR:=hide (fun Y d w (h:TpSl w Y (tapeB rs).length d (tapeB rs))=>Crash_any (tapeB rs) Y (tapeB rs).length d ((tapeB (rs.take p)).length:Int) kp w h (by omega) (by omega) (by omega) k1 (by omega))
 obtain ⟨D,e1,e2,e3,e4,e5,e6,e7,e8⟩:=cut_read hok hm1
 have hpw:=wholes_ge rs mm p hpl hm0
 have hDp:p≤D.length:=by rw [e8,List.length_take];have:=wholes_le rs mm;omega
 have hDn:(tapeB (rs.take p)).length≤(tapeB D).length:=by
  have h:=tapeB_take_le D p
  rw [e8,List.take_take,Nat.min_eq_left hpw,←e8] at h
  exact h
 have hp0:p=0∨0<(tapeB (rs.take p)).length:=by
  rcases Nat.eq_zero_or_pos p with h|h
  ·exact .inl h
  ·exact .inr (tapeB_pos (fun r hr=>hok r (List.mem_of_mem_take hr)) (by rw [List.length_take];omega))
 have HRV:=hide (fun Y d w (h:TpSl w Y mm d ((tapeB rs).take mm))=>Recover_any ((tapeB rs).take mm) Y mm d (mm:Int) w h (by omega) (by rw [List.length_take];omega) (by rw [List.length_take];omega))
 unfold RecvPost at HRV
 rw [e1] at HRV
 simp only [show min (mm:Int) ((tapeB D).length:Int)=(tapeB D).length from by omega] at HRV
 rw [e2] at HRV
 have HBG:=hide (fun A B n c m d rows1 rows2 w h1 h2=>begins_any A B n c m d D rs rows1 rows2 w h1 h2 e5 e7)
 have HOK:=hide hok
 have HFS:=hide (fun k (h:k<rs.length)=>And.intro (frame_step h) (tapeB_step_le h))
 have hmm':=hide hmm
 clear hmm e1 e2 e3 e5 e6 e7 e8 hok hpw k1 k2 hm0 hm1
 have hmm:=hmm'
 clear hmm'
 go_enter Tryz.func8,Tryz.ntmps8
 go_wp2_with fail
 refine HRC.out.mono ?_
 rintro e w1 ⟨A1,n1,c1,rows1,rfl,R1,b1⟩
 obtain rfl:=R1.n_
 have hr1c:=R1.sl.nc
 have st:=fun w=>run_take3 Tryz.underlying23 rec_size A1 rs.length c1 p p (Nat.le_refl _) (by omega) w
 go_wp2_with fail
 refine (HPK.out _).mono ?_
 rintro e w' ⟨rfl,rfl⟩
 have Rp:Recs w1 A1 p p (rs.take p) (rows1.take p):=⟨R1.sl.take p hpl p (Nat.le_refl _) (by omega),by simp [R1.len],fun k a b=>by
  have ha:k<rs.length:=by rw [List.length_take] at a;omega
  have hb:k<rows1.length:=by rw [List.length_take] at b;omega
  rw [List.getElem_take,List.getElem_take];exact R1.at_ k ha hb⟩
 go_wp2_with fail
 refine (HTP.out _ _ _ _ _ Rp).mono ?_
 rintro e w2 ⟨Y2,m2,d2,rfl,T2,b2⟩
 obtain rfl:=T2.len
 have RO:=hide (And.intro R1 b2.size)
 replace R1:=R1.bl b2
 have q2:=bstep b1 b2
 have hw2:=hide q2.size
 clear b1 b2 HRC HTP Rp st HPK
 have V:=Blk.new w2 27 #[.slice Y2 (tapeB (rs.take p)).length d2,.int .i64 0]
 have bz:Below w2.heap.size w2 (w2.alloc (.cells #[.slice Y2 (tapeB (rs.take p)).length d2,.int .i64 0] 27)):=below_by
 replace R1:=R1.bl bz
 replace T2:=T2.bl bz
 replace q2:=bstep q2 bz
 clear bz
 go_upto_region 4 with fail
 obtain ⟨w3,hw3⟩:∃ w3,w3=w2.alloc (.cells #[.slice Y2 (tapeB (rs.take p)).length d2,.int .i64 0] 27):=⟨_,rfl⟩
 rw [←hw3] at R1 T2 q2 V ⊢
 clear hw3
 have hv:=V.lt
 (try clear cV fV);have cV:=V.cell;have fV:=V.frozen
 go_wp2_with fail
 refine (HSY.out _ _ _ T2).mono ?_
 rintro e w4 ⟨Y4,d4,rfl,T4,b4⟩
 replace R1:=R1.bl b4
 replace V:=V.below' b4
 have q4:=bstep q2 b4
 clear b4 cV fV T2 q2 HSY
 go_upto_region 5 with (refine wpList_store_blk rfl 27 _ _ rfl (cells:=#[.slice Y4 (tapeB (rs.take p)).length d4,.int .i64 ((tapeB (rs.take p)).length:Int)]) rfl rfl V rfl tape_size (all_one rfl) ?_;intro w5 V5 gr5 sz5)
 replace T4:=T4.grown V gr5
 replace R1:=R1.old RO.out V gr5
 have q5:=below_grow q4 gr5 q4.size hw2.out
 have hv5:=V5.lt
 clear gr5 sz5 V q4
 obtain ⟨N0,hN0⟩:∃ N0,N0=(tapeB (rs.take p)).length:=⟨_,rfl⟩
 have T4':TpSl w5 Y4 (tapeB (rs.take p)).length d4 (tapeB (rs.take p)):=T4
 have V5':Blk w5 w2.heap.size 27 #[.slice Y4 (tapeB (rs.take p)).length d4,.int .i64 (N0:Int)]:=by rw [hN0];exact V5
 have HN0:=hide hN0
 clear T4 V5
 (try clear cV5' fV5');have cV5':=V5'.cell;have fV5':=V5'.frozen
 go_wp2_with fail
 clear cV5' fV5'
 rw [←hN0] at HCR hmm hDn hp0 T4' V5' ⊢
 clear hN0
 go_loopw [13] (fun s13 wr=>∃ k:Nat,k≤rs.length∧p≤k∧s13 = .int .i64 (k:Int)∧∃ (Y:Option Addr) (m d:Nat),Blk wr w2.heap.size 27 #[.slice Y m d,.int .i64 (N0:Int)]∧TpSl wr Y m d (tapeB (rs.take k))∧Hid (N0≤m)∧Recs wr A1 rs.length c1 rs rows1∧Below w.heap.size w wr) (fun s13 _=>rs.length - (intOf s13).toNat)
 case atStart=>exact ⟨p,hpl,Nat.le_refl _,rfl,Y4,N0,d4,V5',T4',hide (Nat.le_refl _),R1,q5⟩
 case round=>
  obtain ⟨k,hk,hpk,rfl,Y,m,d,V,T,HN,R,q⟩:=hrel
  clear V5' T4' R1 q5
  have hqs:=q.size
  have hv:=V.lt
  by_cases hlt:k<rs.length
  ·obtain ⟨b,off,row,rfl,hbb,hrg,hrec⟩:=R.range hlt
   have hr:=HOK.out rs[k] (List.getElem_mem hlt)
   have hfs:=hide (HFS.out k hlt)
   have hpl2:=T.len
   generalize rs[k]=r at *
   have hl20:=hrec.len
   have HSZ:=hide (show (Tryz.prog.info? 45).map (·.size)=some row.length by rw [hl20];exact rec_size)
   have HAP:=hide (fun w' (b':Below wr.heap.size wr w')=>Append_any (tapeB (rs.take k)) Y m d N0 hr row w' (T.bl b') (by omega) (by have:=HN.out;omega) (hrec.bl b') (by have:=hfs.out.2;omega))
   unfold AppPost at HAP
   generalize tapeB (rs.take k)=bs at *
   have hfl:Hid (bs.length=m):=hide hpl2
   clear hl20 hr hpl2
   have HRG:=hide (fun w' (b':Below wr.heap.size wr w')=>show w'.rangeAt b (off+k*20) row from fun j v hv=>by rw [←hrg j v hv];exact b'.cell (p:=⟨b,off+k*20+j,none⟩) hbb)
   clear hrec
   go_upto_region 9 with fail
   refine wp_region_x (l:=[]) (S:=fun w'=>w'.cell? ⟨w2.heap.size,0,none⟩=some (.slice Y m d)∧w'.cell? ⟨w2.heap.size,1,none⟩=some (.int .i64 (N0:Int))∧w'.rangeAt b (off+k*20) row) (by kernel_rfl) ⟨V.drew.cell 0,V.drew.cell 1,HRG.out _ (Below.refl _ wr).drew⟩ (fun hS=>?_)
   have bd:Below wr.heap.size wr wr.drew:=(Below.refl _ wr).drew
   obtain ⟨wd,hwd⟩:∃ wd,wd=wr.drew:=⟨_,rfl⟩
   rw [←hwd] at hS bd ⊢
   clear hwd hrg
   have HS:=hide (fun w' (b':Below wr.heap.size wr w')=>And.intro ((V.below' b').cell 0) (And.intro ((V.below' b').cell 1) (HRG.out _ b')))
   refine wpAnyX_tq 0 ?_
   refine wpAnyX_tq 1 ?_
   refine wpAnyX_tq 2 ?_
   refine wpAnyX_tq 3 ?_
   refine wpAnyX_tq 4 ?_ (hy:=yieldsIf_load_mid (by rfl) 45 _ rfl b (off+k*20) rfl row _ (fun w' h=>h.2.2) Tryz.underlying45 rfl HSZ.out)
   clear hS
   refine wpG_start1 (j:=9) (d:=14) (t:=27) (z:=#[.slice none 0 0,.int .i64 0]) (val:=vptr) (C:=fun _=>True) ⟨⟨_,rfl,rfl,rfl,fun a w _=>?al1⟩,vptr_inj⟩ (fun al1=>?_)
   (case al1=>simp [go_sem,execOp,vptr])
   refine wpG_phase1 (base:=wd.heap.size) al1 5 (f:=5) (fun b_=>#[true,true,true,true,true,false,false,false,false,b_,false,false]) (fun w'=>Below wd.heap.size wd w') (x:=u14) (fun w' q=>HS.out w' (bstep bd q)) (fun w' o q=>q.alloc q.size o) (fun w' q=>q.size) (fun _=>trivial) (Below.refl _ wd) PendG.no ?_
   intro b_ y_ w6 G6 hy K_ hK_
   (try simp only [vptr,vsl,Act.put,List.setIfInBounds_toArray,List.set_cons_zero,List.set_cons_succ,List.getElem_toArray,List.getElem_cons_zero,List.getElem_cons_succ])
   go_wp2_with fail
   refine (HAP.out _ (bstep bd G6)).mono ?_
   rintro e_ w7 ⟨Y3,m3,d3,rfl,TS3,-,b3⟩
   go_wp2_with fail
   have G7:=bstep G6 b3
   replace hy:=hy.bl b3
   have hS3:=HS.out _ (bstep bd G7)
   refine hK_.out _ _ (Or.inr hS3) ?_
   clear hK_ K_ G6 b3
   refine wpG_take1 6 (f:=4) (fun b_=>#[true,true,true,true,true,true,false,false,false,b_,false,false]) ?_
   refine wpG_take1 7 (f:=3) (fun b_=>#[true,true,true,true,true,true,true,false,false,b_,false,false]) ?_
   refine wpG_take1 8 (f:=2) (fun b_=>#[true,true,true,true,true,true,true,true,false,b_,false,false]) ?_
   refine wpG_lay1 (base:=wd.heap.size) al1 (f:=2) (fun b_=>#[true,true,true,true,true,true,true,true,true,b_,false,false]) (fun w'=>Below w7.heap.size w7 w') (x:=y_) (fun w' q=>HS.out w' (bstep bd (bstep G7 q))) (fun w' o q=>q.alloc q.size o) (fun w' q=>Nat.le_trans G7.size q.size) (fun _=>trivial) (Below.refl _ w7) hy ?_
   clear hy hS3
   intro g7 w8 b8 hg7 B8
   (try simp only [vptr,vsl,Act.put,List.setIfInBounds_toArray,List.set_cons_zero,List.set_cons_succ,List.getElem_toArray,List.getElem_cons_zero,List.getElem_cons_succ])
   have hm3:=TS3.len
   replace TS3:=TS3.bl b8
   have G8:=bstep bd (bstep G7 b8)
   clear al1 b8 G7
   have hwd:=bd.size
   refine wpAnyX_oq 10 fun K hK=>?_
   refine wpList_store_blk rfl 27 _ _ rfl (cells:=#[.slice Y3 m3 d3,.int .i64 (N0:Int)]) rfl rfl B8 rfl tape_size (all_one rfl) ?_
   intro w9 X9 gr9 sz9
   have V8:=V.below' G8
   have hne9:w2.heap.size≠g7:=by omega
   have V9:=grown_blk V8 gr9 hne9
   have R8:=R.bl G8
   have R9:=R8.old (And.intro RO.out.1 (by have:=RO.out.2;have:=hw2.out;omega)) B8 gr9
   have hR9:w9.rangeAt b (off+k*20) row:=fun j v hv=>by
    have h:=HRG.out _ G8 j v hv
    have hb2:b<w8.heap.size:=by have:=G8.size;omega
    have hbn:b≠g7:=by omega
    unfold World.cell? at h ⊢
    rw [gr9.block b hb2 (by simpa using hbn)]
    exact h
   have T9:=TS3.grown B8 gr9
   have q9:=below_grow (bstep q G8) gr9 (by have:=G8.size;omega) (by omega)
   refine hK.out _ _ (Or.inr ⟨V9.cell 0,V9.cell 1,hR9⟩) (fun hS=>?_)
   replace hS:=hS.resolve_left (by decide)
   clear hK K gr9 sz9 B8 TS3 V8 R8
   refine wpAnyX_oq 11 fun K hK=>?_
   go_wp2_with fail
   refine hK.out _ _ (Or.inr hS) (fun _=>?_)
   clear hK K hS
   refine wpAnyX_done (by kernel_rfl) ?_ _
   have hsl2:Hid (N0≤m3):=hide (by have:=hfl.out;have:=HN.out;simp at hm3;omega)
   have hx9:=X9.lt
   have ht9:=V9.lt
   have HT8:=hide hfs.out.1
   clear HAP HRG HS G8 hR9 hm3
   (try clear cX9 fX9);have cX9:=X9.cell;have fX9:=X9.frozen
   go_wp2_with (refine wpList_store_blk rfl 27 _ _ rfl (cells:=#[.slice Y3 m3 d3,.int .i64 (N0:Int)]) rfl rfl V9 rfl tape_size (all_one rfl) ?_;intro wa Va gra sza)
   have Ta:=T9.grown V9 gra
   have Ra:=R9.old RO.out V9 gra
   have qa:=below_grow q9 gra q9.size hw2.out
   go_roundw
   case rel=>exact ⟨k+1,by omega,by omega,by go_num,Y3,m3,d3,Va,by rw [HT8.out];exact Ta,hsl2,Ra,qa⟩
   case measure=>simp [intOf];omega
  ·obtain rfl:k=rs.length:=by omega
   rw [List.take_of_length_le (Nat.le_refl _)] at T
   obtain rfl:=T.len
   go_upto_region 13 with fail
   refine wp_region_x (l:=[]) (S:=fun _=>True) (by kernel_rfl) trivial (fun hS=>?_)
   have bd:Below wr.heap.size wr wr.drew:=(Below.refl _ wr).drew
   replace V:=V.drew;replace T:=T.bl bd;replace R:=R.bl bd;replace q:=q.drew
   clear bd
   obtain ⟨wd,hwd⟩:∃ wd,wd=wr.drew:=⟨_,rfl⟩
   rw [←hwd] at V T R q ⊢
   clear hwd
   refine wpAnyX_tq 1 ?_
   have hvd:=V.lt
   refine wpAnyX_pair 0 2 (v:=.agg #[.slice Y (tapeB rs).length d,.int .i64 (N0:Int)]) (u:=.int .i64 kp) ?pc ?pp (hy:=?py) (hy2:=?pz)
   (case py=>exact yieldsIf_load_blk (by rfl) 27 _ rfl rfl (fun w' h=>by rw [h];exact V) Tryz.underlying27 rfl tape_size)
   (case pz=>exact yieldsIf_load_blk (by rfl) 27 _ rfl rfl (fun w' h=>by rw [h];exact V) Tryz.underlying27 rfl tape_size)
   (case pp=>(intro b_ hb_ K hK;rcases hb_ with rfl|rfl <;> (go_wp2_with fail;refine (HPK2.out _).mono ?_;rintro e w' ⟨rfl,rfl⟩;go_wp2_with fail;exact hK.out)))
   clear HPK2
   refine wpAnyX_oq 3 fun K hK=>?_
   go_wp2_with fail
   refine (HCR.out _ _ _ T).mono ?_
   rintro e wc ⟨m_,Z_,z_,hm_,rfl,TC,bc⟩
   obtain rfl:m_=mm:=by have:=hmm.out;omega
   clear hm_
   go_wp2_with fail
   replace V:=V.below' bc;replace R:=R.bl bc
   replace q:=bstep q bc
   refine hK.out _ _ (Or.inr trivial) (fun _=>?_)
   clear hK K HCR bc T
   refine wpAnyX_tq 4 ?_
   refine wpAnyX_tq 5 ?_
   refine wpAnyX_tq 6 ?_
   refine wpAnyX_oq 7 fun K hK=>?_
   refine wpList_store_blk rfl 27 _ _ rfl (cells:=#[.slice Z_ m_ z_,.int .i64 (m_:Int)]) rfl rfl V rfl tape_size (all_one rfl) ?_
   intro we V9 gre sze
   replace TC:=TC.grown V gre
   replace R:=R.old RO.out V gre
   have qe:=below_grow q gre q.size hw2.out
   refine hK.out _ _ (Or.inr trivial) (fun _=>?_)
   clear hK K gre sze V q
   refine wpAnyX_oq 8 fun K hK=>?_
   go_wp2_with fail
   refine hK.out _ _ (Or.inr trivial) (fun _=>?_)
   clear hK K hS
   refine wpAnyX_done (by kernel_rfl) ?_ _
   have hvc:=V9.lt
   (try clear cV9 fV9);have cV9:=V9.cell;have fV9:=V9.frozen
   go_wp2_with fail
   refine (HRV.out _ _ _ TC).mono ?_
   rintro e wf ⟨A4,n4,c4,rows4,Y6,d6,rfl,R4,T6,b6⟩
   obtain rfl:=R4.n_
   have qf:=bstep qe b6
   replace R:=R.bl b6
   replace V9:=V9.below' b6
   have hd6:=T6.sl.nc
   clear TC b6 qe HRV cV9 fV9
   have U:=Blk.new wf 27 #[.slice Y6 (tapeB D).length d6,.int .i64 ((tapeB D).length:Int)]
   have bz:Below wf.heap.size wf (wf.alloc (.cells #[.slice Y6 (tapeB D).length d6,.int .i64 ((tapeB D).length:Int)] 27)):=below_by
   replace R:=R.bl bz;replace V9:=V9.below' bz;replace R4:=R4.bl bz;replace T6:=T6.bl bz
   replace qf:=bstep qf bz
   clear bz
   go_upto_region 15 with fail
   obtain ⟨wg,hwg⟩:∃ wg,wg=wf.alloc (.cells #[.slice Y6 (tapeB D).length d6,.int .i64 ((tapeB D).length:Int)] 27):=⟨_,rfl⟩
   rw [←hwg] at R V9 R4 T6 qf U ⊢
   clear hwg
   have hu:=U.lt
   (try clear cU fU);have cU:=U.cell;have fU:=U.frozen
   have hDp':(p:Int)≤(D.length:Int):=by omega
   have hDn':(N0:Int)≤((tapeB D).length:Int):=by omega
   have HP0:=hide hp0
   clear hDp hDn hp0 cU fU
   (try clear cU fU);have cU:=U.cell;have fU:=U.frozen
   go_wp2_with fail
   refine (HBG.out _ _ _ _ _ _ _ _ _ R4 R).mono ?_
   rintro e wz ⟨rfl,bz⟩
   replace U:=U.below' bz
   have qz:=bstep qf bz
   clear cU fU
   (try clear cU fU);have cU:=U.cell;have fU:=U.frozen
   go_wp2_with fail
   all_goals go_ret
   all_goals first|exact ⟨rfl,qz⟩|(refine ⟨ret_bool ?_,qz⟩;rcases HP0.out with h0|h0 <;> simp [h0])
set_option maxRecDepth 100000 in
theorem tapeKeeps_lifted (os:Os) (started:os.Started) (H:Type) (enc:TypeId×Value→H) :
 ReturnsInHanded {} Tryz.checked os 8 .any (fun w args=>(Rows.tapeKeepsSpec.pre enc Tryz.prog Tryz.f8 [] false w args∧laidMetH Tryz.prog laidN w)∧sizedMet enc Tryz.prog Tryz.f8 (OpenSpec.ofChange Rows.tapeKeepsSpec) false w args) (Rows.tapeKeepsSpec.post enc Tryz.prog Tryz.f8 false true false false):=by
 refine returnsInHanded_of_change_and (C:=Tryz.checked) (X:=fun w _=>laidMetH Tryz.prog laidN w) (fun _ _ _ hh h=>h.of_heap hh) Tryz.own started (by kernel_rfl) Tryz.func8 (ChangeSpec.witness_shaped (enc:=enc) (C:=Tryz.checked) (os:=os) (X:=fun w _=>laidMetH Tryz.prog laidN w) false (World.doorLaid Tryz.prog 14 os) #[.slice none 0 0,.int .i64 0,.int .i64 0] 8 rfl (World.shaped_of_RefB (by kernel_rfl) (by kernel_rfl)) (by kernel_rfl) (by kernel_rfl) (by kernel_rfl) (door_met os _)) ?_
 intro W base args ds gs before hval0 hW hcnd hsz0 hL _
 have hsz:(DataW.weightsEach Tryz.prog (Tryz.f8.params.toList ++ Rows.tapeKeepsSpec.plain.varTypes Tryz.prog) (ds ++ gs)).all (·≤reachBytes)=true:=hsz0
 clear hsz0
 have hval:∀ (j:Nat) t v,Tryz.f8.params[j]?=some t→args[j]?=some v→Value.okWide Tryz.prog W .any base t v:=hval0
 have hW':=hW
 obtain ⟨p,q,hA0,hV,rfl,hfz,hnd⟩:=hW
 have hA:DataW.TrodAll enc Tryz.prog W 0 (fun _=>true) true Tryz.f8.params.toList args.toList ds p:=hA0
 rw [Tryz.params8] at hA hval hsz
 obtain ⟨rfl,rfl⟩:=trodVars_none hV
 clear hA0 hval0 hcnd hV hfz hnd
 have hN:=noth_of_laid hL
 obtain ⟨v0,v1,v2,d0,d1,d2,p0,p1,p2,rfl,rfl,rfl,h0,h1,h2⟩:=trodAll_three hA
 obtain ⟨A,n,c,ys,rfl,hy,hNt⟩:=open_notes (hval 0 22 v0 rfl rfl) h0
 obtain ⟨m1,rfl,rfl,rfl,w1⟩:=open_int Tryz.underlying3 (hval 1 3 v1 rfl rfl) h1
 obtain ⟨m2,rfl,rfl,rfl,w2⟩:=open_int Tryz.underlying3 (hval 2 3 v2 rfl rfl) h2
 refine (tapeKeeps_walk A n c ys m1 m2 W hNt hy (i64_bounds w1) (i64_bounds w2) hN).mono fun e W' ⟨he,hb⟩=>?_
 subst he
 exact ⟨_,rfl,post_law Tryz.laidOut hW' rfl (by kernel_rfl) rfl Tryz.underlying4 (fun _=>rfl) (fun _=>rfl) (fun _=>rfl) hb⟩
set_option maxRecDepth 100000 in
theorem tapeKeeps_f1:(Rows.tapeKeepsRow.inPlace == Tryz.pinned.checked.prog.inPlace 8)=true:=by kernel_rfl
set_option maxRecDepth 100000 in
theorem tapeKeeps_f2:(Rows.tapeKeepsRow.unfollowed == Tryz.pinned.checked.prog.unfollowed 8)=true:=by kernel_rfl
set_option maxRecDepth 100000 in
theorem tapeKeeps_f3:(Rows.tapeKeepsRow.recurses == Tryz.pinned.checked.prog.recurses 8)=true:=by kernel_rfl
set_option maxRecDepth 100000 in
theorem tapeKeeps_f4:(Rows.tapeKeepsRow.named == Tryz.pinned.checked.prog.varsNamed 8)=true:=by kernel_rfl
set_option maxRecDepth 100000 in
theorem tapeKeeps_facts:joinedFacts Tryz.pinned.checked.prog 8 Tryz.f8 Rows.tapeKeepsSpec Rows.tapeKeepsRow=true:=by
 unfold joinedFacts
 rw [enterN,show (Rows.tapeKeepsRow.lifted == Tryz.pinned.checked.prog.liftsFinal)=true from liftsN,laidN1,laidN2,heardN,show (Rows.tapeKeepsRow.plainKeys == Tryz.pinned.checked.prog.plainKeys)=true from keysN,tapeKeeps_f1,tapeKeeps_f2,tapeKeeps_f3,tapeKeeps_f4]
 kernel_rfl
theorem tapeKeeps_row:Rows.TapeKeepsSaid:=OpenClaim.holds_of_wide 8 Tryz.f8 rfl rfl rfl rfl rfl rfl rfl ⟨rfl,rfl,rfl,rfl,rfl⟩ rfl rfl rfl rfl rfl (by kernel_rfl) Tryz.func8 tapeKeeps_facts
 (of_decide_eq_true (by kernel_rfl)) (by unfold Func.isWrapper;first|(rw [if_pos (by decide +kernel)];kernel_rfl)|(rw [if_neg (by decide +kernel)];exact ⟨rfl,rfl⟩))
 (fun os started H enc _=>tapeKeeps_lifted os started H enc)
set_option maxRecDepth 100000 in
theorem tapeKeeps_goes:false=Rows.tapeKeepsRow.goesBy Tryz.pinned.checked.prog:=by kernel_rfl
set_option maxRecDepth 100000 in
theorem tapeKeeps_looks:false=Tryz.pinned.checked.prog.looks []:=by kernel_rfl
set_option maxRecDepth 100000 in
theorem tapeKeeps_holds:Rows.TapeKeepsCardSaid:=
 Claim7.holds_tied_plain_at .later [] [.data] true Rows.tapeLongCard.stood.harness false
  tapeKeeps_row (fun _ h=>by cases h) (by kernel_rfl) (fun _ h=>by cases h) tapeKeeps_row_tie rfl ⟨rfl,rfl⟩ mainN rfl
  (fun f fn hf hfn=>by
   obtain rfl:f=8:=Option.some.inj ((show Tryz.prog.funcNamed "rostrum/rostrumkeep.TapeKeeps" = some 8 by kernel_rfl).symm.trans hf) |>.symm
   obtain rfl:fn=Tryz.f8:=(Option.some.inj (Tryz.func8.symm.trans hfn)).symm
   exact ⟨tapeKeeps_looks,fun j t ht=>by
    rw [Tryz.params8] at ht
    have hm:=List.mem_of_getElem? (Array.getElem?_toList ▸ ht)
    simp only [List.mem_cons,List.not_mem_nil,or_false] at hm
    rcases hm with rfl|rfl|rfl <;> exact (show Tryz.prog.wantsStandIn _=false by kernel_rfl)⟩)
  tapeKeeps_goes
#print axioms tapeKeeps_holds
end Go.Proofs.YtgmojjclobkpjaaGreatDoor

