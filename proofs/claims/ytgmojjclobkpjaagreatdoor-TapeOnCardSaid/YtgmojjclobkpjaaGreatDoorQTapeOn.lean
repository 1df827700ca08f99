/- rostrumkeep.TapeOn returns true for every input; client.nothing holds what its initialiser lays. -/
import Derived.Test.YtgmojjclobkpjaaGreatDoorQTapM
namespace Go.Proofs.YtgmojjclobkpjaaGreatDoor
set_option linter.all false
set_option maxHeartbeats 32000000
open Go.ChangeShapes Go.WideShapes Go.ChangeAt Go.RowKit
set_option maxRecDepth 100000 in
theorem tapeOn_walk (A:Option Addr) (n c:Nat) (ys:List NoteD) (kb:Int) (y:NoteD) (An:Option Addr) (nn cn:Nat) (w:World) (hN:Notes w A n c ys) (hy:∀ y∈ys,y.ok) (hkb:I64 kb) (hyn:y.ok) (hSn:Sl w 8 An nn cn (deedRows y.deeds)) (hNo:Noth w) :
  Calls Tryz.prog 7 #[.slice A n c,.int .i64 kb,.agg #[.int .i64 y.kind,.int .i64 y.a,.int .i64 y.b,.slice An nn cn]] w fun e w'=>e = .returned (.bool true)∧Below w.heap.size w w':=by
 have HRE:=hide (fun w' (q:Below w.heap.size w w')=>record_any y hyn An nn cn w' (hSn.below q) (hNo.bl q))
 have hrk:=recOf_ok y
 unfold RecPost at HRE
 generalize recOf y=r at *
 have HRC:=hide (fun w' (q:Below w.heap.size w w')=>records_any A n c ys w' (hN.bl q) hy (hNo.bl q))
 have hok:=recsOf_ok ys
 have hlen:=recsOf_tape ys
 have hl16:=recsOf_len ys
 rw [show (ys.take 16).map recOf=recsOf ys from rfl] at HRC
 generalize recsOf ys=rs at *
 clear hN hy hNo hyn
 have k1:=picked_lo kb 900 (by omega)
 have k2:=picked_hi kb 900 (by omega)
 have HPK2:=hide (fun w=>picked_any kb 900 w hkb.1 hkb.2 (by omega) (by omega))
 generalize picked kb 900=kp at *
 clear hkb
 have HTP:=hide (fun A n c rows w h=>taped_any A n c rs rows w h hok (by omega))
 unfold RecsPost at HRC
 unfold TapedPost at HTP
 obtain ⟨mm,hmm⟩:=Int.eq_ofNat_of_zero_le (show 0≤min (0+kp) ((tapeB rs).length:Int) by omega)
 have hm1:mm≤(tapeB rs).length:=by omega
 have HCR:=hide (fun Y d w (h:TpSl w Y (tapeB rs).length d (tapeB rs))=>Crash_any (tapeB rs) Y (tapeB rs).length d 0 kp w h (by omega) (by omega) (by omega) k1 (by omega))
 obtain ⟨D,e1,e2,e3,e4,e5,e6,e7,e8⟩:=cut_read hok hm1
 have hD16:D.length≤16:=by rw [e8,List.length_take];omega
 have hok2:∀ x∈D ++ [r],x.Ok:=fun x hx=>by
  rcases List.mem_append.1 hx with hx|hx
  ·exact e7 x hx
  ·rw [List.mem_singleton] at hx;exact hx ▸ hrk
 have hfr:=frame_in hrk
 have hcat:tapeB (D ++ [r])=tapeB D ++ r.frame:=by rw [tapeB_app];simp [tapeB]
 have hDl:(tapeB D).length≤(tapeB rs).length:=by omega
 have HRV:=hide (fun Y d w (h:TpSl w Y mm d ((tapeB rs).take mm))=>Recover_any ((tapeB rs).take mm) Y mm d (mm:Int) w h (by omega) (by rw [List.length_take];omega) (by rw [List.length_take];omega))
 have HAP:=hide (fun Y n d w (h:TpSl w Y n d (tapeB D)) row (h2:RecAt w r row)=>Append_any (tapeB D) Y n d ((tapeB D).length:Int) hrk row w h (by omega) (by omega) h2 (by omega))
 have HRW:=hide (fun Y n d w (h:TpSl w Y n d (tapeB D ++ r.frame))=>Recover_any (tapeB D ++ r.frame) Y n d ((tapeB D).length:Int) w h (by omega) (by rw [List.length_append];push_cast;omega) (by rw [List.length_append];omega))
 unfold RecvPost at HRV HRW
 unfold AppPost at HAP
 rw [e1] at HRV
 rw [←hcat,recA_all hok2] at HRW
 simp only [show min (mm:Int) ((tapeB D).length:Int)=(tapeB D).length from by omega] at HRV
 simp only [show min ((tapeB D).length:Int) ((tapeB (D ++ [r])).length:Int)=(tapeB D).length from by rw [hcat,List.length_append];omega,List.take_of_length_le (Nat.le_refl _)] at HRW
 rw [e2] at HRV
 have HBG:=hide (fun A B n c m d rows1 rows2 w h1 h2=>begins_any A B n c m d D (D ++ [r]) rows1 rows2 w h1 h2 ⟨[r],rfl⟩ e7)
 have HSR:=hide (fun row1 row2 w h1 h2=>sameRecord_any hrk (row1:=row1) (row2:=row2) w h1 h2)
 rw [←hcat] at HAP
 have hmm':=hide hmm
 have HCAT:=hide hcat
 clear hmm e1 e2 e3 e5 e6 e7 e8 hok hok2 k1 k2 hcat hrk
 have hmm:=hmm'
 clear hmm'
 have NB:=Blk.new w 78 #[.int .i64 y.kind,.int .i64 y.a,.int .i64 y.b,.slice An nn cn]
 have q0:Below w.heap.size w (w.alloc (.cells #[.int .i64 y.kind,.int .i64 y.a,.int .i64 y.b,.slice An nn cn] 78)):=below_by
 go_enter Tryz.func7,Tryz.ntmps7
 go_wp2_with fail
 refine (HRC.out _ q0).mono ?_
 rintro e w1 ⟨A1,n1,c1,rows1,rfl,R1,b1⟩
 obtain rfl:=R1.n_
 replace NB:=NB.below' b1
 have q1:=bstep q0 b1
 clear b1 q0 HRC
 go_wp2_with fail
 refine (HTP.out _ _ _ _ _ R1).mono ?_
 rintro e w2 ⟨Y2,m2,d2,rfl,T2,b2⟩
 obtain rfl:=T2.len
 replace NB:=NB.below' b2
 have q2:=bstep q1 b2
 have hw2:=hide q2.size
 have hng:=hide (show w.heap.size≠w2.heap.size by have:=NB.lt;omega)
 clear b2 q1 R1 HTP
 have V:=Blk.new w2 27 #[.slice Y2 (tapeB rs).length d2,.int .i64 0]
 have bz:Below w2.heap.size w2 (w2.alloc (.cells #[.slice Y2 (tapeB rs).length d2,.int .i64 0] 27)):=below_by
 replace T2:=T2.bl bz
 replace NB:=NB.below' bz
 replace q2:=bstep q2 bz
 clear bz
 go_upto_region 2 with fail
 obtain ⟨w3,hw3⟩:∃ w3,w3=w2.alloc (.cells #[.slice Y2 (tapeB rs).length d2,.int .i64 0] 27):=⟨_,rfl⟩
 rw [←hw3] at NB T2 q2 V ⊢
 clear hw3
 refine wp_region_x (l:=[]) (S:=fun _=>True) (by kernel_rfl) trivial (fun hS=>?_)
 have bd:Below w3.heap.size w3 w3.drew:=(Below.refl _ w3).drew
 replace V:=V.drew;replace T2:=T2.bl bd;replace NB:=NB.below' bd;replace q2:=q2.drew
 clear bd
 obtain ⟨wd,hwd⟩:∃ wd,wd=w3.drew:=⟨_,rfl⟩
 rw [←hwd] at V T2 NB q2 ⊢
 clear hwd
 refine wpAnyX_tq 1 ?_
 have hvd:=V.lt
 refine wpAnyX_pair 0 2 (v:=.agg #[.slice Y2 (tapeB rs).length d2,.int .i64 0]) (u:=.int .i64 kp) ?pc ?pp (hy:=?py) (hy2:=?pz)
 (case py=>exact yieldsIf_load_blk (by rfl) 27 _ rfl rfl (fun w' h=>by rw [h];exact V) Tryz.underlying27 rfl tape_size)
 (case pz=>exact yieldsIf_load_blk (by rfl) 27 _ rfl rfl (fun w' h=>by rw [h];exact V) Tryz.underlying27 rfl tape_size)
 (case pp=>(intro b_ hb_ K hK;rcases hb_ with rfl|rfl <;> (go_wp2_with fail;refine (HPK2.out _).mono ?_;rintro e w' ⟨rfl,rfl⟩;go_wp2_with fail;exact hK.out)))
 clear HPK2
 refine wpAnyX_oq 3 fun K hK=>?_
 go_wp2_with fail
 refine (HCR.out _ _ _ T2).mono ?_
 rintro e wc ⟨m_,Z_,z_,hm_,rfl,TC,bc⟩
 obtain rfl:m_=mm:=by have:=hmm.out;omega
 clear hm_
 go_wp2_with fail
 replace V:=V.below' bc;replace NB:=NB.below' bc
 replace q2:=bstep q2 bc
 refine hK.out _ _ (Or.inr trivial) (fun _=>?_)
 clear hK K HCR bc T2
 refine wpAnyX_tq 4 ?_
 refine wpAnyX_tq 5 ?_
 refine wpAnyX_tq 6 ?_
 refine wpAnyX_oq 7 fun K hK=>?_
 refine wpList_store_blk rfl 27 _ _ rfl (cells:=#[.slice Z_ m_ z_,.int .i64 (m_:Int)]) rfl rfl V rfl tape_size (all_one rfl) ?_
 intro we V9 gre sze
 replace TC:=TC.grown V gre
 replace NB:=grown_blk NB gre hng.out
 have qe:=below_grow q2 gre q2.size hw2.out
 refine hK.out _ _ (Or.inr trivial) (fun _=>?_)
 clear hK K gre sze V q2
 refine wpAnyX_oq 8 fun K hK=>?_
 go_wp2_with fail
 refine hK.out _ _ (Or.inr trivial) (fun _=>?_)
 clear hK K hS
 refine wpAnyX_done (by kernel_rfl) ?_ _
 have hvc:=V9.lt
 (try clear cV9 fV9);have cV9:=V9.cell;have fV9:=V9.frozen
 go_wp2_with fail
 refine (HRV.out _ _ _ TC).mono ?_
 rintro e wf ⟨A4,n4,c4,rows4,Y6,d6,rfl,R4,T6,b6⟩
 obtain rfl:=R4.n_
 have qf:=bstep qe b6
 replace NB:=NB.below' b6
 clear TC b6 qe HRV cV9 fV9 V9
 have U:=Blk.new wf 27 #[.slice Y6 (tapeB D).length d6,.int .i64 ((tapeB D).length:Int)]
 have bz:Below wf.heap.size wf (wf.alloc (.cells #[.slice Y6 (tapeB D).length d6,.int .i64 ((tapeB D).length:Int)] 27)):=below_by
 replace NB:=NB.below' bz;replace R4:=R4.bl bz;replace T6:=T6.bl bz
 replace qf:=bstep qf bz
 clear bz
 go_upto_region 4 with fail
 obtain ⟨wg,hwg⟩:∃ wg,wg=wf.alloc (.cells #[.slice Y6 (tapeB D).length d6,.int .i64 ((tapeB D).length:Int)] 27):=⟨_,rfl⟩
 rw [←hwg] at NB R4 T6 qf U ⊢
 clear hwg
 (try clear cNB fNB);have cNB:=NB.cell;have fNB:=NB.frozen
 go_wp2_with fail
 refine (HRE.out _ qf).mono ?_
 rintro e wh ⟨row,rfl,hrec,bh⟩
 obtain ⟨v0,v1,v2,v3,v4,v5,v6,v7,v8,v9,v10,v11,v12,v13,v14,v15,v16,v17,v18,v19,rfl⟩:=twenty hrec.len
 have hone:=hrec.one
 replace U:=U.below' bh;replace R4:=R4.bl bh;replace T6:=T6.bl bh
 have qh:=bstep qf bh
 clear bh qf cNB fNB NB HRE
 have bz:Below wh.heap.size wh (wh.alloc (.cells #[.int .i64 0,.int .i64 0,.int .i64 0,.int .i64 0,.int .i64 0,.int .i64 0,.bool false,.int .i64 0,.int .i64 0,.int .i64 0,.string { data:=#[] },.string { data:=#[] },.string { data:=#[] },.int .i64 0,.int .i64 0,.int .i64 0,.int .i64 0,.slice none 0 0,.int .i64 0,.slice none 0 0] 45)):=below_by
 go_upto_region 5 with (refine wpList_store_blk rfl 45 _ _ rfl (cells:=#[v0,v1,v2,v3,v4,v5,v6,v7,v8,v9,v10,v11,v12,v13,v14,v15,v16,v17,v18,v19]) rfl rfl (Blk.new wh _ _) rfl rec_size hone ?_;intro wi Z2 gr2 sz2)
 have b23:Below wh.heap.size wh wi:=below_grow bz gr2 (by simp) (Nat.le_refl _)
 replace U:=U.below' b23;replace R4:=R4.bl b23;replace T6:=T6.bl b23;replace hrec:=hrec.bl b23
 have qi:=bstep qh b23
 clear b23 bz gr2 sz2 qh hone
 have hu:=U.lt
 (try clear cU fU);have cU:=U.cell;have fU:=U.frozen
 go_wp2_with (refine wpList_load_blk rfl 45 _ rfl rfl Z2 Tryz.underlying45 rfl rec_size ?_)
 refine (HAP.out _ _ _ _ T6 _ hrec).mono ?_
 rintro e wj ⟨Y7,m7,d7,rfl,T7,-,b7⟩
 obtain rfl:=T7.len
 replace R4:=R4.bl b7;replace Z2:=Z2.below' b7;replace hrec:=hrec.bl b7
 have qj:=bstep qi b7
 clear b7 qi cU fU U T6 HAP
 have X:=Blk.new wj 27 #[.slice Y7 (tapeB (D ++ [r])).length d7,.int .i64 ((tapeB D).length:Int)]
 have bz:Below wj.heap.size wj (wj.alloc (.cells #[.slice Y7 (tapeB (D ++ [r])).length d7,.int .i64 ((tapeB D).length:Int)] 27)):=below_by
 replace R4:=R4.bl bz;replace T7:=T7.bl bz;replace Z2:=Z2.below' bz;replace hrec:=hrec.bl bz
 replace qj:=bstep qj bz
 clear bz
 go_upto_region 6 with fail
 obtain ⟨wk,hwk⟩:∃ wk,wk=wj.alloc (.cells #[.slice Y7 (tapeB (D ++ [r])).length d7,.int .i64 ((tapeB D).length:Int)] 27):=⟨_,rfl⟩
 rw [←hwk] at R4 T7 Z2 hrec qj X ⊢
 clear hwk
 have hx:=X.lt
 (try clear cX fX);have cX:=X.cell;have fX:=X.frozen
 go_wp2_with fail
 refine (HRW.out _ _ _ _ T7).mono ?_
 rintro e wl ⟨A8,n8,c8,rows8,Y9,d9,rfl,R8,-,b8⟩
 have hn8:n8=D.length+1:=by rw [←R8.n_];simp
 subst hn8
 replace R4:=R4.bl b8;replace Z2:=Z2.below' b8;replace hrec:=hrec.bl b8
 have ql:=bstep qj b8
 clear b8 qj cX fX X T7 HRW
 have bz:Below wl.heap.size wl (wl.alloc (.cells #[.slice Y9 (tapeB (D ++ [r])).length d9,.int .i64 ((tapeB D).length:Int)] 27)):=below_by
 replace R4:=R4.bl bz;replace R8:=R8.bl bz;replace Z2:=Z2.below' bz;replace hrec:=hrec.bl bz
 replace ql:=bstep ql bz
 clear bz
 go_upto_region 7 with fail
 obtain ⟨wm,hwm⟩:∃ wm,wm=wl.alloc (.cells #[.slice Y9 (tapeB (D ++ [r])).length d9,.int .i64 ((tapeB D).length:Int)] 27):=⟨_,rfl⟩
 rw [←hwm] at R4 R8 Z2 hrec ql ⊢
 clear hwm
 have hKK:D.length<(D ++ [r]).length:=by simp
 obtain ⟨b,off,rowA,rfl,hbb,hrg,hrA⟩:=R8.range hKK
 rw [show (D ++ [r])[D.length]=r by simp] at hrA
 have hlA:=hrA.len
 have HSZ:=hide (show (Tryz.prog.info? 45).map (·.size)=some rowA.length by rw [hlA];exact rec_size)
 have hDb:D.length≤16:=hD16
 have wD:IntKind.i64.wrap ((D.length:Int)+1)=(D.length:Int)+1:=IntWalk.i64_in _ (by omega)
 have hkk:(D.length:Int)<(D.length:Int)+1:=by omega
 have HRG:=hide (fun w' (b':Below wm.heap.size wm w')=>show w'.rangeAt b (off+D.length*20) rowA from fun j v hv=>by rw [←hrg j v hv];exact b'.cell (p:=⟨b,off+D.length*20+j,none⟩) hbb)
 obtain ⟨gz,hgz⟩:∃ gz,gz=wh.heap.size:=⟨_,rfl⟩
 rw [←hgz] at Z2 ⊢
 clear hgz hrg hlA hKK
 refine wp_region_x (l:=[]) (S:=fun w'=>w'.rangeAt b (off+D.length*20) rowA∧Blk w' gz 45 #[v0,v1,v2,v3,v4,v5,v6,v7,v8,v9,v10,v11,v12,v13,v14,v15,v16,v17,v18,v19]) (by kernel_rfl) ⟨HRG.out _ (Below.refl _ wm).drew,Z2.drew⟩ (fun hS=>?_)
 have bd:Below wm.heap.size wm wm.drew:=(Below.refl _ wm).drew
 have HS:=hide (fun w' (b':Below wm.heap.size wm w')=>And.intro (HRG.out w' b') (Z2.below' b'))
 obtain ⟨wd,hwd⟩:∃ wd,wd=wm.drew:=⟨_,rfl⟩
 rw [←hwd] at hS bd ⊢
 clear hwd
 refine wpAnyX_tq 0 ?_
 refine wpAnyX_tq 1 ?_
 refine wpAnyX_tq 2 ?_
 refine wpAnyX_tq 3 ?_
 refine wpAnyX_tq 4 ?_
 refine wpAnyX_tq 5 ?_
 refine wpAnyX_tq 6 ?_
 refine wpAnyX_tq 7 ?_
 refine wpAnyX_tq 8 ?_
 refine wpAnyX_tq 9 ?_
 refine wpAnyX_tq 10 ?_
 refine wpAnyX_tq 11 ?_
 refine wpAnyX_tq 12 ?_
 refine wpAnyX_tq 13 ?_
 refine wpAnyX_tq 14 ?_
 refine wpAnyX_tq 15 ?_
 refine wpAnyX_tq 16 ?_
 refine wpAnyX_tq 17 ?_
 refine wpAnyX_tq 18 ?_
 refine wpAnyX_tq 19 ?_
 refine wpAnyX_tq 20 ?_
 refine wpAnyX_tq 21 ?_
 refine wpAnyX_tq 22 ?_
 refine wpAnyX_tq 23 ?_
 refine wpAnyX_tq 24 ?_
 refine wpAnyX_tq 25 ?_
 refine wpAnyX_tq 26 ?_
 refine wpAnyX_tq 27 ?_
 refine wpAnyX_onew (i:=28) (by kernel_rfl) rfl (by rfl) (fun K hK=>?_);(try simp only [List.getElem_toArray,List.getElem_cons_zero,List.getElem_cons_succ])
 go_wp2_with fail
 refine (HBG.out _ _ _ _ _ _ _ _ _ (R4.bl bd) (R8.bl bd)).mono ?_
 rintro e wz ⟨rfl,bz⟩
 go_wp2_with fail
 have qz:=bstep bd bz
 refine hK.out _ _ (Or.inr (HS.out _ qz)) (fun hS=>?_)
 replace hS:=hS.resolve_left (by decide)
 clear hK K HBG bz
 refine wpAnyX_tq 29 ?_
 refine wpAnyX_tq 30 ?_
 refine wpAnyX_tq 31 ?_
 refine wpAnyX_tq 32 ?_
 refine wpAnyX_tq 33 ?_
 refine wpAnyX_tq 34 ?_
 refine wpAnyX_tq 35 ?_ (hy:=yieldsIf_load_mid (by rfl) 45 _ rfl b (off+D.length*20) rfl rowA _ (fun w' h=>h.1) Tryz.underlying45 rfl HSZ.out)
 refine wpAnyX_tq 36 ?_ (hy:=yieldsIf_load_blk (by rfl) 45 _ rfl rfl (fun w' h=>h.2) Tryz.underlying45 rfl rec_size)
 refine wpAnyX_onew (i:=37) (by kernel_rfl) rfl (by rfl) (fun K hK=>?_);(try simp only [List.getElem_toArray,List.getElem_cons_zero,List.getElem_cons_succ])
 go_wp2_with fail
 refine (HSR.out _ _ _ (hrA.bl qz) (hrec.bl qz)).mono ?_
 rintro e wy ⟨rfl,by_⟩
 go_wp2_with fail
 have qy:=bstep qz by_
 have qf:=bstep ql qy
 refine hK.out _ _ (Or.inr (HS.out _ qy)) (fun hS=>?_)
 replace hS:=hS.resolve_left (by decide)
 clear hK K HSR by_
 refine wpAnyX_tq 38 ?_
 refine wpAnyX_ps 39 ?_
 clear hS
 refine wpAnyX_done (by kernel_rfl) ?_ _
 go_wp2_with fail
 go_ret
 exact ⟨rfl,qf⟩
set_option maxRecDepth 100000 in
theorem tapeOn_lifted (os:Os) (started:os.Started) (H:Type) (enc:TypeId×Value→H) :
 ReturnsInHanded {} Tryz.checked os 7 .any (fun w args=>(Rows.tapeOnSpec.pre enc Tryz.prog Tryz.f7 [] false w args∧laidMetH Tryz.prog laidN w)∧sizedMet enc Tryz.prog Tryz.f7 (OpenSpec.ofChange Rows.tapeOnSpec) false w args) (Rows.tapeOnSpec.post enc Tryz.prog Tryz.f7 false true false false):=by
 refine returnsInHanded_of_change_and (C:=Tryz.checked) (X:=fun w _=>laidMetH Tryz.prog laidN w) (fun _ _ _ hh h=>h.of_heap hh) Tryz.own started (by kernel_rfl) Tryz.func7 (ChangeSpec.witness_shaped (enc:=enc) (C:=Tryz.checked) (os:=os) (X:=fun w _=>laidMetH Tryz.prog laidN w) false (World.doorLaid Tryz.prog 14 os) #[.slice none 0 0,.int .i64 0,.agg #[.int .i64 0,.int .i64 0,.int .i64 0,.slice none 0 0]] 8 rfl (World.shaped_of_RefB (by kernel_rfl) (by kernel_rfl)) (by kernel_rfl) (by kernel_rfl) (by kernel_rfl) (door_met os _)) ?_
 intro W base args ds gs before hval0 hW hcnd hsz0 hL _
 have hsz:(DataW.weightsEach Tryz.prog (Tryz.f7.params.toList ++ Rows.tapeOnSpec.plain.varTypes Tryz.prog) (ds ++ gs)).all (·≤reachBytes)=true:=hsz0
 clear hsz0
 have hval:∀ (j:Nat) t v,Tryz.f7.params[j]?=some t→args[j]?=some v→Value.okWide Tryz.prog W .any base t v:=hval0
 have hW':=hW
 obtain ⟨p,q,hA0,hV,rfl,hfz,hnd⟩:=hW
 have hA:DataW.TrodAll enc Tryz.prog W 0 (fun _=>true) true Tryz.f7.params.toList args.toList ds p:=hA0
 rw [Tryz.params7] at hA hval hsz
 obtain ⟨rfl,rfl⟩:=trodVars_none hV
 clear hA0 hval0 hcnd hV hfz hnd
 have hN:=noth_of_laid hL
 obtain ⟨v0,v1,v2,d0,d1,d2,p0,p1,p2,rfl,rfl,rfl,h0,h1,h2⟩:=trodAll_three hA
 obtain ⟨A,n,c,ys,rfl,hy,hNt⟩:=open_notes (hval 0 22 v0 rfl rfl) h0
 obtain ⟨m1,rfl,rfl,rfl,w1⟩:=open_int Tryz.underlying3 (hval 1 3 v1 rfl rfl) h1
 obtain ⟨y,An,nn,cn,rfl,hyn,hSn⟩:=open_note (hval 2 78 v2 rfl rfl) h2
 refine (tapeOn_walk A n c ys m1 y An nn cn W hNt hy (i64_bounds w1) hyn hSn hN).mono fun e W' ⟨he,hb⟩=>?_
 subst he
 exact ⟨_,rfl,post_law Tryz.laidOut hW' rfl (by kernel_rfl) rfl Tryz.underlying4 (fun _=>rfl) (fun _=>rfl) (fun _=>rfl) hb⟩
set_option maxRecDepth 100000 in
theorem tapeOn_f1:(Rows.tapeOnRow.inPlace == Tryz.pinned.checked.prog.inPlace 7)=true:=by kernel_rfl
set_option maxRecDepth 100000 in
theorem tapeOn_f2:(Rows.tapeOnRow.unfollowed == Tryz.pinned.checked.prog.unfollowed 7)=true:=by kernel_rfl
set_option maxRecDepth 100000 in
theorem tapeOn_f3:(Rows.tapeOnRow.recurses == Tryz.pinned.checked.prog.recurses 7)=true:=by kernel_rfl
set_option maxRecDepth 100000 in
theorem tapeOn_f4:(Rows.tapeOnRow.named == Tryz.pinned.checked.prog.varsNamed 7)=true:=by kernel_rfl
set_option maxRecDepth 100000 in
theorem tapeOn_facts:joinedFacts Tryz.pinned.checked.prog 7 Tryz.f7 Rows.tapeOnSpec Rows.tapeOnRow=true:=by
 unfold joinedFacts
 rw [enterN,show (Rows.tapeOnRow.lifted == Tryz.pinned.checked.prog.liftsFinal)=true from liftsN,laidN1,laidN2,heardN,show (Rows.tapeOnRow.plainKeys == Tryz.pinned.checked.prog.plainKeys)=true from keysN,tapeOn_f1,tapeOn_f2,tapeOn_f3,tapeOn_f4]
 kernel_rfl
theorem tapeOn_row:Rows.TapeOnSaid:=OpenClaim.holds_of_wide 7 Tryz.f7 rfl rfl rfl rfl rfl rfl rfl ⟨rfl,rfl,rfl,rfl,rfl⟩ rfl rfl rfl rfl rfl (by kernel_rfl) Tryz.func7 tapeOn_facts
 (of_decide_eq_true (by kernel_rfl)) (by unfold Func.isWrapper;first|(rw [if_pos (by decide +kernel)];kernel_rfl)|(rw [if_neg (by decide +kernel)];exact ⟨rfl,rfl⟩))
 (fun os started H enc _=>tapeOn_lifted os started H enc)
set_option maxRecDepth 100000 in
theorem tapeOn_goes:false=Rows.tapeOnRow.goesBy Tryz.pinned.checked.prog:=by kernel_rfl
set_option maxRecDepth 100000 in
theorem tapeOn_looks:false=Tryz.pinned.checked.prog.looks []:=by kernel_rfl
set_option maxRecDepth 100000 in
theorem tapeOn_holds:Rows.TapeOnCardSaid:=
 Claim7.holds_tied_plain_at .later [] [.data] true Rows.tapeLongCard.stood.harness false
  tapeOn_row (fun _ h=>by cases h) (by kernel_rfl) (fun _ h=>by cases h) tapeOn_row_tie rfl ⟨rfl,rfl⟩ mainN rfl
  (fun f fn hf hfn=>by
   obtain rfl:f=7:=Option.some.inj ((show Tryz.prog.funcNamed "rostrum/rostrumkeep.TapeOn" = some 7 by kernel_rfl).symm.trans hf) |>.symm
   obtain rfl:fn=Tryz.f7:=(Option.some.inj (Tryz.func7.symm.trans hfn)).symm
   exact ⟨tapeOn_looks,fun j t ht=>by
    rw [Tryz.params7] at ht
    have hm:=List.mem_of_getElem? (Array.getElem?_toList ▸ ht)
    simp only [List.mem_cons,List.not_mem_nil,or_false] at hm
    rcases hm with rfl|rfl|rfl <;> exact (show Tryz.prog.wantsStandIn _=false by kernel_rfl)⟩)
  tapeOn_goes
#print axioms tapeOn_holds
end Go.Proofs.YtgmojjclobkpjaaGreatDoor

