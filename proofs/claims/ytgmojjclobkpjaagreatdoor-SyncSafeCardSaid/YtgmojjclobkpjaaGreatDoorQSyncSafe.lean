/- rostrumkeep.SyncSafe returns true for every input; client.nothing holds what its initialiser lays. -/
import Derived.Test.YtgmojjclobkpjaaGreatDoorQTapM
namespace Go.Proofs.YtgmojjclobkpjaaGreatDoor
set_option linter.all false
set_option maxHeartbeats 32000000
open Go.ChangeShapes Go.WideShapes Go.ChangeAt Go.RowKit
set_option maxRecDepth 100000 in
theorem syncSafe_walk (A:Option Addr) (n c:Nat) (ys:List NoteD) (k:Int) (w:World) (hN:Notes w A n c ys) (hy:∀ y∈ys,y.ok) (hk:I64 k) (hNo:Noth w) :
  Calls Tryz.prog 9 #[.slice A n c,.int .i64 k] w fun e w'=>e = .returned (.bool true)∧Below w.heap.size w w':=by
 have HRC:=hide (records_any A n c ys w hN hy hNo)
 have hok:=recsOf_ok ys
 have hlen:=recsOf_tape ys
 have hl16:=recsOf_len ys
 rw [show (ys.take 16).map recOf=recsOf ys from rfl] at HRC
 generalize recsOf ys=rs at *
 clear hN hy hNo
 have HTP:=hide (fun A n c rows w h=>taped_any A n c rs rows w h hok (by omega))
 unfold RecsPost at HRC
 unfold TapedPost at HTP
 have r1:=picked_lo k 99 (by omega)
 have r2:=picked_hi k 99 (by omega)
 have HPK:=hide (fun w=>picked_any k 99 w hk.1 hk.2 (by omega) (by omega))
 generalize picked k 99=p at *
 have HSY:=hide (fun Y d w (h:TpSl w Y (tapeB rs).length d (tapeB rs))=>Sync_any (tapeB rs) Y (tapeB rs).length d 0 w h (by omega) (by omega) (by omega))
 have HCR:=hide (fun Y d w (h:TpSl w Y (tapeB rs).length d (tapeB rs))=>(show Calls Tryz.prog 17 #[.agg #[.slice Y (tapeB rs).length d,.int .i64 ((tapeB rs).length:Int)],.int .i64 p] w fun e w'=>∃ (Z:Option Addr) (z:Nat),e = .returned (.tuple #[.agg #[.slice Z (tapeB rs).length z,.int .i64 ((tapeB rs).length:Int)],.int .i64 0])∧TpSl w' Z (tapeB rs).length z (tapeB rs)∧Below w.heap.size w w' from (Crash_any (tapeB rs) Y (tapeB rs).length d ((tapeB rs).length:Int) p w h (by omega) (by omega) (by omega) r1 (by omega)).mono fun e w' ⟨m,Z,z,hm,he,hT,hb⟩=>by
  obtain rfl:m=(tapeB rs).length:=by omega
  rw [List.take_of_length_le (Nat.le_refl _)] at hT
  exact ⟨Z,z,he,hT,hb⟩))
 have HRV:=hide (fun Y d w (h:TpSl w Y (tapeB rs).length d (tapeB rs))=>Recover_any (tapeB rs) Y (tapeB rs).length d ((tapeB rs).length:Int) w h (by omega) (by omega) (by omega))
 have HRN:=hide (fun w=>Recover_any [] none 0 0 0 w ⟨Sl.nil_ _ _,fun u hu=>(by cases hu),Tp.none_⟩ (by omega) (by simp) (by simp))
 unfold RecvPost at HRV HRN
 rw [recA_all hok] at HRV
 rw [show recA []=([],0) from rfl] at HRN
 simp only [show ∀ x:Nat,min (x:Int) (x:Int)=x from fun x=>by omega] at HRV
 rw [List.take_of_length_le (Nat.le_refl _)] at HRV
 have HBG:=hide (fun A B n c m d rows1 rows2 w h1 h2=>begins_any A B n c m d rs rs rows1 rows2 w h1 h2 ⟨[],by simp⟩ hok)
 generalize tapeB rs=bs at *
 clear hok hk
 go_enter Tryz.func9,Tryz.ntmps9
 go_wp2_with fail
 refine HRC.out.mono ?_
 rintro e w1 ⟨A1,n1,c1,rows1,rfl,R1,b1⟩
 obtain rfl:=R1.n_
 go_wp2_with fail
 refine (HTP.out _ _ _ _ _ R1).mono ?_
 rintro e w2 ⟨Y2,m2,d2,rfl,T2,b2⟩
 obtain rfl:=T2.len
 have RO:=hide (And.intro R1 b2.size)
 replace R1:=R1.bl b2
 have q2:=bstep b1 b2
 have hw2:=hide q2.size
 clear b1 b2 HRC HTP
 have hd2:=T2.sl.nc
 have V:=Blk.new w2 27 #[.slice Y2 bs.length d2,.int .i64 0]
 have bz:Below w2.heap.size w2 (w2.alloc (.cells #[.slice Y2 bs.length d2,.int .i64 0] 27)):=below_by
 replace R1:=R1.bl bz
 replace T2:=T2.bl bz
 replace q2:=bstep q2 bz
 clear bz
 go_upto_region 3 with fail
 obtain ⟨w3,hw3⟩:∃ w3,w3=w2.alloc (.cells #[.slice Y2 bs.length d2,.int .i64 0] 27):=⟨_,rfl⟩
 rw [←hw3] at R1 T2 q2 V ⊢
 clear hw3
 have hv:=V.lt
 (try clear cV fV);have cV:=V.cell;have fV:=V.frozen
 go_wp2_with fail
 refine (HSY.out _ _ _ T2).mono ?_
 rintro e w4 ⟨Y4,d4,rfl,T4,b4⟩
 replace R1:=R1.bl b4
 replace V:=V.below' b4
 have q4:=bstep q2 b4
 clear b4 cV fV T2 q2 HSY
 go_upto_region 4 with (refine wpList_store_blk rfl 27 _ _ rfl (cells:=#[.slice Y4 bs.length d4,.int .i64 (bs.length:Int)]) rfl rfl V rfl tape_size (all_one rfl) ?_;intro w5 V5 gr5 sz5)
 replace T4:=T4.grown V gr5
 replace R1:=R1.old RO.out V gr5
 have q5:=below_grow q4 gr5 q4.size hw2.out
 have hv5:=V5.lt
 clear gr5 sz5 V q4
 refine wp_region_x (l:=[]) (S:=fun w'=>w'.cell? ⟨w2.heap.size,0,none⟩=some (.slice Y4 bs.length d4)∧w'.cell? ⟨w2.heap.size,1,none⟩=some (.int .i64 (bs.length:Int))) (by kernel_rfl) ⟨V5.drew.cell 0,V5.drew.cell 1⟩ (fun hS=>?_)
 have bd:Below w5.heap.size w5 w5.drew:=(Below.refl _ w5).drew
 replace V5:=V5.drew;replace T4:=T4.bl bd;replace R1:=R1.bl bd;replace q5:=q5.drew
 clear bd
 obtain ⟨wd,hwd⟩:∃ wd,wd=w5.drew:=⟨_,rfl⟩
 rw [←hwd] at hS V5 T4 R1 q5 ⊢
 clear hwd
 have HS:=hide (fun w' (b':Below wd.heap.size wd w')=>And.intro ((V5.below' b').cell 0) ((V5.below' b').cell 1))
 refine wpAnyX_tq 0 ?_
 refine wpAnyX_tq 1 ?_
 clear hS
 refine wpG_start1 (j:=7) (d:=9) (t:=27) (z:=#[.slice none 0 0,.int .i64 0]) (val:=vptr) (C:=fun _=>True) ⟨⟨_,rfl,rfl,rfl,fun a w _=>?al1⟩,vptr_inj⟩ (fun al1=>?_)
 (case al1=>simp [go_sem,execOp,vptr])
 refine wpG_phase1 (base:=wd.heap.size) al1 2 (f:=6) (fun b_=>#[true,true,false,false,false,false,false,b_,false,false]) (fun w'=>Below wd.heap.size wd w') (x:=undef) (fun w' q=>HS.out w' q) (fun w' o q=>q.alloc q.size o) (fun w' q=>q.size) (fun _=>trivial) (Below.refl _ wd) PendG.no ?_
 intro b_ y_ w6 G6 hy K_ hK_
 (try simp only [vptr,vsl,Act.put,List.setIfInBounds_toArray,List.set_cons_zero,List.set_cons_succ,List.getElem_toArray,List.getElem_cons_zero,List.getElem_cons_succ])
 go_wp2_with fail
 refine (HPK.out _).mono ?_
 rintro e w' ⟨rfl,rfl⟩
 go_wp2_with fail
 refine hK_.out _ _ (Or.inr (HS.out _ G6)) ?_
 clear hK_ K_ HPK
 refine wpG_phase1 (base:=wd.heap.size) al1 3 (f:=5) (fun b_=>#[true,true,true,false,false,false,false,b_,false,false]) (fun w'=>Below w6.heap.size w6 w') (x:=y_) (fun w' q=>HS.out w' (bstep G6 q)) (fun w' o q=>q.alloc q.size o) (fun w' q=>Nat.le_trans G6.size q.size) (fun _=>trivial) (Below.refl _ w6) hy ?_
 clear hy
 intro b_ y_ w7 G7 hy K_ hK_
 (try simp only [vptr,vsl,Act.put,List.setIfInBounds_toArray,List.set_cons_zero,List.set_cons_succ,List.getElem_toArray,List.getElem_cons_zero,List.getElem_cons_succ])
 replace G7:=bstep G6 G7
 clear G6
 go_wp2_with fail
 refine (HCR.out _ _ _ (T4.bl G7)).mono ?_
 rintro e w8 ⟨Z8,z8,rfl,T8,b8⟩
 go_wp2_with fail
 have G8:=bstep G7 b8
 replace hy:=hy.bl b8
 have hS8:=HS.out _ G8
 refine hK_.out _ _ (Or.inr hS8) ?_
 clear hK_ K_ G7 b8 HCR
 refine wpG_take1 4 (f:=4) (fun b_=>#[true,true,true,true,false,false,false,b_,false,false]) ?_
 refine wpG_take1 5 (f:=3) (fun b_=>#[true,true,true,true,true,false,false,b_,false,false]) ?_
 refine wpG_take1 6 (f:=2) (fun b_=>#[true,true,true,true,true,true,false,b_,false,false]) ?_
 refine wpG_lay1 (base:=wd.heap.size) al1 (f:=2) (fun b_=>#[true,true,true,true,true,true,true,b_,false,false]) (fun w'=>Below w8.heap.size w8 w') (x:=y_) (fun w' q=>HS.out w' (bstep G8 q)) (fun w' o q=>q.alloc q.size o) (fun w' q=>Nat.le_trans G8.size q.size) (fun _=>trivial) (Below.refl _ w8) hy ?_
 clear hy hS8
 intro g9 w9 b9 hg9 B9
 (try simp only [vptr,vsl,Act.put,List.setIfInBounds_toArray,List.set_cons_zero,List.set_cons_succ,List.getElem_toArray,List.getElem_cons_zero,List.getElem_cons_succ])
 replace T8:=T8.bl b9
 replace G8:=bstep G8 b9
 clear al1 b9
 have V9:=V5.below' G8
 have T9:=T4.bl G8
 have R9:=R1.bl G8
 have q9:=bstep q5 G8
 have hv9:=V5.lt
 have hw9:=q5.size
 refine wpAnyX_oq 8 fun K hK=>?_
 refine wpList_store_blk rfl 27 _ _ rfl (cells:=#[.slice Z8 bs.length z8,.int .i64 (bs.length:Int)]) rfl rfl B9 rfl tape_size (all_one rfl) ?_
 intro wa U gra sza
 have hne:w2.heap.size≠g9:=by omega
 have Va:=grown_blk V9 gra hne
 replace T9:=T9.grown B9 gra
 replace T8:=T8.grown B9 gra
 replace R9:=R9.old (And.intro RO.out.1 (by have:=RO.out.2;omega)) B9 gra
 have qa:=below_grow q9 gra q9.size (by omega)
 refine hK.out _ _ (Or.inr ⟨Va.cell 0,Va.cell 1⟩) (fun hS=>?_)
 replace hS:=hS.resolve_left (by decide)
 clear hK K gra sza B9 V9 G8 V5 T4 R1 q5 q9 HS
 refine wpAnyX_oq 9 fun K hK=>?_
 go_wp2_with fail
 refine hK.out _ _ (Or.inr hS) (fun _=>?_)
 clear hK K hS
 refine wpAnyX_done (by kernel_rfl) ?_ _
 have hva:=Va.lt
 have hua:=U.lt
 (try clear cU fU);have cU:=U.cell;have fU:=U.frozen
 go_wp2_with fail
 refine (HRV.out _ _ _ T8).mono ?_
 rintro e wb ⟨Ab,nb,cb,rowsb,Yb,db,rfl,Rb,Tb,bb⟩
 obtain rfl:=Rb.n_
 have bz:Below wb.heap.size wb (wb.alloc (.cells #[.slice Yb bs.length db,.int .i64 (bs.length:Int)] 27)):=below_by
 have X:=Blk.new wb 27 #[.slice Yb bs.length db,.int .i64 (bs.length:Int)]
 have bbz:=bstep bb bz
 replace Va:=Va.below' bbz;replace T9:=T9.bl bbz;replace R9:=R9.bl bbz;replace Rb:=Rb.bl bz;replace Tb:=Tb.bl bz
 have qb:=bstep qa bbz
 clear bb bz bbz qa T8 HRV cU fU U
 go_upto_region 6 with fail
 obtain ⟨wc,hwc⟩:∃ wc,wc=wb.alloc (.cells #[.slice Yb bs.length db,.int .i64 (bs.length:Int)] 27):=⟨_,rfl⟩
 rw [←hwc] at Va T9 R9 Rb Tb X qb ⊢
 clear hwc
 go_wp2_with fail
 refine (HRN.out _).mono ?_
 rintro e we ⟨Ae,ne,ce,rowse,Ye,de,rfl,Re,Te,be⟩
 obtain rfl:0=ne:=Re.n_
 simp only [show min (0:Int) ((0:Nat):Int)=0 from rfl]
 have bz:Below we.heap.size we (we.alloc (.cells #[.slice Ye 0 de,.int .i64 0] 27)):=below_by
 have Xe:=Blk.new we 27 #[.slice Ye 0 de,.int .i64 0]
 have bbz:=bstep be bz
 replace Va:=Va.below' bbz;replace T9:=T9.bl bbz;replace R9:=R9.bl bbz;replace Rb:=Rb.bl bbz;replace Tb:=Tb.bl bbz;replace X:=X.below' bbz
 have qe:=bstep qb bbz
 clear be bz bbz qb Re Te HRN
 go_upto_region 7 with fail
 obtain ⟨wf,hwf⟩:∃ wf,wf=we.alloc (.cells #[.slice Ye 0 de,.int .i64 0] 27):=⟨_,rfl⟩
 rw [←hwf] at Va T9 R9 Rb Tb X Xe qe ⊢
 clear hwf
 go_wp2_with fail
 refine (HBG.out _ _ _ _ _ _ _ _ _ Rb R9).mono ?_
 rintro e wg ⟨rfl,bg⟩
 replace Va:=Va.below' bg;replace T9:=T9.bl bg;replace Tb:=Tb.bl bg;replace X:=X.below' bg;replace Xe:=Xe.below' bg
 have qg:=bstep qe bg
 have z1:=run_str Tryz.underlying25 Tryz.underlying5 Tryz.underlying9 T9.sl T9.u8
 have z2:=run_str Tryz.underlying25 Tryz.underlying5 Tryz.underlying9 Tb.sl Tb.u8
 clear R9 Rb T9 Tb HBG bg qe
 (try clear cVa fVa);have cVa:=Va.cell;have fVa:=Va.frozen;(try clear cX fX);have cX:=X.cell;have fX:=X.frozen;(try clear cXe fXe);have cXe:=Xe.cell;have fXe:=Xe.frozen
 go_wp2_with fail
 go_ret
 exact ⟨rfl,qg⟩
set_option maxRecDepth 100000 in
theorem syncSafe_lifted (os:Os) (started:os.Started) (H:Type) (enc:TypeId×Value→H) :
 ReturnsInHanded {} Tryz.checked os 9 .any (fun w args=>(Rows.syncSafeSpec.pre enc Tryz.prog Tryz.f9 [] false w args∧laidMetH Tryz.prog laidN w)∧sizedMet enc Tryz.prog Tryz.f9 (OpenSpec.ofChange Rows.syncSafeSpec) false w args) (Rows.syncSafeSpec.post enc Tryz.prog Tryz.f9 false true false false):=by
 refine returnsInHanded_of_change_and (C:=Tryz.checked) (X:=fun w _=>laidMetH Tryz.prog laidN w) (fun _ _ _ hh h=>h.of_heap hh) Tryz.own started (by kernel_rfl) Tryz.func9 (ChangeSpec.witness_shaped (enc:=enc) (C:=Tryz.checked) (os:=os) (X:=fun w _=>laidMetH Tryz.prog laidN w) false (World.doorLaid Tryz.prog 14 os) #[.slice none 0 0,.int .i64 0] 8 rfl (World.shaped_of_RefB (by kernel_rfl) (by kernel_rfl)) (by kernel_rfl) (by kernel_rfl) (by kernel_rfl) (door_met os _)) ?_
 intro W base args ds gs before hval0 hW hcnd hsz0 hL _
 have hsz:(DataW.weightsEach Tryz.prog (Tryz.f9.params.toList ++ Rows.syncSafeSpec.plain.varTypes Tryz.prog) (ds ++ gs)).all (·≤reachBytes)=true:=hsz0
 clear hsz0
 have hval:∀ (j:Nat) t v,Tryz.f9.params[j]?=some t→args[j]?=some v→Value.okWide Tryz.prog W .any base t v:=hval0
 have hW':=hW
 obtain ⟨p,q,hA0,hV,rfl,hfz,hnd⟩:=hW
 have hA:DataW.TrodAll enc Tryz.prog W 0 (fun _=>true) true Tryz.f9.params.toList args.toList ds p:=hA0
 rw [Tryz.params9] at hA hval hsz
 obtain ⟨rfl,rfl⟩:=trodVars_none hV
 clear hA0 hval0 hcnd hV hfz hnd
 have hN:=noth_of_laid hL
 obtain ⟨v0,v1,d0,d1,p0,p1,rfl,rfl,rfl,h0,h1⟩:=trodAll_two hA
 obtain ⟨A,n,c,ys,rfl,hy,hNt⟩:=open_notes (hval 0 22 v0 rfl rfl) h0
 obtain ⟨m1,rfl,rfl,rfl,w1⟩:=open_int Tryz.underlying3 (hval 1 3 v1 rfl rfl) h1
 refine (syncSafe_walk A n c ys m1 W hNt hy (i64_bounds w1) hN).mono fun e W' ⟨he,hb⟩=>?_
 subst he
 exact ⟨_,rfl,post_law Tryz.laidOut hW' rfl (by kernel_rfl) rfl Tryz.underlying4 (fun _=>rfl) (fun _=>rfl) (fun _=>rfl) hb⟩
set_option maxRecDepth 100000 in
theorem syncSafe_f1:(Rows.syncSafeRow.inPlace == Tryz.pinned.checked.prog.inPlace 9)=true:=by kernel_rfl
set_option maxRecDepth 100000 in
theorem syncSafe_f2:(Rows.syncSafeRow.unfollowed == Tryz.pinned.checked.prog.unfollowed 9)=true:=by kernel_rfl
set_option maxRecDepth 100000 in
theorem syncSafe_f3:(Rows.syncSafeRow.recurses == Tryz.pinned.checked.prog.recurses 9)=true:=by kernel_rfl
set_option maxRecDepth 100000 in
theorem syncSafe_f4:(Rows.syncSafeRow.named == Tryz.pinned.checked.prog.varsNamed 9)=true:=by kernel_rfl
set_option maxRecDepth 100000 in
theorem syncSafe_facts:joinedFacts Tryz.pinned.checked.prog 9 Tryz.f9 Rows.syncSafeSpec Rows.syncSafeRow=true:=by
 unfold joinedFacts
 rw [enterN,show (Rows.syncSafeRow.lifted == Tryz.pinned.checked.prog.liftsFinal)=true from liftsN,laidN1,laidN2,heardN,show (Rows.syncSafeRow.plainKeys == Tryz.pinned.checked.prog.plainKeys)=true from keysN,syncSafe_f1,syncSafe_f2,syncSafe_f3,syncSafe_f4]
 kernel_rfl
theorem syncSafe_row:Rows.SyncSafeSaid:=OpenClaim.holds_of_wide 9 Tryz.f9 rfl rfl rfl rfl rfl rfl rfl ⟨rfl,rfl,rfl,rfl,rfl⟩ rfl rfl rfl rfl rfl (by kernel_rfl) Tryz.func9 syncSafe_facts
 (of_decide_eq_true (by kernel_rfl)) (by unfold Func.isWrapper;first|(rw [if_pos (by decide +kernel)];kernel_rfl)|(rw [if_neg (by decide +kernel)];exact ⟨rfl,rfl⟩))
 (fun os started H enc _=>syncSafe_lifted os started H enc)
set_option maxRecDepth 100000 in
theorem syncSafe_goes:false=Rows.syncSafeRow.goesBy Tryz.pinned.checked.prog:=by kernel_rfl
set_option maxRecDepth 100000 in
theorem syncSafe_looks:false=Tryz.pinned.checked.prog.looks []:=by kernel_rfl
set_option maxRecDepth 100000 in
theorem syncSafe_holds:Rows.SyncSafeCardSaid:=
 Claim7.holds_tied_plain_at .later [] [.data] true Rows.tapeLongCard.stood.harness false
  syncSafe_row (fun _ h=>by cases h) (by kernel_rfl) (fun _ h=>by cases h) syncSafe_row_tie rfl ⟨rfl,rfl⟩ mainN rfl
  (fun f fn hf hfn=>by
   obtain rfl:f=9:=Option.some.inj ((show Tryz.prog.funcNamed "rostrum/rostrumkeep.SyncSafe" = some 9 by kernel_rfl).symm.trans hf) |>.symm
   obtain rfl:fn=Tryz.f9:=(Option.some.inj (Tryz.func9.symm.trans hfn)).symm
   exact ⟨syncSafe_looks,fun j t ht=>by
    rw [Tryz.params9] at ht
    have hm:=List.mem_of_getElem? (Array.getElem?_toList ▸ ht)
    simp only [List.mem_cons,List.not_mem_nil,or_false] at hm
    rcases hm with rfl|rfl <;> exact (show Tryz.prog.wantsStandIn _=false by kernel_rfl)⟩)
  syncSafe_goes
#print axioms syncSafe_holds
end Go.Proofs.YtgmojjclobkpjaaGreatDoor

