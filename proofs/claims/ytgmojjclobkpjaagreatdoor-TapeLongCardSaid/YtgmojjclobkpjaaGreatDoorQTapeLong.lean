/- rostrumkeep.TapeLong returns true for every input; client.nothing holds what its initialiser lays. -/
import Derived.Test.YtgmojjclobkpjaaGreatDoorQTapM
namespace Go.Proofs.YtgmojjclobkpjaaGreatDoor
set_option linter.all false
set_option maxHeartbeats 32000000
open Go.ChangeShapes Go.WideShapes Go.ChangeAt Go.RowKit
set_option maxRecDepth 100000 in
theorem tapeLong_walk (A:Option Addr) (n c:Nat) (ys:List NoteD) (w:World) (hN:Notes w A n c ys) (hy:∀ y∈ys,y.ok) (hNo:Noth w) :
  Calls Tryz.prog 3 #[.slice A n c] w fun e w'=>e = .returned (.bool true)∧Below w.heap.size w w':=by
 have HRC:=hide (records_any A n c ys w hN hy hNo)
 have hok:=recsOf_ok ys
 have hlen:=recsOf_tape ys
 have hl16:=recsOf_len ys
 rw [show (ys.take 16).map recOf=recsOf ys from rfl] at HRC
 generalize recsOf ys=rs at *
 clear hN hy hNo
 have HTP:=hide (fun A n c rows w h=>taped_any A n c rs rows w h hok (by omega))
 unfold RecsPost at HRC
 unfold TapedPost at HTP
 have HOK:=hide hok
 have HLE:=hide (show ∀ k (h:k<rs.length),(tapeB (rs.take (k+1))).length=(tapeB (rs.take k)).length+(3+rs[k].bytes.length)∧(tapeB (rs.take k)).length+(3+rs[k].bytes.length)≤204960 from fun k h=>by
  have h1:=frame_step h
  have h2:=tapeB_step_le h
  rw [frame_len] at h2
  exact ⟨by rw [h1,List.length_append,frame_len],by omega⟩)
 have hlen2:=hlen
 clear hok
 go_enter Tryz.func3,Tryz.ntmps3
 go_wp2_with fail
 refine HRC.out.mono ?_
 rintro e w1 ⟨A1,n1,c1,rows1,rfl,R1,b1⟩
 obtain rfl:=R1.n_
 go_wp2_with fail
 refine (HTP.out _ _ _ _ _ R1).mono ?_
 rintro e w2 ⟨Y2,m2,d2,rfl,T2,b2⟩
 obtain rfl:=T2.len
 replace R1:=R1.bl b2
 have q2:=bstep b1 b2
 clear b1 b2 HRC HTP
 have hd2:=T2.sl.nc
 have V:=Blk.new w2 27 #[.slice Y2 (tapeB rs).length d2,.int .i64 0]
 have bz:Below w2.heap.size w2 (w2.alloc (.cells #[.slice Y2 (tapeB rs).length d2,.int .i64 0] 27)):=below_by
 replace R1:=R1.bl bz
 replace T2:=T2.bl bz
 replace q2:=bstep q2 bz
 clear bz
 go_upto_region 3 with fail
 obtain ⟨w3,hw3⟩:∃ w3,w3=w2.alloc (.cells #[.slice Y2 (tapeB rs).length d2,.int .i64 0] 27):=⟨_,rfl⟩
 rw [←hw3] at R1 T2 q2 V ⊢
 clear hw3
 have hv:=V.lt
 have HU:=hide T2
 have HR:=hide R1
 have hn1:=R1.sl.nc
 have hc1:=R1.sl.cm
 unfold maxLen at hc1
 clear T2 R1
 go_wp2_with fail
 go_loopw [6,7] (fun s6 s7 wr=>∃ k:Nat,k≤rs.length∧s7 = .int .i64 (k:Int)∧s6 = .int .i64 ((tapeB (rs.take k)).length:Int)∧Below w3.heap.size w3 wr) (fun _ s7 _=>rs.length - (intOf s7).toNat)
 case atStart=>exact ⟨0,by omega,rfl,rfl,Below.refl _ _⟩
 case round=>
  obtain ⟨k,hk,rfl,rfl,q⟩:=hrel
  by_cases hlt:k<rs.length
  ·have hr:=HOK.out rs[k] (List.getElem_mem hlt)
   have hle:=HLE.out k hlt
   obtain ⟨b,off,row,rfl,hbb,hrg,hrec⟩:=(HR.out.bl q).range hlt
   generalize rs[k]=r at *
   have hl20:=hrec.len
   have HONE:=hide hrec.one
   have HSZ:=hide (show (Tryz.prog.info? 45).map (·.size)=some row.length by rw [hl20];exact rec_size)
   have HSZ2:=hide (show (Tryz.prog.info? 45).map (·.size)=some row.toArray.size by rw [List.size_toArray,hl20];exact rec_size)
   have HL2:=hide (show 20=row.toArray.size by rw [List.size_toArray,hl20])
   have HRG:=hide hrg
   have HREC:=hide hrec
   have HR1:=hide hr
   obtain ⟨hle1,hle2⟩:=hle
   have HLE1:=hide hle1
   generalize (tapeB (rs.take k)).length=N at *
   have hNk:N≤204960:=by omega
   have hB:r.bytes.length≤204960:=by omega
   clear hrg hl20 hrec hr hle1
   have q34:Below wr.heap.size wr (wr.alloc (.cells #[.int .i64 0,.int .i64 0,.int .i64 0,.int .i64 0,.int .i64 0,.int .i64 0,.bool false,.int .i64 0,.int .i64 0,.int .i64 0,.string { data:=#[] },.string { data:=#[] },.string { data:=#[] },.int .i64 0,.int .i64 0,.int .i64 0,.int .i64 0,.slice none 0 0,.int .i64 0,.slice none 0 0] 45)):=below_by
   have ik:(k:Int)<(rs.length:Int):=by omega
   go_upto_region 8 with (first|(refine wpList_load_mid rfl 45 _ rfl _ _ rfl row _ HRG.out Tryz.underlying45 rfl HSZ.out ?_)|(refine wpList_store_blk rfl 45 _ _ rfl (cells:=row.toArray) rfl rfl (Blk.new wr _ _) HL2.out HSZ2.out HONE.out ?_;intro w4 Z4 gr4 sz4))
   have b4:Below wr.heap.size wr w4:=below_grow q34 gr4 (by simp) (Nat.le_refl _)
   have q4:=bstep q b4
   have hz4:=Z4.lt
   clear HSZ HSZ2 HL2 HONE HRG gr4 sz4 q34
   cases r with
   | mark t f=>
    obtain rfl:row=markCells t f:=HREC.out
    replace Z4:Blk w4 wr.heap.size 45 #[.int .i64 1,.int .i64 t,.int .i64 f,.int .i64 0,.int .i64 0,.int .i64 0,.bool false,.int .i64 0,.int .i64 0,.int .i64 0,.string { data:=#[] },.string { data:=#[] },.string { data:=#[] },.int .i64 0,.int .i64 0,.int .i64 0,.int .i64 0,.slice none 0 0,.int .i64 0,.slice none 0 0]:=Z4
    have HF:=hide (show (tapeB (rs.take (k+1))).length=N+8 from HLE1.out)
    clear HREC HLE1 HR1 b4
    (try clear cZ4 fZ4);have cZ4:=Z4.cell;have fZ4:=Z4.frozen
    go_wp2_with fail
    go_roundw
    case rel=>exact ⟨k+1,by omega,by go_num,by rw [HF.out];first|go_num|(congr 1;push_cast;omega),q4⟩
    case measure=>simp [intOf];omega
   | line i x=>
    obtain rfl:row=lineCells i x:=HREC.out
    replace Z4:Blk w4 wr.heap.size 45 #[.int .i64 2,.int .i64 0,.int .i64 0,.int .i64 i,.int .i64 x.term,.int .i64 x.time,.bool x.nop,.int .i64 x.client,.int .i64 x.seq,.int .i64 x.cmd.kind,.string x.cmd.key,.string x.cmd.field,.string x.cmd.text,.int .i64 x.cmd.n,.int .i64 0,.int .i64 0,.int .i64 0,.slice none 0 0,.int .i64 0,.slice none 0 0]:=Z4
    have HEN:=hide (fun w'=>EncodeItem_ok x w' HR1.out.2)
    have HF:=hide (show (tapeB (rs.take (k+1))).length=N+(7+(itemBytes x).length) by rw [HLE1.out];simp only [RK.bytes,List.length_cons,List.length_append,three_len];omega)
    have hbl:(itemBytes x).length≤200:=itemBytes_in HR1.out.2
    clear HREC HLE1 HR1 b4
    generalize itemBytes x=bx at *
    (try clear cZ4 fZ4);have cZ4:=Z4.cell;have fZ4:=Z4.frozen
    go_wp2_with fail
    refine (HEN.out _).mono ?_
    rintro e_ w5 ⟨A5,n5,c5,rfl,O5,b5⟩
    obtain rfl:bx.length=n5:=by rw [←O5.sl'.len,byteRows_length]
    have q5:=bstep q4 b5
    clear O5 b5 HEN cZ4 fZ4
    go_wp2_with fail
    go_roundw
    case rel=>exact ⟨k+1,by omega,by go_num,by rw [HF.out];first|go_num|(congr 1;push_cast;omega),q5⟩
    case measure=>simp [intOf];omega
   | load i t m=>
    obtain ⟨A6,n6,c6,B6,k6,d6,rfl,hE6,hC6⟩:=HREC.out
    replace Z4:Blk w4 wr.heap.size 45 #[.int .i64 3,.int .i64 0,.int .i64 0,.int .i64 0,.int .i64 0,.int .i64 0,.bool false,.int .i64 0,.int .i64 0,.int .i64 0,.string { data:=#[] },.string { data:=#[] },.string { data:=#[] },.int .i64 0,.int .i64 i,.int .i64 t,.int .i64 m.now,.slice A6 n6 c6,.int .i64 m.next,.slice B6 k6 d6]:=Z4
    have HEN:=hide (Encode_own HR1.out.2.2 A6 B6 n6 c6 k6 d6 w4 (hE6.bl b4) (hC6.bl b4))
    have HF:=hide (show (tapeB (rs.take (k+1))).length=N+(10+(encB m).length) by rw [HLE1.out];simp only [RK.bytes,List.length_cons,List.length_append,three_len];omega)
    have hbl:(encB m).length≤12800:=encB_in HR1.out.2.2
    clear HREC HLE1 HR1 b4 hE6 hC6
    generalize encB m=bx at *
    (try clear cZ4 fZ4);have cZ4:=Z4.cell;have fZ4:=Z4.frozen
    go_wp2_with fail
    refine HEN.out.mono ?_
    rintro e_ w5 ⟨A5,n5,c5,rfl,O5,b5⟩
    obtain rfl:bx.length=n5:=by rw [←O5.sl'.len,byteRows_length]
    have q5:=bstep q4 b5
    clear O5 b5 HEN cZ4 fZ4
    go_wp2_with fail
    go_roundw
    case rel=>exact ⟨k+1,by omega,by go_num,by rw [HF.out];first|go_num|(congr 1;push_cast;omega),q5⟩
    case measure=>simp [intOf];omega
  ·obtain rfl:k=rs.length:=by omega
   rw [List.take_of_length_le (Nat.le_refl _)]
   have HSY:=hide (Sync_any (tapeB rs) Y2 (tapeB rs).length d2 0 wr (HU.out.bl q) (by omega) (by omega) (by omega))
   generalize (tapeB rs).length=N at *
   have V4:=V.below' q
   have q4:=bstep q2 q
   have hv4:=V4.lt
   clear HU HR HOK HLE V q2 q
   (try clear cV4 fV4);have cV4:=V4.cell;have fV4:=V4.frozen
   go_wp2_with fail
   refine HSY.out.mono ?_
   rintro e w5 ⟨Y5,d5,rfl,T5,b5⟩
   have U:=Blk.new w5 27 #[.slice Y5 N d5,.int .i64 (N:Int)]
   have bz:Below w5.heap.size w5 (w5.alloc (.cells #[.slice Y5 N d5,.int .i64 (N:Int)] 27)):=below_by
   have b56:=bstep b5 bz
   replace V4:=V4.below' b56
   have q6:=bstep q4 b56
   clear b5 bz b56 T5 cV4 fV4 q4 HSY
   go_wp2_with fail
   refine (Sync_odd _).mono ?_
   rintro e w7 ⟨rfl,b7⟩
   have bz:Below w7.heap.size w7 (w7.alloc (.cells #[.slice none 0 0,.int .i64 0] 27)):=below_by
   have b78:=bstep b7 bz
   replace V4:=V4.below' b78
   replace U:=U.below' b78
   have q8:=bstep q6 b78
   clear b7 bz b78 q6
   go_upto_region 23 with fail
   obtain ⟨w8,hw8⟩:∃ w8,w8=w7.alloc (.cells #[.slice none 0 0,.int .i64 0] 27):=⟨_,rfl⟩
   rw [←hw8] at V4 U q8 ⊢
   clear hw8
   have hv8:=V4.lt
   have hu8:=U.lt
   (try clear cV4 fV4);have cV4:=V4.cell;have fV4:=V4.frozen;(try clear cU fU);have cU:=U.cell;have fU:=U.frozen
   go_wp2_with fail
   go_ret
   exact ⟨rfl,q8⟩
set_option maxRecDepth 100000 in
theorem tapeLong_lifted (os:Os) (started:os.Started) (H:Type) (enc:TypeId×Value→H) :
 ReturnsInHanded {} Tryz.checked os 3 .any (fun w args=>(Rows.tapeLongSpec.pre enc Tryz.prog Tryz.f3 [] false w args∧laidMetH Tryz.prog laidN w)∧sizedMet enc Tryz.prog Tryz.f3 (OpenSpec.ofChange Rows.tapeLongSpec) false w args) (Rows.tapeLongSpec.post enc Tryz.prog Tryz.f3 false true false false):=by
 refine returnsInHanded_of_change_and (C:=Tryz.checked) (X:=fun w _=>laidMetH Tryz.prog laidN w) (fun _ _ _ hh h=>h.of_heap hh) Tryz.own started (by kernel_rfl) Tryz.func3 (ChangeSpec.witness_shaped (enc:=enc) (C:=Tryz.checked) (os:=os) (X:=fun w _=>laidMetH Tryz.prog laidN w) false (World.doorLaid Tryz.prog 14 os) #[.slice none 0 0] 8 rfl (World.shaped_of_RefB (by kernel_rfl) (by kernel_rfl)) (by kernel_rfl) (by kernel_rfl) (by kernel_rfl) (door_met os _)) ?_
 intro W base args ds gs before hval0 hW hcnd hsz0 hL _
 have hsz:(DataW.weightsEach Tryz.prog (Tryz.f3.params.toList ++ Rows.tapeLongSpec.plain.varTypes Tryz.prog) (ds ++ gs)).all (·≤reachBytes)=true:=hsz0
 clear hsz0
 have hval:∀ (j:Nat) t v,Tryz.f3.params[j]?=some t→args[j]?=some v→Value.okWide Tryz.prog W .any base t v:=hval0
 have hW':=hW
 obtain ⟨p,q,hA0,hV,rfl,hfz,hnd⟩:=hW
 have hA:DataW.TrodAll enc Tryz.prog W 0 (fun _=>true) true Tryz.f3.params.toList args.toList ds p:=hA0
 rw [Tryz.params3] at hA hval hsz
 obtain ⟨rfl,rfl⟩:=trodVars_none hV
 clear hA0 hval0 hcnd hV hfz hnd
 have hN:=noth_of_laid hL
 obtain ⟨v0,d0,rfl,rfl,h0⟩:=trodAll_one hA
 obtain ⟨A,n,c,ys,rfl,hy,hNt⟩:=open_notes (hval 0 22 v0 rfl rfl) h0
 refine (tapeLong_walk A n c ys W hNt hy hN).mono fun e W' ⟨he,hb⟩=>?_
 subst he
 exact ⟨_,rfl,post_law Tryz.laidOut hW' rfl (by kernel_rfl) rfl Tryz.underlying4 (fun _=>rfl) (fun _=>rfl) (fun _=>rfl) hb⟩
set_option maxRecDepth 100000 in
theorem tapeLong_f1:(Rows.tapeLongRow.inPlace == Tryz.pinned.checked.prog.inPlace 3)=true:=by kernel_rfl
set_option maxRecDepth 100000 in
theorem tapeLong_f2:(Rows.tapeLongRow.unfollowed == Tryz.pinned.checked.prog.unfollowed 3)=true:=by kernel_rfl
set_option maxRecDepth 100000 in
theorem tapeLong_f3:(Rows.tapeLongRow.recurses == Tryz.pinned.checked.prog.recurses 3)=true:=by kernel_rfl
set_option maxRecDepth 100000 in
theorem tapeLong_f4:(Rows.tapeLongRow.named == Tryz.pinned.checked.prog.varsNamed 3)=true:=by kernel_rfl
set_option maxRecDepth 100000 in
theorem tapeLong_facts:joinedFacts Tryz.pinned.checked.prog 3 Tryz.f3 Rows.tapeLongSpec Rows.tapeLongRow=true:=by
 unfold joinedFacts
 rw [enterN,show (Rows.tapeLongRow.lifted == Tryz.pinned.checked.prog.liftsFinal)=true from liftsN,laidN1,laidN2,heardN,show (Rows.tapeLongRow.plainKeys == Tryz.pinned.checked.prog.plainKeys)=true from keysN,tapeLong_f1,tapeLong_f2,tapeLong_f3,tapeLong_f4]
 kernel_rfl
theorem tapeLong_row:Rows.TapeLongSaid:=OpenClaim.holds_of_wide 3 Tryz.f3 rfl rfl rfl rfl rfl rfl rfl ⟨rfl,rfl,rfl,rfl,rfl⟩ rfl rfl rfl rfl rfl (by kernel_rfl) Tryz.func3 tapeLong_facts
 (of_decide_eq_true (by kernel_rfl)) (by unfold Func.isWrapper;first|(rw [if_pos (by decide +kernel)];kernel_rfl)|(rw [if_neg (by decide +kernel)];exact ⟨rfl,rfl⟩))
 (fun os started H enc _=>tapeLong_lifted os started H enc)
set_option maxRecDepth 100000 in
theorem tapeLong_goes:false=Rows.tapeLongRow.goesBy Tryz.pinned.checked.prog:=by kernel_rfl
set_option maxRecDepth 100000 in
theorem tapeLong_looks:false=Tryz.pinned.checked.prog.looks []:=by kernel_rfl
set_option maxRecDepth 100000 in
theorem tapeLong_holds:Rows.TapeLongCardSaid:=
 Claim7.holds_tied_plain_at .later [] [.data] true Rows.tapeLongCard.stood.harness false
  tapeLong_row (fun _ h=>by cases h) (by kernel_rfl) (fun _ h=>by cases h) tapeLong_row_tie rfl ⟨rfl,rfl⟩ mainN rfl
  (fun f fn hf hfn=>by
   obtain rfl:f=3:=Option.some.inj ((show Tryz.prog.funcNamed "rostrum/rostrumkeep.TapeLong" = some 3 by kernel_rfl).symm.trans hf) |>.symm
   obtain rfl:fn=Tryz.f3:=(Option.some.inj (Tryz.func3.symm.trans hfn)).symm
   exact ⟨tapeLong_looks,fun j t ht=>by
    rw [Tryz.params3] at ht
    have hm:=List.mem_of_getElem? (Array.getElem?_toList ▸ ht)
    simp only [List.mem_cons,List.not_mem_nil,or_false] at hm
    rcases hm with rfl <;> exact (show Tryz.prog.wantsStandIn _=false by kernel_rfl)⟩)
  tapeLong_goes
#print axioms tapeLong_holds
end Go.Proofs.YtgmojjclobkpjaaGreatDoor

