/- rostrumkeep.TapeTorn returns true for every input; client.nothing holds what its initialiser lays. -/
import Derived.Test.YtgmojjclobkpjaaGreatDoorQTapM
namespace Go.Proofs.YtgmojjclobkpjaaGreatDoor
set_option linter.all false
set_option maxHeartbeats 32000000
open Go.ChangeShapes Go.WideShapes Go.ChangeAt Go.RowKit
set_option maxRecDepth 100000 in
theorem tapeTorn_walk (A:Option Addr) (n c:Nat) (ys:List NoteD) (k:Int) (w:World) (hN:Notes w A n c ys) (hy:∀ y∈ys,y.ok) (hk:I64 k) (hNo:Noth w) :
  Calls Tryz.prog 6 #[.slice A n c,.int .i64 k] w fun e w'=>e = .returned (.bool true)∧Below w.heap.size w w':=by
 have HRC:=hide (records_any A n c ys w hN hy hNo)
 have hok:=recsOf_ok ys
 have hlen:=recsOf_tape ys
 have hl16:=recsOf_len ys
 rw [show (ys.take 16).map recOf=recsOf ys from rfl] at HRC
 generalize recsOf ys=rs at *
 clear hN hy hNo
 have HTP:=hide (fun A n c rows w h=>taped_any A n c rs rows w h hok (by omega))
 have r1:=picked_lo k ((tapeB rs).length+1) (by omega)
 have r2:=picked_hi k ((tapeB rs).length+1) (by omega)
 have HPK:=hide (fun w=>picked_any k ((tapeB rs).length+1) w hk.1 hk.2 (by omega) (by omega))
 obtain ⟨p,hp⟩:=Int.eq_ofNat_of_zero_le r1
 rw [hp] at HPK r2
 have hpl:p≤(tapeB rs).length:=by omega
 obtain ⟨D,e1,e2,e3,e4,e5,e6,e7,-⟩:=cut_read hok hpl
 have HR1:=hide (fun Y d w (h:TpSl w Y p d ((tapeB rs).take p))=>Recover_any ((tapeB rs).take p) Y p d 0 w h (by omega) (by omega) (by rw [List.length_take];omega))
 have HR2:=hide (fun Y m d w (h:TpSl w Y m d (tapeB D))=>Recover_any (tapeB D) Y m d 0 w h (by omega) (by omega) (by omega))
 unfold RecvPost at HR1 HR2
 rw [e1] at HR1
 rw [e3] at HR2
 simp only [show ∀ x:Nat,min (0:Int) (x:Int)=0 from fun x=>by omega] at HR1 HR2
 rw [e2] at HR1
 rw [List.take_of_length_le (Nat.le_refl _)] at HR2
 have HBG:=hide (fun A B n c m d rows1 rows2 w h1 h2=>begins_any A B n c m d D rs rows1 rows2 w h1 h2 e5 e7)
 obtain ⟨bx,hb1,hb2⟩:=beq_of_iff e6
 have HB:=hide (And.intro hb1 hb2)
 unfold RecsPost at HRC
 unfold TapedPost at HTP
 generalize tapeB rs=bs at *
 generalize tapeB D=bD at *
 clear e1 e2 e3 e5 e6 e7 hok hp r1 hb1 hb2 hk
 go_enter Tryz.func6,Tryz.ntmps6
 go_wp2_with fail
 refine HRC.out.mono ?_
 rintro e w1 ⟨A1,n1,c1,rows1,rfl,R1,b1⟩
 obtain rfl:=R1.n_
 go_wp2_with fail
 refine (HTP.out _ _ _ _ _ R1).mono ?_
 rintro e w2 ⟨Y2,m2,d2,rfl,T2,b2⟩
 obtain rfl:=T2.len
 replace R1:=R1.bl b2
 have q2:=bstep b1 b2
 clear b1 b2 HRC HTP
 have hd2:=T2.sl.nc
 have V:=Blk.new w2 27 #[.slice Y2 bs.length d2,.int .i64 0]
 have bz:Below w2.heap.size w2 (w2.alloc (.cells #[.slice Y2 bs.length d2,.int .i64 0] 27)):=below_by
 replace R1:=R1.bl bz
 replace T2:=T2.bl bz
 replace q2:=bstep q2 bz
 clear bz
 go_upto_region 3 with fail
 obtain ⟨w3,hw3⟩:∃ w3,w3=w2.alloc (.cells #[.slice Y2 bs.length d2,.int .i64 0] 27):=⟨_,rfl⟩
 rw [←hw3] at R1 T2 q2 V ⊢
 clear hw3
 have hv:=V.lt
 (try clear cV fV);have cV:=V.cell;have fV:=V.frozen
 go_wp2_with fail
 refine (HPK.out _).mono ?_
 rintro e w' ⟨rfl,rfl⟩
 have st:=fun w=>run_take3 Tryz.underlying25 u8_size Y2 bs.length d2 p p (Nat.le_refl _) (by omega) w
 have Tp:=T2.take p p hpl (Nat.le_refl _) (by omega)
 go_wp2_with fail
 refine (HR1.out _ _ _ Tp).mono ?_
 rintro e w4 ⟨A4,n4,c4,rows4,Y4,d4,rfl,R4,T4,b4⟩
 obtain rfl:=R4.n_
 have q4:=bstep q2 b4
 replace R1:=R1.bl b4
 replace V:=V.below' b4
 have hd4:=T4.sl.nc
 clear T2 Tp st b4 q2 HR1 HPK cV fV
 have U:=Blk.new w4 27 #[.slice Y4 bD.length d4,.int .i64 0]
 have bz:Below w4.heap.size w4 (w4.alloc (.cells #[.slice Y4 bD.length d4,.int .i64 0] 27)):=below_by
 replace R1:=R1.bl bz;replace V:=V.below' bz;replace R4:=R4.bl bz;replace T4:=T4.bl bz
 replace q4:=bstep q4 bz
 clear bz
 go_upto_region 5 with fail
 obtain ⟨w5,hw5⟩:∃ w5,w5=w4.alloc (.cells #[.slice Y4 bD.length d4,.int .i64 0] 27):=⟨_,rfl⟩
 rw [←hw5] at R1 V R4 T4 q4 U ⊢
 clear hw5
 have hu:=U.lt
 (try clear cU fU);have cU:=U.cell;have fU:=U.frozen
 go_wp2_with fail
 refine (HR2.out _ _ _ _ T4).mono ?_
 rintro e w6 ⟨A6,n6,c6,rows6,Y6,d6,rfl,R6,T6,b6⟩
 obtain rfl:=R6.n_
 have bz:Below w6.heap.size w6 (w6.alloc (.cells #[.slice Y6 bD.length d6,.int .i64 0] 27)):=below_by
 have X:=Blk.new w6 27 #[.slice Y6 bD.length d6,.int .i64 0]
 have b67:=bstep b6 bz
 replace R1:=R1.bl b67;replace V:=V.below' b67;replace R4:=R4.bl b67;replace T4:=T4.bl b67;replace U:=U.below' b67;replace T6:=T6.bl bz
 have q7:=bstep q4 b67
 clear b6 bz b67 q4 R6 HR2 cU fU
 go_upto_region 6 with fail
 obtain ⟨w7,hw7⟩:∃ w7,w7=w6.alloc (.cells #[.slice Y6 bD.length d6,.int .i64 0] 27):=⟨_,rfl⟩
 rw [←hw7] at R1 V R4 T4 U X T6 q7 ⊢
 clear hw7
 go_wp2_with fail
 refine (Recover_odd _).mono ?_
 rintro e w8 ⟨rfl,b8⟩
 have bz:Below w8.heap.size w8 (w8.alloc (.cells #[.slice none 0 0,.int .i64 0] 27)):=below_by
 have b89:=bstep b8 bz
 replace R1:=R1.bl b89;replace V:=V.below' b89;replace R4:=R4.bl b89;replace T4:=T4.bl b89;replace U:=U.below' b89;replace T6:=T6.bl b89;replace X:=X.below' b89
 have q9:=bstep q7 b89
 clear b8 bz b89 q7
 go_upto_region 7 with fail
 obtain ⟨w9,hw9⟩:∃ w9,w9=w8.alloc (.cells #[.slice none 0 0,.int .i64 0] 27):=⟨_,rfl⟩
 rw [←hw9] at R1 V R4 T4 U X T6 q9 ⊢
 clear hw9
 go_wp2_with fail
 refine (HBG.out _ _ _ _ _ _ _ _ _ R4 R1).mono ?_
 rintro e w10 ⟨rfl,b10⟩
 replace V:=V.below' b10;replace T4:=T4.bl b10;replace U:=U.below' b10;replace T6:=T6.bl b10;replace X:=X.below' b10
 have q10:=bstep q9 b10
 have z1:=run_str Tryz.underlying25 Tryz.underlying5 Tryz.underlying9 T4.sl T4.u8
 have z2:=run_str Tryz.underlying25 Tryz.underlying5 Tryz.underlying9 T6.sl T6.u8
 obtain ⟨hb1,hb2⟩:=HB.out
 have e4':(bD.length:Int)≤(p:Int):=by omega
 clear R1 R4 T4 T6 HBG b10 q9 HB
 (try clear cV fV);have cV:=V.cell;have fV:=V.frozen;(try clear cU fU);have cU:=U.cell;have fU:=U.frozen;(try clear cX fX);have cX:=X.cell;have fX:=X.frozen
 go_wp2_with fail
 go_ret
 exact ⟨rfl,q10⟩
set_option maxRecDepth 100000 in
theorem tapeTorn_lifted (os:Os) (started:os.Started) (H:Type) (enc:TypeId×Value→H) :
 ReturnsInHanded {} Tryz.checked os 6 .any (fun w args=>(Rows.tapeTornSpec.pre enc Tryz.prog Tryz.f6 [] false w args∧laidMetH Tryz.prog laidN w)∧sizedMet enc Tryz.prog Tryz.f6 (OpenSpec.ofChange Rows.tapeTornSpec) false w args) (Rows.tapeTornSpec.post enc Tryz.prog Tryz.f6 false true false false):=by
 refine returnsInHanded_of_change_and (C:=Tryz.checked) (X:=fun w _=>laidMetH Tryz.prog laidN w) (fun _ _ _ hh h=>h.of_heap hh) Tryz.own started (by kernel_rfl) Tryz.func6 (ChangeSpec.witness_shaped (enc:=enc) (C:=Tryz.checked) (os:=os) (X:=fun w _=>laidMetH Tryz.prog laidN w) false (World.doorLaid Tryz.prog 14 os) #[.slice none 0 0,.int .i64 0] 8 rfl (World.shaped_of_RefB (by kernel_rfl) (by kernel_rfl)) (by kernel_rfl) (by kernel_rfl) (by kernel_rfl) (door_met os _)) ?_
 intro W base args ds gs before hval0 hW hcnd hsz0 hL _
 have hsz:(DataW.weightsEach Tryz.prog (Tryz.f6.params.toList ++ Rows.tapeTornSpec.plain.varTypes Tryz.prog) (ds ++ gs)).all (·≤reachBytes)=true:=hsz0
 clear hsz0
 have hval:∀ (j:Nat) t v,Tryz.f6.params[j]?=some t→args[j]?=some v→Value.okWide Tryz.prog W .any base t v:=hval0
 have hW':=hW
 obtain ⟨p,q,hA0,hV,rfl,hfz,hnd⟩:=hW
 have hA:DataW.TrodAll enc Tryz.prog W 0 (fun _=>true) true Tryz.f6.params.toList args.toList ds p:=hA0
 rw [Tryz.params6] at hA hval hsz
 obtain ⟨rfl,rfl⟩:=trodVars_none hV
 clear hA0 hval0 hcnd hV hfz hnd
 have hN:=noth_of_laid hL
 obtain ⟨v0,v1,d0,d1,p0,p1,rfl,rfl,rfl,h0,h1⟩:=trodAll_two hA
 obtain ⟨A,n,c,ys,rfl,hy,hNt⟩:=open_notes (hval 0 22 v0 rfl rfl) h0
 obtain ⟨m1,rfl,rfl,rfl,w1⟩:=open_int Tryz.underlying3 (hval 1 3 v1 rfl rfl) h1
 refine (tapeTorn_walk A n c ys m1 W hNt hy (i64_bounds w1) hN).mono fun e W' ⟨he,hb⟩=>?_
 subst he
 exact ⟨_,rfl,post_law Tryz.laidOut hW' rfl (by kernel_rfl) rfl Tryz.underlying4 (fun _=>rfl) (fun _=>rfl) (fun _=>rfl) hb⟩
set_option maxRecDepth 100000 in
theorem tapeTorn_f1:(Rows.tapeTornRow.inPlace == Tryz.pinned.checked.prog.inPlace 6)=true:=by kernel_rfl
set_option maxRecDepth 100000 in
theorem tapeTorn_f2:(Rows.tapeTornRow.unfollowed == Tryz.pinned.checked.prog.unfollowed 6)=true:=by kernel_rfl
set_option maxRecDepth 100000 in
theorem tapeTorn_f3:(Rows.tapeTornRow.recurses == Tryz.pinned.checked.prog.recurses 6)=true:=by kernel_rfl
set_option maxRecDepth 100000 in
theorem tapeTorn_f4:(Rows.tapeTornRow.named == Tryz.pinned.checked.prog.varsNamed 6)=true:=by kernel_rfl
set_option maxRecDepth 100000 in
theorem tapeTorn_facts:joinedFacts Tryz.pinned.checked.prog 6 Tryz.f6 Rows.tapeTornSpec Rows.tapeTornRow=true:=by
 unfold joinedFacts
 rw [enterN,show (Rows.tapeTornRow.lifted == Tryz.pinned.checked.prog.liftsFinal)=true from liftsN,laidN1,laidN2,heardN,show (Rows.tapeTornRow.plainKeys == Tryz.pinned.checked.prog.plainKeys)=true from keysN,tapeTorn_f1,tapeTorn_f2,tapeTorn_f3,tapeTorn_f4]
 kernel_rfl
theorem tapeTorn_row:Rows.TapeTornSaid:=OpenClaim.holds_of_wide 6 Tryz.f6 rfl rfl rfl rfl rfl rfl rfl ⟨rfl,rfl,rfl,rfl,rfl⟩ rfl rfl rfl rfl rfl (by kernel_rfl) Tryz.func6 tapeTorn_facts
 (of_decide_eq_true (by kernel_rfl)) (by unfold Func.isWrapper;first|(rw [if_pos (by decide +kernel)];kernel_rfl)|(rw [if_neg (by decide +kernel)];exact ⟨rfl,rfl⟩))
 (fun os started H enc _=>tapeTorn_lifted os started H enc)
set_option maxRecDepth 100000 in
theorem tapeTorn_goes:false=Rows.tapeTornRow.goesBy Tryz.pinned.checked.prog:=by kernel_rfl
set_option maxRecDepth 100000 in
theorem tapeTorn_looks:false=Tryz.pinned.checked.prog.looks []:=by kernel_rfl
set_option maxRecDepth 100000 in
theorem tapeTorn_holds:Rows.TapeTornCardSaid:=
 Claim7.holds_tied_plain_at .later [] [.data] true Rows.tapeLongCard.stood.harness false
  tapeTorn_row (fun _ h=>by cases h) (by kernel_rfl) (fun _ h=>by cases h) tapeTorn_row_tie rfl ⟨rfl,rfl⟩ mainN rfl
  (fun f fn hf hfn=>by
   obtain rfl:f=6:=Option.some.inj ((show Tryz.prog.funcNamed "rostrum/rostrumkeep.TapeTorn" = some 6 by kernel_rfl).symm.trans hf) |>.symm
   obtain rfl:fn=Tryz.f6:=(Option.some.inj (Tryz.func6.symm.trans hfn)).symm
   exact ⟨tapeTorn_looks,fun j t ht=>by
    rw [Tryz.params6] at ht
    have hm:=List.mem_of_getElem? (Array.getElem?_toList ▸ ht)
    simp only [List.mem_cons,List.not_mem_nil,or_false] at hm
    rcases hm with rfl|rfl <;> exact (show Tryz.prog.wantsStandIn _=false by kernel_rfl)⟩)
  tapeTorn_goes
#print axioms tapeTorn_holds
end Go.Proofs.YtgmojjclobkpjaaGreatDoor

