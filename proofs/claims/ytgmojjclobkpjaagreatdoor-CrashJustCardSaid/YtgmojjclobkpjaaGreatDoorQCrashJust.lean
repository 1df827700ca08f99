/- rostrumkeep.CrashJust returns true for every input; client.nothing holds what its initialiser lays. -/
import Derived.Test.YtgmojjclobkpjaaGreatDoorQTapM
namespace Go.Proofs.YtgmojjclobkpjaaGreatDoor
set_option linter.all false
set_option maxHeartbeats 32000000
open Go.ChangeShapes Go.WideShapes Go.ChangeAt Go.RowKit
set_option maxRecDepth 100000 in
theorem crashJust_walk (A:Option Addr) (n c:Nat) (ys:List NoteD) (ka kb:Int) (w:World) (hN:Notes w A n c ys) (hy:∀ y∈ys,y.ok) (hka:I64 ka) (hkb:I64 kb) (hNo:Noth w) :
  Calls Tryz.prog 4 #[.slice A n c,.int .i64 ka,.int .i64 kb] w fun e w'=>e = .returned (.bool true)∧Below w.heap.size w w':=by
 have HRC:=hide (records_any A n c ys w hN hy hNo)
 have hok:=recsOf_ok ys
 have hlen:=recsOf_tape ys
 have hl16:=recsOf_len ys
 rw [show (ys.take 16).map recOf=recsOf ys from rfl] at HRC
 generalize recsOf ys=rs at *
 clear hN hy hNo
 have HTP:=hide (fun A n c rows w h=>taped_any A n c rs rows w h hok (by omega))
 unfold RecsPost at HRC
 unfold TapedPost at HTP
 have r1:=picked_lo ka ((tapeB rs).length+1) (by omega)
 have r2:=picked_hi ka ((tapeB rs).length+1) (by omega)
 have HPK:=hide (fun w=>picked_any ka ((tapeB rs).length+1) w hka.1 hka.2 (by omega) (by omega))
 obtain ⟨p,hp⟩:=Int.eq_ofNat_of_zero_le r1
 rw [hp] at HPK r2
 have hpl:p≤(tapeB rs).length:=by omega
 have k1:=picked_lo kb 900 (by omega)
 have k2:=picked_hi kb 900 (by omega)
 have HPK2:=hide (fun w=>picked_any kb 900 w hkb.1 hkb.2 (by omega) (by omega))
 generalize picked kb 900=kp at *
 clear hp r1 hka hkb
 obtain ⟨mm,hmm⟩:=Int.eq_ofNat_of_zero_le (show 0≤min ((p:Int)+kp) ((tapeB rs).length:Int) by omega)
 have hm1:mm≤(tapeB rs).length:=by omega
 have HMM:=hide hmm
 have HCR:=hide (fun Y d w (h:TpSl w Y (tapeB rs).length d (tapeB rs))=>Crash_any (tapeB rs) Y (tapeB rs).length d (p:Int) kp w h (by omega) (by omega) (by omega) k1 (by omega))
 have HCN:=hide (fun Y d w (h:TpSl w Y (tapeB rs).length d (tapeB rs))=>Crash_neg (tapeB rs) Y (tapeB rs).length d (p:Int) (-1 - kp) w h (by omega) (by omega) (by omega) (by omega))
 generalize tapeB rs=bs at *
 clear hok hmm
 go_enter Tryz.func4,Tryz.ntmps4
 go_wp2_with fail
 refine HRC.out.mono ?_
 rintro e w1 ⟨A1,n1,c1,rows1,rfl,R1,b1⟩
 obtain rfl:=R1.n_
 go_wp2_with fail
 refine (HTP.out _ _ _ _ _ R1).mono ?_
 rintro e w2 ⟨Y2,m2,d2,rfl,T2,b2⟩
 obtain rfl:=T2.len
 have RO:=hide (And.intro R1 b2.size)
 replace R1:=R1.bl b2
 have q2:=bstep b1 b2
 have hw2:=hide q2.size
 clear b1 b2 HRC HTP
 have hd2:=T2.sl.nc
 have V:=Blk.new w2 27 #[.slice Y2 bs.length d2,.int .i64 0]
 have bz:Below w2.heap.size w2 (w2.alloc (.cells #[.slice Y2 bs.length d2,.int .i64 0] 27)):=below_by
 replace R1:=R1.bl bz
 replace T2:=T2.bl bz
 replace q2:=bstep q2 bz
 clear bz
 go_upto_region 2 with fail
 obtain ⟨w3,hw3⟩:∃ w3,w3=w2.alloc (.cells #[.slice Y2 bs.length d2,.int .i64 0] 27):=⟨_,rfl⟩
 rw [←hw3] at R1 T2 q2 V ⊢
 clear hw3
 have hv:=V.lt
 clear R1 RO
 go_wp2_with fail
 refine (HPK2.out _).mono ?_
 rintro e w' ⟨rfl,rfl⟩
 (try clear cV fV);have cV:=V.cell;have fV:=V.frozen
 have wb1:IntKind.i64.wrap ((bs.length:Int)+1)=(bs.length:Int)+1:=IntWalk.i64_in _ (by omega)
 go_wp2_with fail
 refine (HPK.out _).mono ?_
 rintro e w' ⟨rfl,rfl⟩
 have gr:=grown_setRow_cell w3 w2.heap.size 1 (.int .i64 (p:Int))
 have V4:=V.set' (i:=1) (u:=.int .i64 (p:Int)) (cs':=#[.slice Y2 bs.length d2,.int .i64 (p:Int)]) rfl
 have T4:=T2.grown V gr
 have q4:=below_grow q2 gr q2.size hw2.out
 go_upto_region 4 with fail
 obtain ⟨w4,hw4⟩:∃ w4,w4=w3.setCell ⟨w2.heap.size,1,none⟩ (.int .i64 (p:Int)):=⟨_,rfl⟩
 rw [←hw4] at V4 T4 q4 ⊢
 clear hw4 gr V T2 q2 cV fV HPK HPK2 wb1
 have hv4:=V4.lt
 (try clear cV4 fV4);have cV4:=V4.cell;have fV4:=V4.frozen
 go_wp2_with fail
 refine (HCR.out _ _ _ T4).mono ?_
 rintro e w5 ⟨m_,Z5,z5,hm_,rfl,T5,b5⟩
 obtain rfl:m_=mm:=by have:=HMM.out;omega
 clear hm_
 replace V4:=V4.below' b5;replace T4:=T4.bl b5
 have q5:=bstep q4 b5
 clear b5 cV4 fV4 q4 HCR
 have U:=Blk.new w5 27 #[.slice Z5 m_ z5,.int .i64 (m_:Int)]
 have bz:Below w5.heap.size w5 (w5.alloc (.cells #[.slice Z5 m_ z5,.int .i64 (m_:Int)] 27)):=below_by
 replace V4:=V4.below' bz;replace T4:=T4.bl bz;replace T5:=T5.bl bz;replace q5:=bstep q5 bz
 clear bz
 go_upto_region 5 with fail
 obtain ⟨w6,hw6⟩:∃ w6,w6=w5.alloc (.cells #[.slice Z5 m_ z5,.int .i64 (m_:Int)] 27):=⟨_,rfl⟩
 rw [←hw6] at V4 T4 T5 q5 U ⊢
 clear hw6
 have hu:=U.lt
 have hv6:=V4.lt
 have wpk:IntKind.i64.wrap ((p:Int)+kp)=(p:Int)+kp:=IntWalk.i64_in _ (by omega)
 have wng:IntKind.i64.wrap (-1 - kp) = -1 - kp:=IntWalk.i64_in _ (by omega)
 have hi1:(if (bs.length:Int)<(p:Int)+kp then (bs.length:Int) else (p:Int)+kp)=(m_:Int):=by have:=HMM.out;split <;> omega
 have hi2:min ((p:Int)+kp) (bs.length:Int)=(m_:Int):=by have:=HMM.out;omega
 (try clear cV4 fV4);have cV4:=V4.cell;have fV4:=V4.frozen
 go_wp2_with fail
 refine (HCN.out _ _ _ T4).mono ?_
 rintro e w7 ⟨rfl,b7⟩
 replace V4:=V4.below' b7;replace T4:=T4.bl b7;replace T5:=T5.bl b7;replace U:=U.below' b7
 have q7:=bstep q5 b7
 clear b7 q5 cV4 fV4 HCN
 have bz:Below w7.heap.size w7 (w7.alloc (.cells #[.slice none 0 0,.int .i64 0] 27)):=below_by
 replace V4:=V4.below' bz;replace T4:=T4.bl bz;replace T5:=T5.bl bz;replace U:=U.below' bz;replace q7:=bstep q7 bz
 clear bz
 go_upto_region 7 with fail
 obtain ⟨w8,hw8⟩:∃ w8,w8=w7.alloc (.cells #[.slice none 0 0,.int .i64 0] 27):=⟨_,rfl⟩
 rw [←hw8] at V4 T4 T5 U q7 ⊢
 clear hw8
 have hmb:m_≤bs.length:=hm1
 have Tm:=T4.take m_ d2 hmb (by omega) (Nat.le_refl _)
 have st:=fun w=>run_take Tryz.underlying25 u8_size Y2 bs.length d2 m_ (by omega) w
 have hmd:(m_:Int)≤(d2:Int):=by omega
 refine wp_region_x (l:=[]) (S:=fun w'=>w'.cell? ⟨w2.heap.size,0,none⟩=some (.slice Y2 bs.length d2)∧w'.cell? ⟨w5.heap.size,0,none⟩=some (.slice Z5 m_ z5)∧w'.cell? ⟨w5.heap.size,1,none⟩=some (.int .i64 (m_:Int))∧TpSl w' Z5 m_ z5 (bs.take m_)∧TpSl w' Y2 m_ d2 (bs.take m_)) (by kernel_rfl) ⟨V4.drew.cell 0,U.drew.cell 0,U.drew.cell 1,T5.bl (Below.refl _ w8).drew,Tm.bl (Below.refl _ w8).drew⟩ (fun hS=>?_)
 replace q7:=q7.drew
 obtain ⟨wd,hwd⟩:∃ wd,wd=w8.drew:=⟨_,rfl⟩
 rw [←hwd] at hS q7 ⊢
 clear hwd V4 T4 T5 U Tm
 refine wpAnyX_tq 0 ?_
 refine wpAnyX_tq 1 ?_
 refine wpAnyX_tq 2 ?_
 refine wpAnyX_tq 3 ?_
 refine wpAnyX_tq 4 ?_
 refine wpAnyX_tq 5 ?_
 refine wpAnyX_tq 6 ?_
 refine wpAnyX_tq 7 ?_
 refine wpAnyX_tq 8 ?_
 refine wpAnyX_tq 9 ?_
 refine wpAnyX_tq 10 ?_
 refine wpAnyX_tq 11 ?_
 refine wpAnyX_tq 12 ?_
 refine wpAnyX_tq 13 ?_
 refine wpAnyX_tq 14 ?_
 refine wpAnyX_tq 15 ?_
 refine wpAnyX_tq 16 ?_
 refine wpAnyX_tq 17 ?_
 refine wpAnyX_tq 18 ?_
 refine wpAnyX_tq 19 ?_
 refine wpAnyX_tq 20 ?_
 refine wpAnyX_tq 21 ?_
 refine wpAnyX_tq 22 ?_
 refine wpAnyX_tq 23 ?_
 refine wpAnyX_tq 24 ?_
 refine wpAnyX_tq 25 ?_ (hy:=Or.inl ⟨by rfl,fun w' h=>by have z:=run_str Tryz.underlying25 Tryz.underlying5 Tryz.underlying9 h.2.2.2.1.sl h.2.2.2.1.u8;go_simp;(try with_reducible rfl)⟩)
 refine wpAnyX_tq 26 ?_
 refine wpAnyX_tq 27 ?_
 refine wpAnyX_tq 28 ?_
 refine wpAnyX_tq 29 ?_
 refine wpAnyX_tq 30 ?_ (hy:=Or.inl ⟨by rfl,fun w' h=>by have z:=run_str Tryz.underlying25 Tryz.underlying5 Tryz.underlying9 h.2.2.2.2.sl h.2.2.2.2.u8;go_simp;(try with_reducible rfl)⟩)
 refine wpAnyX_tq 31 ?_
 refine wpAnyX_tq 32 ?_
 refine wpAnyX_ps 33 ?_
 clear hS
 refine wpAnyX_done (by kernel_rfl) ?_ _
 go_wp2_with fail
 go_ret
 exact ⟨rfl,q7⟩
set_option maxRecDepth 100000 in
theorem crashJust_lifted (os:Os) (started:os.Started) (H:Type) (enc:TypeId×Value→H) :
 ReturnsInHanded {} Tryz.checked os 4 .any (fun w args=>(Rows.crashJustSpec.pre enc Tryz.prog Tryz.f4 [] false w args∧laidMetH Tryz.prog laidN w)∧sizedMet enc Tryz.prog Tryz.f4 (OpenSpec.ofChange Rows.crashJustSpec) false w args) (Rows.crashJustSpec.post enc Tryz.prog Tryz.f4 false true false false):=by
 refine returnsInHanded_of_change_and (C:=Tryz.checked) (X:=fun w _=>laidMetH Tryz.prog laidN w) (fun _ _ _ hh h=>h.of_heap hh) Tryz.own started (by kernel_rfl) Tryz.func4 (ChangeSpec.witness_shaped (enc:=enc) (C:=Tryz.checked) (os:=os) (X:=fun w _=>laidMetH Tryz.prog laidN w) false (World.doorLaid Tryz.prog 14 os) #[.slice none 0 0,.int .i64 0,.int .i64 0] 8 rfl (World.shaped_of_RefB (by kernel_rfl) (by kernel_rfl)) (by kernel_rfl) (by kernel_rfl) (by kernel_rfl) (door_met os _)) ?_
 intro W base args ds gs before hval0 hW hcnd hsz0 hL _
 have hsz:(DataW.weightsEach Tryz.prog (Tryz.f4.params.toList ++ Rows.crashJustSpec.plain.varTypes Tryz.prog) (ds ++ gs)).all (·≤reachBytes)=true:=hsz0
 clear hsz0
 have hval:∀ (j:Nat) t v,Tryz.f4.params[j]?=some t→args[j]?=some v→Value.okWide Tryz.prog W .any base t v:=hval0
 have hW':=hW
 obtain ⟨p,q,hA0,hV,rfl,hfz,hnd⟩:=hW
 have hA:DataW.TrodAll enc Tryz.prog W 0 (fun _=>true) true Tryz.f4.params.toList args.toList ds p:=hA0
 rw [Tryz.params4] at hA hval hsz
 obtain ⟨rfl,rfl⟩:=trodVars_none hV
 clear hA0 hval0 hcnd hV hfz hnd
 have hN:=noth_of_laid hL
 obtain ⟨v0,v1,v2,d0,d1,d2,p0,p1,p2,rfl,rfl,rfl,h0,h1,h2⟩:=trodAll_three hA
 obtain ⟨A,n,c,ys,rfl,hy,hNt⟩:=open_notes (hval 0 22 v0 rfl rfl) h0
 obtain ⟨m1,rfl,rfl,rfl,w1⟩:=open_int Tryz.underlying3 (hval 1 3 v1 rfl rfl) h1
 obtain ⟨m2,rfl,rfl,rfl,w2⟩:=open_int Tryz.underlying3 (hval 2 3 v2 rfl rfl) h2
 refine (crashJust_walk A n c ys m1 m2 W hNt hy (i64_bounds w1) (i64_bounds w2) hN).mono fun e W' ⟨he,hb⟩=>?_
 subst he
 exact ⟨_,rfl,post_law Tryz.laidOut hW' rfl (by kernel_rfl) rfl Tryz.underlying4 (fun _=>rfl) (fun _=>rfl) (fun _=>rfl) hb⟩
set_option maxRecDepth 100000 in
theorem crashJust_f1:(Rows.crashJustRow.inPlace == Tryz.pinned.checked.prog.inPlace 4)=true:=by kernel_rfl
set_option maxRecDepth 100000 in
theorem crashJust_f2:(Rows.crashJustRow.unfollowed == Tryz.pinned.checked.prog.unfollowed 4)=true:=by kernel_rfl
set_option maxRecDepth 100000 in
theorem crashJust_f3:(Rows.crashJustRow.recurses == Tryz.pinned.checked.prog.recurses 4)=true:=by kernel_rfl
set_option maxRecDepth 100000 in
theorem crashJust_f4:(Rows.crashJustRow.named == Tryz.pinned.checked.prog.varsNamed 4)=true:=by kernel_rfl
set_option maxRecDepth 100000 in
theorem crashJust_facts:joinedFacts Tryz.pinned.checked.prog 4 Tryz.f4 Rows.crashJustSpec Rows.crashJustRow=true:=by
 unfold joinedFacts
 rw [enterN,show (Rows.crashJustRow.lifted == Tryz.pinned.checked.prog.liftsFinal)=true from liftsN,laidN1,laidN2,heardN,show (Rows.crashJustRow.plainKeys == Tryz.pinned.checked.prog.plainKeys)=true from keysN,crashJust_f1,crashJust_f2,crashJust_f3,crashJust_f4]
 kernel_rfl
theorem crashJust_row:Rows.CrashJustSaid:=OpenClaim.holds_of_wide 4 Tryz.f4 rfl rfl rfl rfl rfl rfl rfl ⟨rfl,rfl,rfl,rfl,rfl⟩ rfl rfl rfl rfl rfl (by kernel_rfl) Tryz.func4 crashJust_facts
 (of_decide_eq_true (by kernel_rfl)) (by unfold Func.isWrapper;first|(rw [if_pos (by decide +kernel)];kernel_rfl)|(rw [if_neg (by decide +kernel)];exact ⟨rfl,rfl⟩))
 (fun os started H enc _=>crashJust_lifted os started H enc)
set_option maxRecDepth 100000 in
theorem crashJust_goes:false=Rows.crashJustRow.goesBy Tryz.pinned.checked.prog:=by kernel_rfl
set_option maxRecDepth 100000 in
theorem crashJust_looks:false=Tryz.pinned.checked.prog.looks []:=by kernel_rfl
set_option maxRecDepth 100000 in
theorem crashJust_holds:Rows.CrashJustCardSaid:=
 Claim7.holds_tied_plain_at .later [] [.data] true Rows.tapeLongCard.stood.harness false
  crashJust_row (fun _ h=>by cases h) (by kernel_rfl) (fun _ h=>by cases h) crashJust_row_tie rfl ⟨rfl,rfl⟩ mainN rfl
  (fun f fn hf hfn=>by
   obtain rfl:f=4:=Option.some.inj ((show Tryz.prog.funcNamed "rostrum/rostrumkeep.CrashJust" = some 4 by kernel_rfl).symm.trans hf) |>.symm
   obtain rfl:fn=Tryz.f4:=(Option.some.inj (Tryz.func4.symm.trans hfn)).symm
   exact ⟨crashJust_looks,fun j t ht=>by
    rw [Tryz.params4] at ht
    have hm:=List.mem_of_getElem? (Array.getElem?_toList ▸ ht)
    simp only [List.mem_cons,List.not_mem_nil,or_false] at hm
    rcases hm with rfl|rfl|rfl <;> exact (show Tryz.prog.wantsStandIn _=false by kernel_rfl)⟩)
  crashJust_goes
#print axioms crashJust_holds
end Go.Proofs.YtgmojjclobkpjaaGreatDoor

