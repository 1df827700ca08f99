/- rostrumtop.TopAlone returns true for every input; client.nothing holds what its initialiser lays. -/
import Derived.Test.YtgdcofbnbiclmaaGreatDoorQRunW
import Derived.Test.YtgdcofbnbiclmaaGreatDoorQLaidT
namespace Go.Proofs.YtgdcofbnbiclmaaGreatDoor
set_option linter.all false
set_option maxHeartbeats 32000000
open Go.ChangeShapes Go.WideShapes Go.ChangeAt Go.RowKit
theorem bare_view {w:World} {s:Cw} {A B D:Option Addr} {c k d m e:Nat} (h:OutAt w s A B D 3 c k d m e) (hI:Idle s) {i:Nat} (hi:i<3) :
  ∃ b off I i2 E e1 e2 C c1 c2 ld,A=some ⟨b,off,none⟩∧b<w.heap.size∧w.rangeAt b (off+i*11) [.bool (s.nd.get i).up,.int .i64 0,.bool false,.int .i64 0,.int .i64 0,.int .i64 0,.slice I 0 i2,.int .i64 0,.slice E e1 e2,.int .i64 1,.slice C c1 c2]∧ld=0:=by
 obtain ⟨rows,h1,h2⟩:=h.nodes
 have hl:=h2.len
 obtain ⟨r,hr,hv⟩:=h2.at_ (k:=i) (by simp;omega)
 have e0:([s.nd.x,s.nd.y,s.nd.z]:List Nd)[i]'(by simp;omega)=s.nd.get i:=by match i,hi with|0,_|1,_|2,_=>rfl
 rw [e0] at hv
 have B:=hI.nd i hi
 obtain ⟨I,i1,i2,E,e1,e2,C,c1,c2,rfl,hO,-,-⟩:=hv
 have hi1:i1=0:=by have:=hO.sl.len;rw [B.L] at this;simpa [itemRows] using this.symm
 subst hi1
 have hk':i<rows.length:=by rw [←hl];simp;omega
 obtain ⟨b,off,rfl,hb,hc⟩:=h1.seg.at_ (i:=i) hk'
 rw [List.getElem?_eq_getElem hk'] at hr
 injection hr with hr
 refine ⟨b,off,I,i2,E,e1,e2,C,c1,c2,0,rfl,hb,fun j v hv=>?_,rfl⟩
 rw [Nat.add_assoc]
 refine hc j v ?_
 rw [hr]
 have e:vwC (s.nd.get i) (.slice I 0 i2) (.slice E e1 e2) (.slice C c1 c2)=[.bool (s.nd.get i).up,.int .i64 0,.bool false,.int .i64 0,.int .i64 0,.int .i64 0,.slice I 0 i2,.int .i64 0,.slice E e1 e2,.int .i64 1,.slice C c1 c2]:=by
  unfold vwC
  rw [B.term,B.commit,B.b,B.bt,B.m,show ((s.nd.get i).role == 3)=false by rcases B.ro with h|h <;> rw [h] <;> rfl]
  rfl
 rw [e];exact hv
theorem view_size:(Tryz.prog.info? 51).map (·.size)=some 11:=by kernel_rfl
theorem OI.len0 {w:World} {I:Option Addr} {i1 i2:Nat} (h:OI w I i1 i2 []):i1=0:=by simpa [itemRows] using h.sl.len.symm
def notTen (a:ActD):Bool:=a.kind != 10
theorem filt_step {l:List ActD} {k:Nat} (h:k<l.length):(l.take (k+1)).filter notTen=(l.take k).filter notTen ++ if notTen l[k]=true then [l[k]] else []:=by
 rw [List.take_succ_eq_append_getElem h,List.filter_append]
 by_cases hb:notTen l[k]=true
 ·rw [if_pos hb];simp [hb]
 ·rw [if_neg hb];simp [hb]
theorem filt_len (l:List ActD) (k:Nat):((l.take k).filter notTen).length≤l.length:=Nat.le_trans (List.length_filter_le _ _) (List.length_take_le' _ _)
set_option maxRecDepth 100000 in
theorem topAlone_walk (A:Option Addr) (n c:Nat) (l:List GearD) (who:Int) (w:World) (hS:Sl w 8 A n c (gearRows l)) (hd:∀ d∈l,d.ok) (hwho:I64 who) :
  Calls Tryz.prog 7 #[.slice A n c,.int .i64 who] w fun e w'=>e = .returned (.bool true)∧Below w.heap.size w w':=by
 have HA:=hide (fun w' (q:Below w.heap.size w w')=>acts_any A n c l 80 (by omega) w' (hS.below q) hd)
 have hok:=acts_ok l 80
 have hlen:(actsOf l 80).length≤80:=by simp [actsOf];omega
 generalize actsOf l 80=L at *
 obtain ⟨p,hp⟩:=Int.eq_ofNat_of_zero_le (picked_lo who 3 (by omega))
 have hp3:=picked_hi who 3 (by omega)
 have HP:=hide (fun w=>Picked_any who 3 w hwho.1 hwho.2 (by omega) (by omega))
 rw [hp] at HP hp3
 have hp3':p<3:=by omega
 have HOK:=hide hok
 have HF:=hide (fun k=>(alone_at hok (by omega) hp3' k).1)
 have HFA:=hide (alone_all hok (by omega) hp3')
 have HAO:=hide (fun a ha=>(alone_ok hok p a ha).1)
 have HAD:=hide (show aloneActs L p=[bareAct 9 (((p+1) % 3:Nat):Int) 0,bareAct 9 (((p+2) % 3:Nat):Int) 0] ++ L.filter notTen from rfl)
 clear hS hd hok hp hwho
 have hw1:IntKind.i64.wrap ((p:Int)+1)=(p:Int)+1:=IntWalk.i64_in _ (by omega)
 have hw2:IntKind.i64.wrap ((p:Int)+2)=(p:Int)+2:=IntWalk.i64_in _ (by omega)
 have hr1:((p:Int)+1) % 3=(((p+1) % 3:Nat):Int):=by omega
 have hr2:((p:Int)+2) % 3=(((p+2) % 3:Nat):Int):=by omega
 obtain ⟨r1,hR1⟩:∃ r1:Int,r1=(((p+1) % 3:Nat):Int):=⟨_,rfl⟩
 obtain ⟨r2,hR2⟩:∃ r2:Int,r2=(((p+2) % 3:Nat):Int):=⟨_,rfl⟩
 rw [←hR1] at hr1 HAD
 rw [←hR2] at hr2 HAD
 clear hR1 hR2
 have B0:=Blk.new w 40 #[.int .i64 9,.int .i64 r1,.int .i64 0,.int .i64 0,.int .i64 0,.int .i64 0,.string { data:=#[] },.string { data:=#[] },.string { data:=#[] },.int .i64 0,.int .i64 9,.int .i64 r2,.int .i64 0,.int .i64 0,.int .i64 0,.int .i64 0,.string { data:=#[] },.string { data:=#[] },.string { data:=#[] },.int .i64 0]
 have q0:Below w.heap.size w (w.alloc (.cells #[.int .i64 9,.int .i64 r1,.int .i64 0,.int .i64 0,.int .i64 0,.int .i64 0,.string { data:=#[] },.string { data:=#[] },.string { data:=#[] },.int .i64 0,.int .i64 9,.int .i64 r2,.int .i64 0,.int .i64 0,.int .i64 0,.int .i64 0,.string { data:=#[] },.string { data:=#[] },.string { data:=#[] },.int .i64 0] 40)):=below_by
 have O0:Own (w.alloc (.cells #[.int .i64 9,.int .i64 r1,.int .i64 0,.int .i64 0,.int .i64 0,.int .i64 0,.string { data:=#[] },.string { data:=#[] },.string { data:=#[] },.int .i64 0,.int .i64 9,.int .i64 r2,.int .i64 0,.int .i64 0,.int .i64 0,.int .i64 0,.string { data:=#[] },.string { data:=#[] },.string { data:=#[] },.int .i64 0] 40)) w.heap.size 40 10 (.slice (some ⟨w.heap.size,0,none⟩) 2 2) (actRows [bareAct 9 r1 0,bareAct 9 r2 0]):=Own.of_blk B0 (Nat.le_refl _) rfl (by intro r hr;simp [actRows] at hr;rcases hr with rfl|rfl <;> rfl) (by simp [actRows,maxLen])
 go_enter Tryz.func7,Tryz.ntmps7
 go_wp2_with fail
 refine (HP.out _).mono ?_
 rintro e w' ⟨rfl,rfl⟩
 go_upto_region 3 with fail
 obtain ⟨w1,hw1⟩:∃ w1,w1=w.alloc (.cells #[.int .i64 9,.int .i64 r1,.int .i64 0,.int .i64 0,.int .i64 0,.int .i64 0,.string { data:=#[] },.string { data:=#[] },.string { data:=#[] },.int .i64 0,.int .i64 9,.int .i64 r2,.int .i64 0,.int .i64 0,.int .i64 0,.int .i64 0,.string { data:=#[] },.string { data:=#[] },.string { data:=#[] },.int .i64 0] 40):=⟨_,rfl⟩
 have hs1:w1.heap.size=w.heap.size+1:=by rw [hw1];simp
 rw [←hw1] at q0 O0 B0 ⊢
 clear hw1
 have HS1:=hide hs1
 have HO1:=hide O0
 have HQ1:=hide q0
 have HAA:=hide (HA.out w1 q0)
 clear hs1 O0 q0 B0 HA HP hw1 hw2 hr1 hr2
 go_wp2_with fail
 refine HAA.out.mono ?_
 rintro e w2 ⟨v,rfl,OL,b2⟩
 obtain ⟨AL,cL,rfl,SL⟩:=OL.sl
 rw [actRows_length] at SL OL ⊢
 have hlm:=SL.nc
 have hlm':=SL.cm
 unfold maxLen at hlm'
 have HOL:=hide OL
 have HQ2:=hide (bstep HQ1.out b2)
 have HO2:=hide (HO1.out.below b2)
 clear HAA OL SL b2
 go_wp2_with fail
 go_loopw [6,26] (fun s6 s26 wr=>∃ k:Nat,k≤L.length∧s26 = .int .i64 (k:Int)∧Own wr w.heap.size 40 10 s6 (actRows ([bareAct 9 r1 0,bareAct 9 r2 0] ++ (L.take k).filter notTen))∧Own wr w1.heap.size 40 10 (.slice AL L.length cL) (actRows L)∧(∀ b,s6.ownBlock=some b→(Value.slice AL L.length cL).ownBlock≠some b)∧Below w.heap.size w wr) (fun _ s26 _=>L.length - (intOf s26).toNat)
 case atStart=>exact ⟨0,by omega,rfl,HO2.out,HOL.out,fun b hb e=>by
  simp [Value.ownBlock] at hb
  rcases HOL.out.form with ⟨hv,_⟩|⟨g',cap,hv,hg',_⟩
  ·rw [hv] at e;simp [Value.ownBlock] at e
  ·rw [hv] at e;simp [Value.ownBlock] at e;have:=HS1.out;omega,HQ2.out⟩
 case round=>
  obtain ⟨k,hk,rfl,O,OL,hdj,hbr⟩:=hrel
  have HBR:=hide hbr
  have hbs:=hbr.size
  clear hbr
  by_cases hlt:k<L.length
  ·have ik:(k:Int)<(L.length:Int):=by omega
   obtain ⟨bb,off,hAL,hbb,⟨i0,i1,i2,i3,i4,i5,i6,i7,i8,i9⟩⟩:=OL.sl'.act hlt
   subst hAL
   have HST:=hide (filt_step hlt)
   have HFL:=hide (filt_len L k)
   generalize L[k]=x at i0 i1 i2 i3 i4 i5 i6 i7 i8 i9 HST
   obtain ⟨xk,xn,xp,xc,xs,⟨ck,cy,cf,ct,cn⟩⟩:=x
   have HOL:=hide OL
   have HO:=hide O
   have HDJ:=hide hdj
   clear OL O hdj
   by_cases hx:xk=10
   ·have hx':(xk != 10)=false:=by simp [hx]
    have hxn:notTen ⟨xk,xn,xp,xc,xs,⟨ck,cy,cf,ct,cn⟩⟩=false:=hx'
    have HE:=hide (show (L.take (k+1)).filter notTen=(L.take k).filter notTen by rw [HST.out,if_neg (by rw [hxn];decide),List.append_nil])
    have HBA:=hide (show Below wr.heap.size wr (wr.alloc (.cells #[.int .i64 xk,.int .i64 xn,.int .i64 xp,.int .i64 xc,.int .i64 xs,.int .i64 ck,.string cy,.string cf,.string ct,.int .i64 cn] 40)) from below_by)
    clear HST hx hxn
    go_wp2_with fail
    go_roundw
    case rel=>exact ⟨k+1,by omega,by go_num,by rw [HE.out];exact HO.out.below HBA.out,HOL.out.below HBA.out,HDJ.out,bstep HBR.out HBA.out⟩
    case measure=>simp [intOf];omega
   ·have hx':(xk != 10)=true:=by simpa using hx
    have hxn:notTen ⟨xk,xn,xp,xc,xs,⟨ck,cy,cf,ct,cn⟩⟩=true:=hx'
    have HE:=hide (show (L.take (k+1)).filter notTen=(L.take k).filter notTen ++ [⟨xk,xn,xp,xc,xs,⟨ck,cy,cf,ct,cn⟩⟩] by rw [HST.out,if_pos hxn])
    clear HST hx hxn
    go_upto_region 7 with fail
    obtain ⟨w5,hw5⟩:∃ w5,w5=wr.alloc (.cells #[.int .i64 xk,.int .i64 xn,.int .i64 xp,.int .i64 xc,.int .i64 xs,.int .i64 ck,.string cy,.string cf,.string ct,.int .i64 cn] 40):=⟨_,rfl⟩
    have b5:Below wr.heap.size wr w5:=by rw [hw5];exact below_by
    have Z5:Blk w5 wr.heap.size 40 #[.int .i64 xk,.int .i64 xn,.int .i64 xp,.int .i64 xc,.int .i64 xs,.int .i64 ck,.string cy,.string cf,.string ct,.int .i64 cn]:=by rw [hw5];exact Blk.new _ _ _
    rw [←hw5] at ⊢
    clear hw5 i0 i1 i2 i3 i4 i5 i6 i7 i8 i9
    have O5:=HO.out.below b5
    have HOL5:=hide (HOL.out.below b5)
    have q5:=bstep HBR.out b5
    have hq5:=q5.size
    obtain ⟨A6,c6,rfl,S6⟩:=O5.sl
    rw [actRows_length] at O5 ⊢
    have hml:([bareAct 9 r1 0,bareAct 9 r2 0] ++ (L.take k).filter notTen).length≤82:=by rw [List.length_append];have:=HFL.out;simp;omega
    generalize hM:[bareAct 9 r1 0,bareAct 9 r2 0] ++ (L.take k).filter notTen=M0 at *
    have HMM:=hide hM
    clear S6 hM
    (try clear cZ5 fZ5);have cZ5:=Z5.cell;have fZ5:=Z5.frozen
    go_wp2_with (at_builtin;refine wpList_push_k rfl _ _ _ rfl Tryz.underlying24 act_info rfl (by decide) (by rfl) O5 rfl (by rfl) (row:=#[.int .i64 xk,.int .i64 xn,.int .i64 xp,.int .i64 xc,.int .i64 xs,.int .i64 ck,.string cy,.string cf,.string ct,.int .i64 cn]) rfl (all_one rfl) ?p1 ?p2 ?p3 ?p4)
    case p1=>unfold maxLen;omega
    case p2=>omega
    case p3=>exact hq5
    case p4=>
     intro A7 c7 w7 O7 g7 hn7
     have hown7:Own w7 w1.heap.size 40 10 (.slice (some ⟨bb,off,none⟩) L.length cL) (actRows L):=own_same HOL5.out fun b hb=>by
      obtain ⟨cur,hcc⟩:=own_typed HOL5.out hb
      have hlt5:=Blk.lt hcc
      refine (g7.block b (by simp;omega) (fun e=>?_)).trans (Below.heap_alloc w5 _ b hlt5)
      exact HDJ.out b (by rw [actRows_length];exact e.symm) hb
     have HO7:=hide (show Own w7 w.heap.size 40 10 (.slice A7 (M0.length+1) c7) (actRows ([bareAct 9 r1 0,bareAct 9 r2 0] ++ (L.take (k+1)).filter notTen)) from by
      rw [HE.out,←List.append_assoc,HMM.out,actRows_snoc];exact O7)
     have HDJ7:=hide (show ∀ b,(Value.slice A7 (M0.length+1) c7).ownBlock=some b→(Value.slice (some ⟨bb,off,none⟩) L.length cL).ownBlock≠some b from fun b hb e=>by
      rcases hn7 with h|h
      ·exact HDJ.out b (by rw [actRows_length,←h];exact hb) e
      ·have h1:=h b hb
       obtain ⟨cur,hcc⟩:=own_typed HOL5.out e
       have:=Blk.lt hcc
       omega)
     have HB7:=hide (show Below w.heap.size w w7 from (bstep q5 ((Below.refl _ w5).alloc (Nat.le_refl _) _)).trans (below_grown (O5.below ((Below.refl _ w5).alloc (Nat.le_refl _) _)) g7 (by simp;omega)))
     have HOW7:=hide hown7
     clear O5 O7 g7 hn7 hown7 cZ5 fZ5 Z5 b5 q5
     go_wp2_with fail
     go_roundw
     case rel=>exact ⟨k+1,by omega,by go_num,HO7.out,HOW7.out,HDJ7.out,HB7.out⟩
     case measure=>simp [intOf];omega
  ·obtain rfl:k=L.length:=by omega
   have hlt':¬ ((L.length:Nat):Int)<(L.length:Int):=by omega
   rw [List.take_length,←HAD.out] at O
   obtain ⟨A2,c2,rfl,S2⟩:=O.sl
   rw [actRows_length] at S2 ⊢
   have hL:(aloneActs L p).length≤3000:=by rw [HAD.out,List.length_append];have:=List.length_filter_le notTen L;simp;omega
   have HR:=hide (ran_of (runC (aloneActs L p)) A2 (aloneActs L p).length c2 wr (fun w' q=>run_fine (aloneActs L p) A2 (aloneActs L p).length c2 w' (S2.below q) hL HAO.out HF.out))
   clear O OL hdj S2
   go_wp2_with fail
   refine HR.out.mono ?_
   rintro e w3 ⟨A3,B3,D3,c3,k3,d3,m3,e3,rfl,O3,b3⟩
   obtain ⟨-,-,hm3⟩:=O3.three
   rw [HFA.out.idle.led] at hm3
   simp only [List.length_nil] at hm3
   subst hm3
   have HQ3:=hide (bstep HBR.out b3)
   have HID:=hide HFA.out.idle
   generalize runC (aloneActs L p)=s at *
   generalize ((s.away.length:Nat):Int)=aw at *
   have ba:Below w3.heap.size w3 (w3.alloc (.cells #[.slice A3 3 c3,.slice B3 k3 d3,.slice D3 0 e3,.int .i64 aw] 32)):=below_by
   have Z4:=Blk.new w3 32 #[.slice A3 3 c3,.slice B3 k3 d3,.slice D3 0 e3,.int .i64 aw]
   clear HR b3 HF HFA HAO HAD
   go_upto_region 10 with fail
   obtain ⟨w4,hw4⟩:∃ w4,w4=w3.alloc (.cells #[.slice A3 3 c3,.slice B3 k3 d3,.slice D3 0 e3,.int .i64 aw] 32):=⟨_,rfl⟩
   rw [←hw4] at Z4 ba ⊢
   have HO4:=hide (O3.below ba)
   have HQ4:=hide (bstep HQ3.out ba)
   obtain ⟨g,hg⟩:∃ g,g=w3.heap.size:=⟨_,rfl⟩
   rw [←hg] at Z4 ⊢
   clear hg hw4 ba O3 HQ3
   have hgl:=Z4.lt
   (try clear cZ4 fZ4);have cZ4:=Z4.cell;have fZ4:=Z4.frozen
   go_wp2_with fail
   go_loopw [11] (fun s11 wr=>∃ q:Nat,q≤3∧s11 = .int .i64 (q:Int)∧Below w4.heap.size w4 wr) (fun s11 _=>3 - (intOf s11).toNat)
   case atStart=>exact ⟨0,by omega,rfl,Below.refl _ _⟩
   case round=>
    obtain ⟨q,hq,rfl,hbr⟩:=hrel
    by_cases hlt:q<3
    ·have iq:(q:Int)<3:=by omega
     have iq0:(0:Int)≤(q:Int):=by omega
     obtain ⟨bb',off',I',j2',E',e1',e2',C',x1',x2',ld',rfl,hbb',hrg',-⟩:=bare_view (HO4.out.below hbr) HID.out hlt
     have v1:=hrg' 1 _ rfl
     have v3:=hrg' 3 _ rfl
     have v6:=hrg' 6 _ rfl
     have v9:=hrg' 9 _ rfl
     have Z5:=Z4.below' hbr
     have HBR5:=hide hbr
     clear hrg' cZ4 fZ4
     (try clear cZ5 fZ5);have cZ5:=Z5.cell;have fZ5:=Z5.frozen
     go_wp2_with fail
     go_roundw
     case rel=>exact ⟨q+1,by omega,by go_num,HBR5.out⟩
     case measure=>simp [intOf];omega
    ·obtain rfl:q=3:=by omega
     have iq:¬ ((3:Int)<3):=by omega
     go_wp2_with fail
     go_ret
     exact ⟨rfl,bstep HQ4.out hbr⟩
set_option maxRecDepth 100000 in
theorem topAlone_lifted (os:Os) (started:os.Started) (H:Type) (enc:TypeId×Value→H) :
 ReturnsInHanded {} Tryz.checked os 7 .any (fun w args=>(Rows.topAloneSpec.pre enc Tryz.prog Tryz.f7 [] false w args∧laidMetH Tryz.prog laidN w)∧sizedMet enc Tryz.prog Tryz.f7 (OpenSpec.ofChange Rows.topAloneSpec) false w args) (Rows.topAloneSpec.post enc Tryz.prog Tryz.f7 false true false false):=by
 refine returnsInHanded_of_change_and (C:=Tryz.checked) (X:=fun w _=>laidMetH Tryz.prog laidN w) (fun _ _ _ hh h=>h.of_heap hh) Tryz.own started (by kernel_rfl) Tryz.func7 (ChangeSpec.witness_shaped (enc:=enc) (C:=Tryz.checked) (os:=os) (X:=fun w _=>laidMetH Tryz.prog laidN w) false (World.doorLaid Tryz.prog 14 os) #[.slice none 0 0,.int .i64 0] 8 rfl (World.shaped_of_RefB (by kernel_rfl) (by kernel_rfl)) (by kernel_rfl) (by kernel_rfl) (by kernel_rfl) (door_met os _)) ?_
 intro W base args ds gs before hval0 hW hcnd hsz0 hL _
 have hsz:(DataW.weightsEach Tryz.prog (Tryz.f7.params.toList ++ Rows.topAloneSpec.plain.varTypes Tryz.prog) (ds ++ gs)).all (·≤reachBytes)=true:=hsz0
 clear hsz0
 have hval:∀ (j:Nat) t v,Tryz.f7.params[j]?=some t→args[j]?=some v→Value.okWide Tryz.prog W .any base t v:=hval0
 have hW':=hW
 obtain ⟨p,q,hA0,hV,rfl,hfz,hnd⟩:=hW
 have hA:DataW.TrodAll enc Tryz.prog W 0 (fun _=>true) true Tryz.f7.params.toList args.toList ds p:=hA0
 rw [Tryz.params7] at hA hval hsz
 obtain ⟨rfl,rfl⟩:=trodVars_none hV
 clear hA0 hval0 hcnd hV hfz hnd
 obtain ⟨v0,v1,d0,d1,p0,p1,rfl,rfl,rfl,h0,h1⟩:=trodAll_two hA
 obtain ⟨A,n,c,l,rfl,hd,hS⟩:=open_gears (hval 0 22 v0 rfl rfl) h0
 obtain ⟨x,rfl,rfl,rfl,hx⟩:=open_int Tryz.underlying3 (hval 1 3 v1 rfl rfl) h1
 refine (topAlone_walk A n c l x W hS hd (i64_bounds hx)).mono fun e W' ⟨he,hb⟩=>?_
 subst he
 exact ⟨_,rfl,post_law Tryz.laidOut hW' rfl (by kernel_rfl) rfl Tryz.underlying4 (fun _=>rfl) (fun _=>rfl) (fun _=>rfl) hb⟩
set_option maxRecDepth 100000 in
theorem topAlone_f1:(Rows.topAloneRow.inPlace == Tryz.pinned.checked.prog.inPlace 7)=true:=by kernel_rfl
set_option maxRecDepth 100000 in
theorem topAlone_f2:(Rows.topAloneRow.unfollowed == Tryz.pinned.checked.prog.unfollowed 7)=true:=by kernel_rfl
set_option maxRecDepth 100000 in
theorem topAlone_f3:(Rows.topAloneRow.recurses == Tryz.pinned.checked.prog.recurses 7)=true:=by kernel_rfl
set_option maxRecDepth 100000 in
theorem topAlone_f4:(Rows.topAloneRow.named == Tryz.pinned.checked.prog.varsNamed 7)=true:=by kernel_rfl
set_option maxRecDepth 100000 in
theorem topAlone_facts:joinedFacts Tryz.pinned.checked.prog 7 Tryz.f7 Rows.topAloneSpec Rows.topAloneRow=true:=by
 unfold joinedFacts
 rw [enterN,show (Rows.topAloneRow.lifted == Tryz.pinned.checked.prog.liftsFinal)=true from liftsN,laidN1,laidN2,heardN,show (Rows.topAloneRow.plainKeys == Tryz.pinned.checked.prog.plainKeys)=true from keysN,topAlone_f1,topAlone_f2,topAlone_f3,topAlone_f4]
 kernel_rfl
theorem topAlone_row:Rows.TopAloneSaid:=OpenClaim.holds_of_wide 7 Tryz.f7 rfl rfl rfl rfl rfl rfl rfl ⟨rfl,rfl,rfl,rfl,rfl⟩ rfl rfl rfl rfl rfl (by kernel_rfl) Tryz.func7 topAlone_facts
 (of_decide_eq_true (by kernel_rfl)) (by unfold Func.isWrapper;first|(rw [if_pos (by decide +kernel)];kernel_rfl)|(rw [if_neg (by decide +kernel)];exact ⟨rfl,rfl⟩))
 (fun os started H enc _=>topAlone_lifted os started H enc)
set_option maxRecDepth 100000 in
theorem topAlone_goes:false=Rows.topAloneRow.goesBy Tryz.pinned.checked.prog:=by kernel_rfl
set_option maxRecDepth 100000 in
theorem topAlone_looks:false=Tryz.pinned.checked.prog.looks []:=by kernel_rfl
set_option maxRecDepth 100000 in
theorem topAlone_holds:Rows.TopAloneCardSaid:=
 Claim7.holds_tied_plain_at .later [] [.data] true Rows.topTrimCard.stood.harness false
  topAlone_row (fun _ h=>by cases h) (by kernel_rfl) (fun _ h=>by cases h) topAlone_row_tie rfl ⟨rfl,rfl⟩ mainN rfl
  (fun f fn hf hfn=>by
   obtain rfl:f=7:=Option.some.inj ((show Tryz.prog.funcNamed "rostrum/rostrumtop.TopAlone" = some 7 by kernel_rfl).symm.trans hf) |>.symm
   obtain rfl:fn=Tryz.f7:=(Option.some.inj (Tryz.func7.symm.trans hfn)).symm
   exact ⟨topAlone_looks,fun j t ht=>by
    rw [Tryz.params7] at ht
    have hm:=List.mem_of_getElem? (Array.getElem?_toList ▸ ht)
    simp only [List.mem_cons,List.not_mem_nil,or_false] at hm
    rcases hm with rfl|rfl <;> exact (show Tryz.prog.wantsStandIn _=false by kernel_rfl)⟩)
  topAlone_goes
#print axioms topAlone_holds
end Go.Proofs.YtgdcofbnbiclmaaGreatDoor

