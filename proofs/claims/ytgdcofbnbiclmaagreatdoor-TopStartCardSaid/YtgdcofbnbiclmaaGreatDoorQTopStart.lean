/- rostrumtop.TopStart returns true for every input; client.nothing holds what its initialiser lays. -/
import Derived.Test.YtgdcofbnbiclmaaGreatDoorQRunW
import Derived.Test.YtgdcofbnbiclmaaGreatDoorQLaidT
namespace Go.Proofs.YtgdcofbnbiclmaaGreatDoor
set_option linter.all false
set_option maxHeartbeats 32000000
open Go.ChangeShapes Go.WideShapes Go.ChangeAt Go.RowKit
def intRows (l:List Int):List (List Value):=l.map fun n=>[.int .i64 n]
theorem fits_int {l:List Value} (h:Fits [.int .i64] l):∃ n:Int,l=[.int .i64 n]∧I64 n:=by
 obtain ⟨_,_,rfl,⟨a,rfl,ha⟩,h_1⟩:=fits_cons h
 obtain rfl:=fits_nil h_1
 exact ⟨a,rfl,i64_bounds ha⟩
theorem Seg.int {w:World} {A:Option Addr} {l:List Int} (h:Seg w 1 A (intRows l)) {i:Nat} (hi:i<l.length) :
  ∃ b off,A=some ⟨b,off,none⟩∧b<w.heap.size∧w.cell? ⟨b,off+i,none⟩=some (.int .i64 l[i]):=by
 obtain ⟨b,off,e,hb,hc⟩:=h.at_ (i:=i) (by simpa [intRows] using hi)
 exact ⟨b,off,e,hb,by simpa [intRows] using hc 0 (.int .i64 l[i]) (by simp [intRows])⟩
section
variable {H:Type} {enc:TypeId×Value→H} {w:World} {base:Nat} {spare:Nat→Bool} {held:Bool} {v:Value} {d:DataW H} {p:List MemPlace}
set_option maxRecDepth 100000 in
theorem i64_atoms:atoms Tryz.prog 1 3=some [.int .i64]:=by kernel_rfl
set_option maxRecDepth 100000 in
theorem open_i64s {r:Reach} {b0:Nat} (hv:Value.okWide Tryz.prog w r b0 89 v) (h:DataW.Trod enc Tryz.prog w base spare held 89 v d p) :
  ∃ A n c,∃ l:List Int,v = .slice A n c∧(∀ x∈l,I64 x)∧Sl w 1 A n c (intRows l):=by
 obtain ⟨a0,len,cap,rfl⟩:=okWide_slice Tryz.underlying89 hv
 obtain ⟨fuel,hf⟩:=h
 obtain ⟨A,n,c,rows,he,h3,h4⟩:=seg_of_slice 1 Tryz.underlying89 i64_atoms (by kernel_rfl) (by decide) hf
 obtain ⟨l,rfl,hl⟩:=rows_map fits_int rows h3
 exact ⟨A,n,c,l,he,hl,h4⟩
end
theorem startA_step {l:List Int} {k:Nat} (h:k<l.length):startA l k ++ [bareAct (startK (picked l[k] 7)) 0 0]=startA l (k+1):=by
 unfold startA;rw [List.take_succ_eq_append_getElem h,List.map_append];rfl
theorem startA_end {l:List Int} {k:Nat} (hk:k≤l.length) (hm:k≤20) (h:¬ (k<l.length∧k<20)):startA l k=startA l 20:=by
 unfold startA
 rcases Nat.lt_or_ge k 20 with h1|h1
 ·rw [List.take_of_length_le (by omega),List.take_of_length_le (by omega)]
 ·rw [show k=20 by omega]
theorem startA_len (l:List Int) (k:Nat) (hk:k≤l.length):(startA l k).length=k:=by simp [startA];omega
theorem startA_le (l:List Int) (k:Nat):(startA l k).length≤k:=by simp [startA];omega
theorem start_cell {w:World} {g k:Nat} (h:Blk w g 3 #[.int .i64 10,.int .i64 3,.int .i64 4,.int .i64 12,.int .i64 11,.int .i64 9,.int .i64 5]) (hk:k<7):w.cell? ⟨g,k,none⟩=some (.int .i64 (startK (k:Int))):=by
 rw [h.cell]
 match k,hk with
 | 0,_|1,_|2,_|3,_|4,_|5,_|6,_=>rfl
theorem bare_view {w:World} {s:Cw} {A B D:Option Addr} {c k d m e:Nat} (h:OutAt w s A B D 3 c k d m e) (hI:Idle s) {i:Nat} (hi:i<3) :
  ∃ b off I i2 E e1 e2 C c1 c2 ld,A=some ⟨b,off,none⟩∧b<w.heap.size∧w.rangeAt b (off+i*11) [.bool (s.nd.get i).up,.int .i64 0,.bool false,.int .i64 0,.int .i64 0,.int .i64 0,.slice I 0 i2,.int .i64 0,.slice E e1 e2,.int .i64 1,.slice C c1 c2]∧ld=0:=by
 obtain ⟨rows,h1,h2⟩:=h.nodes
 have hl:=h2.len
 obtain ⟨r,hr,hv⟩:=h2.at_ (k:=i) (by simp;omega)
 have e0:([s.nd.x,s.nd.y,s.nd.z]:List Nd)[i]'(by simp;omega)=s.nd.get i:=by match i,hi with|0,_|1,_|2,_=>rfl
 rw [e0] at hv
 have B:=hI.nd i hi
 obtain ⟨I,i1,i2,E,e1,e2,C,c1,c2,rfl,hO,-,-⟩:=hv
 have hi1:i1=0:=by have:=hO.sl.len;rw [B.L] at this;simpa [itemRows] using this.symm
 subst hi1
 have hk':i<rows.length:=by rw [←hl];simp;omega
 obtain ⟨b,off,rfl,hb,hc⟩:=h1.seg.at_ (i:=i) hk'
 rw [List.getElem?_eq_getElem hk'] at hr
 injection hr with hr
 refine ⟨b,off,I,i2,E,e1,e2,C,c1,c2,0,rfl,hb,fun j v hv=>?_,rfl⟩
 rw [Nat.add_assoc]
 refine hc j v ?_
 rw [hr]
 have e:vwC (s.nd.get i) (.slice I 0 i2) (.slice E e1 e2) (.slice C c1 c2)=[.bool (s.nd.get i).up,.int .i64 0,.bool false,.int .i64 0,.int .i64 0,.int .i64 0,.slice I 0 i2,.int .i64 0,.slice E e1 e2,.int .i64 1,.slice C c1 c2]:=by
  unfold vwC
  rw [B.term,B.commit,B.b,B.bt,B.m,show ((s.nd.get i).role == 3)=false by rcases B.ro with h|h <;> rw [h] <;> rfl]
  rfl
 rw [e];exact hv
theorem view_size:(Tryz.prog.info? 51).map (·.size)=some 11:=by kernel_rfl
theorem OI.len0 {w:World} {I:Option Addr} {i1 i2:Nat} (h:OI w I i1 i2 []):i1=0:=by simpa [itemRows] using h.sl.len.symm
set_option maxRecDepth 100000 in
theorem topStart_walk (A:Option Addr) (n c:Nat) (l:List Int) (w:World) (hS:Sl w 1 A n c (intRows l)) (hd:∀ x∈l,I64 x) :
  Calls Tryz.prog 15 #[.slice A n c] w fun e w'=>e = .returned (.bool true)∧Below w.heap.size w w':=by
 have hn:l.length=n:=by have:=hS.len;simpa [intRows] using this
 subst hn
 have hlm:=hS.nc
 have hlm':=hS.cm
 unfold maxLen at hlm'
 have HD:=hide hd
 clear hd
 go_enter Tryz.func15,Tryz.ntmps15
 go_wp2_with fail
 go_loopw [3,4] (fun s3 s4 wr=>∃ k:Nat,k≤l.length∧k≤20∧s4 = .int .i64 (k:Int)∧Own wr w.heap.size 40 10 s3 (actRows (startA l k))∧Below w.heap.size w wr) (fun _ s4 _=>l.length - (intOf s4).toNat)
 case atStart=>exact ⟨0,by omega,by omega,rfl,Own.nil,below_by⟩
 case round=>
  obtain ⟨k,hk,hk20,rfl,hown,hbr⟩:=hrel
  have hbs:=hbr.size
  by_cases hlt:k<l.length∧k<20
  ·obtain ⟨hlt,hlt20⟩:=hlt
   have i1:(k:Int)<20:=by omega
   have i2:(k:Int)<(l.length:Int):=by omega
   obtain ⟨b,off,rfl,hbb,hcx⟩:=((hS.below hbr).seg).int hlt
   have HQ:=hide (startA_step hlt)
   have hx:=HD.out _ (List.getElem_mem hlt)
   have HLN:=hide (startA_len l k hk)
   generalize l[k]=x at hcx HQ hx
   obtain ⟨p,hp⟩:=Int.eq_ofNat_of_zero_le (picked_lo x 7 (by omega))
   have hp7:=picked_hi x 7 (by omega)
   have HP:=hide (fun w=>Picked_any x 7 w hx.1 hx.2 (by omega) (by omega))
   rw [hp] at HP hp7 HQ
   have hp7':p<7:=by omega
   have ip:(p:Int)<7:=by omega
   have ip0:(0:Int)≤(p:Int):=by omega
   clear hp hx
   have B7:=Blk.new wr 3 #[.int .i64 10,.int .i64 3,.int .i64 4,.int .i64 12,.int .i64 11,.int .i64 9,.int .i64 5]
   have hc7:=start_cell B7 hp7'
   have q7:Below w.heap.size w (wr.alloc (.cells #[.int .i64 10,.int .i64 3,.int .i64 4,.int .i64 12,.int .i64 11,.int .i64 9,.int .i64 5] 3)):=below_by
   have hown1:=hown.alloc (.cells #[.int .i64 10,.int .i64 3,.int .i64 4,.int .i64 12,.int .i64 11,.int .i64 9,.int .i64 5] 3)
   generalize startK (p:Int)=K at *
   go_wp2_with (first
    | (go_at_call 21;refine (HP.out _).mono ?_;rintro e w1 ⟨rfl,rfl⟩)
    | (at_builtin;refine wpList_push rfl _ _ _ rfl Tryz.underlying24 act_info rfl (by decide) (by rfl) hown1 (H:=wr.heap.size+1) (by simp) (by rfl) rfl (act_cells_one (bareAct K 0 0)) ?_ ?_ ?_ ?_))
   ·rw [actRows_length,HLN.out];unfold maxLen;omega
   ·rw [actRows_length,HLN.out];omega
   ·simp;omega
   ·intro v' w2 hown2 hb2 hz3
    have hown3:Own w2 w.heap.size 40 10 v' (actRows (startA l (k+1))):=by rw [←HQ.out,actRows_snoc];exact hown2
    go_wp2_with fail
    go_roundw
    case rel=>exact ⟨k+1,by omega,by omega,by go_num,hown3,below_by⟩
    case measure=>simp [intOf];omega
  ·have HE:=hide (startA_end hk hk20 hlt)
   rw [HE.out] at hown
   have HLE:=hide (startA_le l 20)
   have HF:=hide (fun k=>start_fine l k)
   have HOK:=hide (fun a ha=>(start_ok l a ha).1)
   have HM:=hide (start_mute l)
   have HA:=hide (show startActs l=startA l 20 ++ [bareAct 10 0 0] from rfl)
   generalize startActs l=L at *
   generalize startA l 20=L0 at *
   obtain ⟨A1,c1,rfl,S1⟩:=hown.sl
   rw [actRows_length] at S1 ⊢
   have hL0:=HLE.out
   have B1:=Blk.new wr 40 (bareAct 10 0 0).cells.toArray
   have S12:Sl (wr.alloc (.cells (bareAct 10 0 0).cells.toArray 40)) 10 (some ⟨wr.heap.size,0,none⟩) 1 1 (actRows [bareAct 10 0 0]):=Sl.of_blk B1 rfl (by intro r hr;simp [actRows] at hr;subst hr;rfl) rfl (by decide)
   have q1:Below w.heap.size w (wr.alloc (.cells (bareAct 10 0 0).cells.toArray 40)):=below_by
   have HWI:=hide (with_any A1 L0.length c1 L0 (some ⟨wr.heap.size,0,none⟩) 1 1 [bareAct 10 0 0] _ (S1.below ((Below.refl _ wr).alloc (Nat.le_refl _) _)) S12 (by omega) (by simp))
   have HWI:=hide (show Calls Tryz.prog 22 _ (wr.alloc (.cells #[.int .i64 10,.int .i64 0,.int .i64 0,.int .i64 0,.int .i64 0,.int .i64 0,.string { data:=#[] },.string { data:=#[] },.string { data:=#[] },.int .i64 0] 40)) _ from HWI.out)
   have HQ1:=hide q1
   clear HD HE B1 S12 S1 q1 hown hbr
   have hcases:(∃ b:Bool,decide ((k:Int)<(l.length:Int))=b∧(b=true→¬ ((k:Int)<20))):=⟨_,rfl,fun h=>by have:=of_decide_eq_true h;omega⟩
   obtain ⟨b,hb1,hb2⟩:=hcases
   clear hlt
   cases b
   all_goals
    first
     | (have h20:=hb2 rfl;have i2:(k:Int)<(l.length:Int):=of_decide_eq_true hb1;clear hb2 hb1)
     | (have i2:¬ ((k:Int)<(l.length:Int)):=of_decide_eq_false hb1;clear hb2 hb1)
    go_wp2_with fail
    refine HWI.out.mono ?_
    rintro e w2 ⟨v,rfl,O2,b2⟩
    obtain ⟨A2,c2,rfl,S2⟩:=O2.sl
    rw [←HA.out,actRows_length] at S2
    have hL:L.length≤3000:=by rw [HA.out,List.length_append];simp;omega
    have HR:=hide (ran_of (runC L) A2 L.length c2 w2 (fun w' q=>run_fine L A2 L.length c2 w' (S2.below q) hL HOK.out HF.out))
    have HQ2:=hide (bstep HQ1.out b2)
    rw [←HA.out,actRows_length]
    clear O2 b2 S2
    go_wp2_with fail
    refine HR.out.mono ?_
    rintro e w3 ⟨A3,B3,D3,c3,k3,d3,m3,e3,rfl,O3,b3⟩
    obtain ⟨-,hk3,hm3⟩:=O3.three
    have haw:((runC L).away.length:Int)=0:=by rw [HM.out.1.away];rfl
    rw [HM.out.1.told] at hk3
    rw [HM.out.1.idle.led] at hm3
    simp only [List.length_nil] at hk3 hm3
    subst hk3;subst hm3
    rw [haw]
    have HQ3:=hide (bstep HQ2.out b3)
    have HID:=hide HM.out.1.idle
    have HUP:=hide HM.out.2
    have HO3:=hide O3
    clear HR b3 haw O3 HQ2 HWI HQ1
    have ba:Below w3.heap.size w3 (w3.alloc (.cells #[.slice none 0 0,.slice none 0 0,.slice none 0 0,.int .i64 0] 32)):=below_by
    go_upto_region 7 with (refine wpList_sto rfl 32 _ _ rfl (cells:=#[.slice A3 3 c3,.slice B3 0 d3,.slice D3 0 e3,.int .i64 0]) rfl rfl (Blk.new w3 _ _) rfl out_size_ (all_one rfl) ?_;intro w4 Z4 gr4 sz4)
    have b4:=below_sto ba gr4 ba.size (Nat.le_refl _)
    have HO4:=hide (HO3.out.below b4)
    have HQ4:=hide (bstep HQ3.out b4)
    obtain ⟨g,hg⟩:∃ g,g=w3.heap.size:=⟨_,rfl⟩
    rw [←hg] at Z4 ⊢
    clear hg ba gr4 sz4 b4 HO3 HQ3
    obtain ⟨bb,off,I,j2,E,e1,e2,C,x1,x2,ld,rfl,hbb,hrg,-⟩:=bare_view HO4.out HID.out (i:=0) (by omega)
    have hup:=hrg 0 _ rfl
    rw [HUP.out] at hup
    simp only [Nat.zero_mul,Nat.add_zero] at hup
    clear hrg
    have hgl:=Z4.lt
    (try clear cZ4 fZ4);have cZ4:=Z4.cell;have fZ4:=Z4.frozen
    go_wp2_with fail
    go_loopw [7] (fun s7 wr=>∃ q:Nat,q≤3∧s7 = .int .i64 (q:Int)∧Below w4.heap.size w4 wr) (fun s7 _=>3 - (intOf s7).toNat)
    case atStart=>exact ⟨0,by omega,rfl,Below.refl _ _⟩
    case round=>
     obtain ⟨q,hq,rfl,hbr⟩:=hrel
     by_cases hlt:q<3
     ·have iq:(q:Int)<3:=by omega
      have iq0:(0:Int)≤(q:Int):=by omega
      obtain ⟨bb',off',I',j2',E',e1',e2',C',x1',x2',ld',hbe,hbb',hrg',-⟩:=bare_view (HO4.out.below hbr) HID.out hlt
      obtain ⟨rfl,rfl⟩:bb=bb'∧off=off':=by injection hbe with hbe;injection hbe with h1 h2;exact ⟨h1,h2⟩
      generalize ((runC L).nd.get q).up=up at hrg'
      have HRG:=hide hrg'
      have Z5:=Z4.below' hbr
      have hbr':=hbr
      clear hbe hrg' hup cZ4 fZ4
      (try clear cZ5 fZ5);have cZ5:=Z5.cell;have fZ5:=Z5.frozen
      go_upto_region 13 with (first|(refine wpList_load_mid rfl 51 _ rfl _ _ rfl [.bool up,.int .i64 0,.bool false,.int .i64 0,.int .i64 0,.int .i64 0,.slice I' 0 j2',.int .i64 0,.slice E' e1' e2',.int .i64 1,.slice C' x1' x2'] _ HRG.out Tryz.underlying51 rfl view_size ?_)|(refine wpList_sto rfl 51 _ _ rfl (cells:=#[.bool up,.int .i64 0,.bool false,.int .i64 0,.int .i64 0,.int .i64 0,.slice I' 0 j2',.int .i64 0,.slice E' e1' e2',.int .i64 1,.slice C' x1' x2']) rfl rfl (Blk.new wr _ _) rfl view_size (all_one rfl) ?_;intro w6 Z6 gr6 sz6))
      have b6:Below wr.heap.size wr w6:=below_sto ((Below.refl _ wr).alloc (Nat.le_refl _) _) gr6 (by simp) (Nat.le_refl _)
      have HB6:=hide (bstep hbr b6)
      clear gr6 sz6 b6 HRG cZ5 fZ5
      (try clear cZ6 fZ6);have cZ6:=Z6.cell;have fZ6:=Z6.frozen
      go_wp2_with fail
      go_roundw
      case rel=>exact ⟨q+1,by omega,by go_num,HB6.out⟩
      case measure=>simp [intOf];omega
     ·obtain rfl:q=3:=by omega
      have iq:¬ ((3:Int)<3):=by omega
      go_wp2_with fail
      go_ret
      exact ⟨rfl,bstep HQ4.out hbr⟩
set_option maxRecDepth 100000 in
theorem topStart_lifted (os:Os) (started:os.Started) (H:Type) (enc:TypeId×Value→H) :
 ReturnsInHanded {} Tryz.checked os 15 .any (fun w args=>(Rows.topStartSpec.pre enc Tryz.prog Tryz.f15 [] false w args∧laidMetH Tryz.prog laidN w)∧sizedMet enc Tryz.prog Tryz.f15 (OpenSpec.ofChange Rows.topStartSpec) false w args) (Rows.topStartSpec.post enc Tryz.prog Tryz.f15 false true false false):=by
 refine returnsInHanded_of_change_and (C:=Tryz.checked) (X:=fun w _=>laidMetH Tryz.prog laidN w) (fun _ _ _ hh h=>h.of_heap hh) Tryz.own started (by kernel_rfl) Tryz.func15 (ChangeSpec.witness_shaped (enc:=enc) (C:=Tryz.checked) (os:=os) (X:=fun w _=>laidMetH Tryz.prog laidN w) false (World.doorLaid Tryz.prog 14 os) #[.slice none 0 0] 8 rfl (World.shaped_of_RefB (by kernel_rfl) (by kernel_rfl)) (by kernel_rfl) (by kernel_rfl) (by kernel_rfl) (door_met os _)) ?_
 intro W base args ds gs before hval0 hW hcnd hsz0 hL _
 have hsz:(DataW.weightsEach Tryz.prog (Tryz.f15.params.toList ++ Rows.topStartSpec.plain.varTypes Tryz.prog) (ds ++ gs)).all (·≤reachBytes)=true:=hsz0
 clear hsz0
 have hval:∀ (j:Nat) t v,Tryz.f15.params[j]?=some t→args[j]?=some v→Value.okWide Tryz.prog W .any base t v:=hval0
 have hW':=hW
 obtain ⟨p,q,hA0,hV,rfl,hfz,hnd⟩:=hW
 have hA:DataW.TrodAll enc Tryz.prog W 0 (fun _=>true) true Tryz.f15.params.toList args.toList ds p:=hA0
 rw [Tryz.params15] at hA hval hsz
 obtain ⟨rfl,rfl⟩:=trodVars_none hV
 clear hA0 hval0 hcnd hV hfz hnd
 obtain ⟨v0,d0,rfl,rfl,h0⟩:=trodAll_one hA
 obtain ⟨A,n,c,l,rfl,hd,hS⟩:=open_i64s (hval 0 89 v0 rfl rfl) h0
 refine (topStart_walk A n c l W hS hd).mono fun e W' ⟨he,hb⟩=>?_
 subst he
 exact ⟨_,rfl,post_law Tryz.laidOut hW' rfl (by kernel_rfl) rfl Tryz.underlying4 (fun _=>rfl) (fun _=>rfl) (fun _=>rfl) hb⟩
set_option maxRecDepth 100000 in
theorem topStart_f1:(Rows.topStartRow.inPlace == Tryz.pinned.checked.prog.inPlace 15)=true:=by kernel_rfl
set_option maxRecDepth 100000 in
theorem topStart_f2:(Rows.topStartRow.unfollowed == Tryz.pinned.checked.prog.unfollowed 15)=true:=by kernel_rfl
set_option maxRecDepth 100000 in
theorem topStart_f3:(Rows.topStartRow.recurses == Tryz.pinned.checked.prog.recurses 15)=true:=by kernel_rfl
set_option maxRecDepth 100000 in
theorem topStart_f4:(Rows.topStartRow.named == Tryz.pinned.checked.prog.varsNamed 15)=true:=by kernel_rfl
set_option maxRecDepth 100000 in
theorem topStart_facts:joinedFacts Tryz.pinned.checked.prog 15 Tryz.f15 Rows.topStartSpec Rows.topStartRow=true:=by
 unfold joinedFacts
 rw [enterN,show (Rows.topStartRow.lifted == Tryz.pinned.checked.prog.liftsFinal)=true from liftsN,laidN1,laidN2,heardN,show (Rows.topStartRow.plainKeys == Tryz.pinned.checked.prog.plainKeys)=true from keysN,topStart_f1,topStart_f2,topStart_f3,topStart_f4]
 kernel_rfl
theorem topStart_row:Rows.TopStartSaid:=OpenClaim.holds_of_wide 15 Tryz.f15 rfl rfl rfl rfl rfl rfl rfl ⟨rfl,rfl,rfl,rfl,rfl⟩ rfl rfl rfl rfl rfl (by kernel_rfl) Tryz.func15 topStart_facts
 (of_decide_eq_true (by kernel_rfl)) (by unfold Func.isWrapper;first|(rw [if_pos (by decide +kernel)];kernel_rfl)|(rw [if_neg (by decide +kernel)];exact ⟨rfl,rfl⟩))
 (fun os started H enc _=>topStart_lifted os started H enc)
set_option maxRecDepth 100000 in
theorem topStart_goes:false=Rows.topStartRow.goesBy Tryz.pinned.checked.prog:=by kernel_rfl
set_option maxRecDepth 100000 in
theorem topStart_looks:false=Tryz.pinned.checked.prog.looks []:=by kernel_rfl
set_option maxRecDepth 100000 in
theorem topStart_holds:Rows.TopStartCardSaid:=
 Claim7.holds_tied_plain_at .later [] [.data] true Rows.topTrimCard.stood.harness false
  topStart_row (fun _ h=>by cases h) (by kernel_rfl) (fun _ h=>by cases h) topStart_row_tie rfl ⟨rfl,rfl⟩ mainN rfl
  (fun f fn hf hfn=>by
   obtain rfl:f=15:=Option.some.inj ((show Tryz.prog.funcNamed "rostrum/rostrumtop.TopStart" = some 15 by kernel_rfl).symm.trans hf) |>.symm
   obtain rfl:fn=Tryz.f15:=(Option.some.inj (Tryz.func15.symm.trans hfn)).symm
   exact ⟨topStart_looks,fun j t ht=>by
    rw [Tryz.params15] at ht
    have hm:=List.mem_of_getElem? (Array.getElem?_toList ▸ ht)
    simp only [List.mem_cons,List.not_mem_nil,or_false] at hm
    rcases hm with rfl <;> exact (show Tryz.prog.wantsStandIn _=false by kernel_rfl)⟩)
  topStart_goes
#print axioms topStart_holds
end Go.Proofs.YtgdcofbnbiclmaaGreatDoor

