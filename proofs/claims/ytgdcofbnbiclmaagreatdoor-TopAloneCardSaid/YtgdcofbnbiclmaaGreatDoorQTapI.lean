import Derived.Test.YtgdcofbnbiclmaaGreatDoorQTapS
import Derived.Test.YtgdcofbnbiclmaaGreatDoorQHeldX
import Derived.Test.YtgdcofbnbiclmaaGreatDoorQCrwP
import Derived.Test.YtgdcofbnbiclmaaGreatDoorQHeldG
import Derived.Test.YtgdcofbnbiclmaaGreatDoorQTapG
import Derived.Test.YtgdcofbnbiclmaaGreatDoorQTapP
import Derived.Test.YtgdcofbnbiclmaaGreatDoorQTapD
namespace Go.Proofs.YtgdcofbnbiclmaaGreatDoor
set_option linter.all false
set_option maxHeartbeats 32000000
open Go.ChangeShapes Go.WideShapes Go.ChangeAt Go.RowKit
theorem rec_info:(Tryz.prog.info? 205).map (fun i=>(i.zero,i.size,i.bytes))=some (some (.agg #[.int .i64 0,.int .i64 0,.int .i64 0,.int .i64 0,.int .i64 0,.int .i64 0,.bool false,.int .i64 0,.int .i64 0,.int .i64 0,.string ByteArray.empty,.string ByteArray.empty,.string ByteArray.empty,.int .i64 0,.int .i64 0,.int .i64 0,.int .i64 0,.slice none 0 0,.int .i64 0,.slice none 0 0]),20,216):=by kernel_rfl
theorem RecAt.own {w w':World} {r:RK} {row:List Value} {B size:Nat} {v:Value} {rows:List (List Value)} (h:RecAt w r row) (ho:Own w B 205 size v rows) (hg:w.grownBy w' v.ownBlock):RecAt w' r row:=by
 rcases ho.form with ⟨rfl,_⟩|⟨g,cap,rfl,_,_,_,cur,h3,_⟩
 ·exact h.bl ((Below.refl _ _).grown hg (Nat.le_refl _) (fun k hk=>by simp [Value.ownBlock] at hk))
 ·exact h.grown h3 hg
def RowsAt (w:World) (rs:List RK) (rows:List (List Value)):Prop:=rows.length=rs.length∧∀ k (h:k<rs.length) (h':k<rows.length),RecAt w rs[k] rows[k]
theorem RowsAt.nil {w:World}:RowsAt w [] []:=⟨rfl,fun k h=>by simp at h⟩
theorem RowsAt.snoc {w:World} {rs:List RK} {rows:List (List Value)} {r:RK} {row:List Value} (h:RowsAt w rs rows) (hr:RecAt w r row):RowsAt w (rs ++ [r]) (rows ++ [row]):=by
 refine ⟨by simp [h.1],fun k a b=>?_⟩
 have hl:=h.1
 by_cases hk:k<rs.length
 ·rw [List.getElem_append_left hk,List.getElem_append_left (by omega)]
  exact h.2 k hk (by omega)
 ·have e:k=rs.length:=by simp at a;omega
  subst e
  simp only [List.getElem_concat_length,hl] at *
  exact hr
theorem RowsAt.keep {w w':World} {rs:List RK} {rows:List (List Value)} (h:RowsAt w rs rows) (hk:∀ r row,RecAt w r row→RecAt w' r row):RowsAt w' rs rows:=⟨h.1,fun k a b=>hk _ _ (h.2 k a b)⟩
theorem RowsAt.recs {w:World} {A:Option Addr} {n c:Nat} {rs:List RK} {rows:List (List Value)} (h:RowsAt w rs rows) (hs:Sl w 20 A n c rows):Recs w A n c rs rows:=⟨hs,h.1,h.2⟩
end Go.Proofs.YtgdcofbnbiclmaaGreatDoor

namespace Go.Proofs.YtgdcofbnbiclmaaGreatDoor
set_option linter.all false
set_option maxHeartbeats 32000000
open Go.RowKit
def RecvPost (l:List Value) (s:Int) (w:World) (e:Ending) (w':World):Prop:=
 ∃ (A:Option Addr) (n c:Nat) (rows:List (List Value)) (Y:Option Addr) (d:Nat),e = .returned (.tuple #[.slice A n c,.agg #[.slice Y (recA l).2 d,.int .i64 (min s ((recA l).2:Int))],.int .i64 0])∧Recs w' A n c (recA l).1 rows∧TpSl w' Y (recA l).2 d (l.take (recA l).2)∧Below w.heap.size w w'
theorem drop_take_rows {w:World} {Y:Option Addr} {n d:Nat} {l:List Value} (h:Sl w 1 Y n d (byteRows l)) (k j:Nat) (hk:k+j≤n):Sl w 1 (cutA Y d k 1) j (d - k) (byteRows ((l.drop k).take j)):=by
 have h1:=h.drop k (by omega) d (Nat.le_refl _) h.nc
 have h2:=h1.take j (by omega) (d - k) (by have:=h.nc;omega) (Nat.le_refl _)
 rwa [byteRows_drop,byteRows_take] at h2
set_option maxRecDepth 100000 in
theorem Recover_any (l:List Value) (A:Option Addr) (n c:Nat) (s:Int) (w:World) (hT:TpSl w A n c l) (h0:0≤s) (h1:s≤l.length) (h2:l.length≤400000) :
  Calls Tryz.prog 136 #[.agg #[.slice A n c,.int .i64 s]] w (RecvPost l s w):=by
 have hm:=hT.len
 have HO:=hide (fun w' (q:Below w.heap.size w w')=>topen_any l hT.u8 A n c s w' (hT.sl.below q) h0 h1 h2)
 have HU:=hide hT.u8
 have hn4:n≤400000:=by omega
 have HM:=hide hm
 clear hT h1 h2 hm
 have T0:=(Blk.new w 115 #[.slice A n c,.int .i64 s]).alloc (.cells #[.slice none 0 0,.int .i64 0] 115)
 have Z0:Blk ((w.alloc (.cells #[.slice A n c,.int .i64 s] 115)).alloc (.cells #[.slice none 0 0,.int .i64 0] 115)) (w.heap.size+1) 115 #[.slice none 0 0,.int .i64 0]:=Blk.new' _ _ _ (by simp)
 have q0:Below w.heap.size w ((w.alloc (.cells #[.slice A n c,.int .i64 s] 115)).alloc (.cells #[.slice none 0 0,.int .i64 0] 115)):=below_by
 go_enter Tryz.func136,Tryz.ntmps136
 (try clear cT0 fT0);have cT0:=T0.cell;have fT0:=T0.frozen
 go_wp2_with fail
 refine (HO.out _ q0).mono ?_
 rintro e w1 ⟨Y,n1,d,rfl,OY1,b1⟩
 obtain rfl:n=n1:=by rw [←HM.out,←OY1.sl'.len,byteRows_length]
 replace OY1:=OY1.mono q0.size
 have hnd:=OY1.sl'.nc
 replace Z0:=Z0.below' b1
 have q1:=bstep q0 b1
 clear cT0 fT0 T0 b1 q0 HO
 have HNE:=hide (show w.heap.size≤w.heap.size+1∧w1.heap.size≠w.heap.size+1 from ⟨by omega,by have:=Z0.lt;omega⟩)
 have bz:Below w1.heap.size w1 (w1.alloc (.cells #[.slice Y n d,.int .i64 s] 115)):=below_by
 have X1:=Blk.new w1 115 #[.slice Y n d,.int .i64 s]
 replace Z0:=Z0.below' bz
 replace OY1:=OY1.below bz
 replace q1:=bstep q1 bz
 clear bz
 go_upto_region 4 with fail
 obtain ⟨w2,hw2⟩:∃ w2,w2=w1.alloc (.cells #[.slice Y n d,.int .i64 s] 115):=⟨_,rfl⟩
 rw [←hw2] at X1 Z0 OY1 q1 ⊢
 clear hw2
 go_wp2_with fail
 go_loopw [7,8] (fun s7 s8 wr=>∃ at_:Nat,at_≤n∧s8 = .int .i64 (at_:Int)∧∃ (B:Option Addr) (m e:Nat) (rows:List (List Value)) (dn:List RK),s7 = .slice B m e∧Blk wr w1.heap.size 115 #[.slice Y n d,.int .i64 s]∧Blk wr (w.heap.size+1) 115 #[.slice none 0 0,.int .i64 0]∧Own wr w.heap.size 5 1 (.slice Y n d) (byteRows l)∧Own wr w.heap.size 205 20 (.slice B m e) rows∧RowsAt wr dn rows∧Hid (dn.length≤at_)∧Hid (Scan l dn at_)∧Below w.heap.size w wr) (fun _ s8 _=>n - (intOf s8).toNat)
 case atStart=>exact ⟨0,by omega,rfl,none,0,0,[],[],rfl,X1,Z0,OY1,Own.nil,RowsAt.nil,hide (by simp),hide (scan_start l),q1⟩
 case round=>
  obtain ⟨at_,hat,rfl,B,m,e,rows,dn,rfl,X,Z,OY,O,RA,HDL,HSC,q⟩:=hrel
  obtain ⟨gX,hgX⟩:∃ gX,gX=w1.heap.size:=⟨_,rfl⟩
  simp only [←hgX] at *
  clear hgX X1 Z0 OY1 q1
  have hqs:=q.size
  have hx:=X.lt
  have hz:=Z.lt
  by_cases h3:at_+3≤n
  ·obtain ⟨vn,hvn⟩:=Int.eq_ofNat_of_zero_le (val3_bd (HU.out.drop at_)).1
   have hvb:=(val3_bd (HU.out.drop at_)).2
   have sA:=fun w=>run_cut Tryz.underlying113 u8_size Y n d at_ (by omega) w
   have hSd:=OY.sl'.drop at_ (by omega) d (Nat.le_refl _) hnd
   rw [byteRows_drop] at hSd
   have HV:=hide (tvalue_any (l.drop at_) _ _ _ wr hSd (HU.out.drop at_) (by omega))
   rw [hvn] at HV hvb
   have HVN:=hide hvn
   clear hvn hSd
   have e1:(at_:Int)+3≤(n:Int):=by omega
   (try clear cX fX);have cX:=X.cell;have fX:=X.frozen
   go_wp2_with fail
   refine HV.out.mono ?_
   rintro e_ w3 ⟨rfl,b3⟩
   clear cX fX HV sA
   replace X:=X.below' b3;replace Z:=Z.below' b3;replace OY:=OY.below b3;replace O:=O.below b3
   replace RA:=RA.keep fun r row h=>h.bl b3
   replace q:=bstep q b3
   clear b3
   by_cases h4:n<at_+3+vn
   ·have e2:(n:Int)<(at_:Int)+3+(vn:Int):=by omega
    have HEND:=hide (show recA l=(dn,at_) from scan_short HSC.out (by rw [List.length_drop,HM.out,HVN.out];right;omega))
    (try clear cX fX);have cX:=X.cell;have fX:=X.frozen
    have ha1:=hide (show at_≤d by omega)
    have st_:=fun w=>run_take3 Tryz.underlying113 u8_size Y n d at_ at_ (Nat.le_refl _) ha1.out w
    have mi1:(if (at_:Int)<s then (at_:Int) else s)=min s at_:=by split <;> omega
    have mi2:(if s<(at_:Int) then s else (at_:Int))=min s at_:=by split <;> omega
    go_upto_region 13 with fail
    refine wp_region_x (l:=[]) (S:=fun w'=>w'.cell? ⟨gX,0,none⟩=some (.slice Y n d)∧w'.cell? ⟨gX,1,none⟩=some (.int .i64 s)) (by kernel_rfl) ⟨X.drew.cell 0,X.drew.cell 1⟩ (fun hS=>?_)
    have bd:Below w3.heap.size w3 w3.drew:=(Below.refl _ w3).drew
    replace X:=X.drew;replace Z:=Z.drew;replace OY:=OY.drew;replace O:=O.drew;replace q:=q.drew
    replace RA:=RA.keep fun r row h=>h.bl bd
    clear bd
    obtain ⟨wd,hwd⟩:∃ wd,wd=w3.drew:=⟨_,rfl⟩
    rw [←hwd] at hS X Z OY O q RA ⊢
    clear hwd
    refine wpAnyX_tq 0 ?_
    refine wpAnyX_tq 1 ?_
    refine wpAnyX_tq 2 ?_
    refine wpAnyX_tq 3 ?_
    refine wpAnyX_tq 4 ?_
    refine wpAnyX_tq 5 ?_
    refine wpAnyX_tq 6 ?_
    refine wpAnyX_tq 7 ?_
    refine wpAnyX_tq 8 ?_
    refine wpAnyX_tq 9 ?_
    refine wpAnyX_tq 10 ?_
    refine wpAnyX_oq 11 fun K hK=>?_
    go_wp2_with fail
    refine hK.out _ _ (Or.inr hS) (fun hS=>?_)
    replace hS:=hS.resolve_left (by decide)
    clear hK K
    refine wpAnyX_oq 12 fun K hK=>?_
    refine wpList_store_blk rfl 115 _ _ rfl (cells:=#[.slice Y at_ at_,.int .i64 (min s at_)]) rfl rfl Z rfl tape_size (all_one rfl) ?_
    intro w9 Z9 gr9 sz9
    have X9:=grown_blk X gr9 HNE.out.2
    have HP:=hide (show RecvPost l s w (.returned (.tuple #[.slice B m e,.agg #[.slice Y at_ at_,.int .i64 (min s at_)],.int .i64 0])) w9 from
     ⟨B,m,e,rows,Y,at_,by rw [HEND.out],by rw [HEND.out];exact (RA.keep fun r row h=>h.grown Z gr9).recs (own_grew O Z gr9).sl',by rw [HEND.out];exact ⟨by have h:=(own_grew OY Z gr9).sl'.take at_ (by omega) at_ (Nat.le_refl _) ha1.out;rwa [byteRows_take] at h,HU.out.take _,own_tp (own_grew OY Z gr9)⟩,below_grow q gr9 q.size HNE.out.1⟩)
    refine hK.out _ _ (Or.inr ⟨X9.cell 0,X9.cell 1⟩) (fun hS=>?_)
    replace hS:=hS.resolve_left (by decide)
    clear hK K gr9 sz9 RA O OY Z X q
    refine wpAnyX_oq 13 fun K hK=>?_
    go_wp2_with fail
    refine hK.out _ _ (Or.inr hS) (fun _=>?_)
    clear hK K hS X9 mi1 mi2 st_
    refine wpAnyX_done (by kernel_rfl) ?_ _
    (try clear cZ9 fZ9);have cZ9:=Z9.cell;have fZ9:=Z9.frozen
    go_wp2_with fail
    refine bodyPost_ret (v:=.tuple #[.slice B m e,.agg #[.slice Y at_ at_,.int .i64 (min s at_)],.int .i64 0]) ?_ rfl HP.out
    simp [results,Tryz.results136,go_sem, *]
   ·have e2:(at_:Int)+3+(vn:Int)≤(n:Int):=by omega
    have hvb2:(vn:Int)≤400000:=by omega
    clear hvb
    have sB:∀ w,(Instr.slice 113 (.slice Y n d) (some (.int .i64 ((at_:Int)+3))) (some (.int .i64 ((at_:Int)+3+(vn:Int)))) none).run Tryz.prog w = .ok (.slice (cutA Y d (at_+3) 1) vn (d - (at_+3))) w:=fun w=>by
     have h:=run_cut2 Tryz.underlying113 u8_size Y n d (at_+3) (at_+3+vn) (by omega) (by omega) w
     rw [show at_+3+vn - (at_+3)=vn by omega] at h
     push_cast at h
     exact h
    have HDE:=hide (decode_any (((l.drop at_).drop 3).take vn) _ _ _ w3 (by rw [List.drop_drop];exact drop_take_rows OY.sl' (at_+3) vn (by omega)) (((HU.out.drop at_).drop 3).take vn))
    have HSH:Hid (¬ ((l.drop at_).length<3∨(l.drop at_).length<3+(val3 (l.drop at_)).toNat)):=hide (by rw [List.length_drop,HM.out,HVN.out];omega)
    have HSN:=hide (fun r (h:decRec (((l.drop at_).drop 3).take vn)=some r)=>(show Scan l (dn ++ [r]) (at_+(3+vn)) from by
     have:=scan_step HSC.out HSH.out (r:=r) (by rw [HVN.out];exact h)
     rwa [HVN.out] at this))
    have HSE:=hide (fun (h:decRec (((l.drop at_).drop 3).take vn)=none)=>scan_none HSC.out HSH.out (by rw [HVN.out];exact h))
    generalize decRec (((l.drop at_).drop 3).take vn)=O_ at *
    (try clear cX fX);have cX:=X.cell;have fX:=X.frozen
    go_wp2_with fail
    refine HDE.out.mono ?_
    rintro e_ w4 ⟨row,ok,rfl,hl20,hone,hok1,hok0,b4⟩
    clear cX fX HDE sB
    replace X:=X.below' b4;replace Z:=Z.below' b4;replace OY:=OY.below b4;replace O:=O.below b4
    replace RA:=RA.keep fun r row h=>h.bl b4
    replace q:=bstep q b4
    clear b4
    obtain ⟨v0,v1,v2,v3,v4,v5,v6,v7,v8,v9,v10,v11,v12,v13,v14,v15,v16,v17,v18,v19,rfl⟩:=twenty hl20
    have ba:Below w4.heap.size w4 (w4.alloc (.cells #[.int .i64 0,.int .i64 0,.int .i64 0,.int .i64 0,.int .i64 0,.int .i64 0,.bool false,.int .i64 0,.int .i64 0,.int .i64 0,.string { data:=#[] },.string { data:=#[] },.string { data:=#[] },.int .i64 0,.int .i64 0,.int .i64 0,.int .i64 0,.slice none 0 0,.int .i64 0,.slice none 0 0] 205)):=below_by
    have HONE:=hide hone
    have HK1:=hide hok1
    have HK0:=hide hok0
    clear hl20 hone hok1 hok0
    go_upto_region 10 with (refine wpList_store_blk rfl 205 _ _ rfl (cells:=#[v0,v1,v2,v3,v4,v5,v6,v7,v8,v9,v10,v11,v12,v13,v14,v15,v16,v17,v18,v19]) rfl rfl (Blk.new w4 _ _) rfl rec_size HONE.out ?_;intro w5 R5 gr5 sz5)
    have b45:Below w4.heap.size w4 w5:=below_grow ba gr5 (by simp) (Nat.le_refl _)
    replace X:=X.below' b45;replace Z:=Z.below' b45;replace OY:=OY.below b45;replace O:=O.below b45
    replace RA:=RA.keep fun r row h=>h.bl b45
    replace q:=bstep q b45
    clear gr5 sz5 ba
    cases ok with
    | false=>
     have hO:O_=none:=by
      cases hO:O_ with
      | none=>rfl
      | some r=>have:=(HK1.out r hO).1;cases this
     have HEND:=hide (HSE.out hO)
     clear b45 R5 HSN HSE
     (try clear cX fX);have cX:=X.cell;have fX:=X.frozen
     have ha1:=hide (show at_≤d by omega)
     have st_:=fun w=>run_take3 Tryz.underlying113 u8_size Y n d at_ at_ (Nat.le_refl _) ha1.out w
     have mi1:(if (at_:Int)<s then (at_:Int) else s)=min s at_:=by split <;> omega
     have mi2:(if s<(at_:Int) then s else (at_:Int))=min s at_:=by split <;> omega
     go_upto_region 13 with fail
     refine wp_region_x (l:=[]) (S:=fun w'=>w'.cell? ⟨gX,0,none⟩=some (.slice Y n d)∧w'.cell? ⟨gX,1,none⟩=some (.int .i64 s)) (by kernel_rfl) ⟨X.drew.cell 0,X.drew.cell 1⟩ (fun hS=>?_)
     have bd:Below w5.heap.size w5 w5.drew:=(Below.refl _ w5).drew
     replace X:=X.drew;replace Z:=Z.drew;replace OY:=OY.drew;replace O:=O.drew;replace q:=q.drew
     replace RA:=RA.keep fun r row h=>h.bl bd
     clear bd
     obtain ⟨wd,hwd⟩:∃ wd,wd=w5.drew:=⟨_,rfl⟩
     rw [←hwd] at hS X Z OY O q RA ⊢
     clear hwd
     refine wpAnyX_tq 0 ?_
     refine wpAnyX_tq 1 ?_
     refine wpAnyX_tq 2 ?_
     refine wpAnyX_tq 3 ?_
     refine wpAnyX_tq 4 ?_
     refine wpAnyX_tq 5 ?_
     refine wpAnyX_tq 6 ?_
     refine wpAnyX_tq 7 ?_
     refine wpAnyX_tq 8 ?_
     refine wpAnyX_tq 9 ?_
     refine wpAnyX_tq 10 ?_
     refine wpAnyX_oq 11 fun K hK=>?_
     go_wp2_with fail
     refine hK.out _ _ (Or.inr hS) (fun hS=>?_)
     replace hS:=hS.resolve_left (by decide)
     clear hK K
     refine wpAnyX_oq 12 fun K hK=>?_
     refine wpList_store_blk rfl 115 _ _ rfl (cells:=#[.slice Y at_ at_,.int .i64 (min s at_)]) rfl rfl Z rfl tape_size (all_one rfl) ?_
     intro w9 Z9 gr9 sz9
     have X9:=grown_blk X gr9 HNE.out.2
     have HP:=hide (show RecvPost l s w (.returned (.tuple #[.slice B m e,.agg #[.slice Y at_ at_,.int .i64 (min s at_)],.int .i64 0])) w9 from
      ⟨B,m,e,rows,Y,at_,by rw [HEND.out],by rw [HEND.out];exact (RA.keep fun r row h=>h.grown Z gr9).recs (own_grew O Z gr9).sl',by rw [HEND.out];exact ⟨by have h:=(own_grew OY Z gr9).sl'.take at_ (by omega) at_ (Nat.le_refl _) ha1.out;rwa [byteRows_take] at h,HU.out.take _,own_tp (own_grew OY Z gr9)⟩,below_grow q gr9 q.size HNE.out.1⟩)
     refine hK.out _ _ (Or.inr ⟨X9.cell 0,X9.cell 1⟩) (fun hS=>?_)
     replace hS:=hS.resolve_left (by decide)
     clear hK K gr9 sz9 RA O OY Z X q
     refine wpAnyX_oq 13 fun K hK=>?_
     go_wp2_with fail
     refine hK.out _ _ (Or.inr hS) (fun _=>?_)
     clear hK K hS X9 mi1 mi2 st_
     refine wpAnyX_done (by kernel_rfl) ?_ _
     (try clear cZ9 fZ9);have cZ9:=Z9.cell;have fZ9:=Z9.frozen
     go_wp2_with fail
     refine bodyPost_ret (v:=.tuple #[.slice B m e,.agg #[.slice Y at_ at_,.int .i64 (min s at_)],.int .i64 0]) ?_ rfl HP.out
     simp [results,Tryz.results136,go_sem, *]
    | true=>
     obtain ⟨r,hO⟩:∃ r,O_=some r:=by
      cases hO:O_ with
      | none=>have:=HK0.out hO;cases this
      | some r=>exact ⟨r,rfl⟩
     have hrec:=((HK1.out r hO).2).bl b45
     have HS5:=HSN.out r hO
     have hlen:=hide (show rows.length=dn.length from RA.1)
     clear b45 HSN HSE HK1 HK0
     have bb:Below w5.heap.size w5 (w5.alloc (.cells #[v0,v1,v2,v3,v4,v5,v6,v7,v8,v9,v10,v11,v12,v13,v14,v15,v16,v17,v18,v19] 205)):=below_by
     have hq5:=q.size
     have wv:IntKind.i64.wrap (3+(vn:Int))=3+vn:=IntWalk.i64_in _ (by omega)
     go_wp2_with (first|(refine wpList_load_blk rfl 205 _ rfl rfl R5 Tryz.underlying205 rfl rec_size ?_)|(at_builtin;refine wpList_push_g rfl _ _ _ rfl Tryz.underlying218 rec_info rfl (by decide) (by rfl) O (H:=w5.heap.size) rfl (by rfl) (row:=#[v0,v1,v2,v3,v4,v5,v6,v7,v8,v9,v10,v11,v12,v13,v14,v15,v16,v17,v18,v19]) rfl HONE.out ?_ ?_ hq5 ?_))
     ·have:=HDL.out;rw [hlen.out];unfold maxLen;omega
     ·have:=HDL.out;rw [hlen.out];omega
     intro B7 m7 e7 w7 O7 g7
     have b67:=below_grown (O.alloc (.cells #[v0,v1,v2,v3,v4,v5,v6,v7,v8,v9,v10,v11,v12,v13,v14,v15,v16,v17,v18,v19] 205)) g7 (by simp;omega)
     have RA7:RowsAt w7 (dn ++ [r]) (rows ++ [[v0,v1,v2,v3,v4,v5,v6,v7,v8,v9,v10,v11,v12,v13,v14,v15,v16,v17,v18,v19]]):=((RA.keep fun r row h=>h.bl bb).snoc (hrec.bl bb)).keep fun r row h=>h.own (O.alloc _) g7
     have q7:Below w.heap.size w w7:=(q.trans (bb.mono hq5)).trans b67
     have hng:∀ (k:Nat) (ty:TypeId) (cs:Array Value),Blk w5 k ty cs→ty≠205→Blk w7 k ty cs:=fun k ty cs h hne=>by
      have h2:=h.alloc (.cells #[v0,v1,v2,v3,v4,v5,v6,v7,v8,v9,v10,v11,v12,v13,v14,v15,v16,v17,v18,v19] 205)
      exact (g7.block k h2.lt (fun e=>own_block_ne (O.alloc (.cells #[v0,v1,v2,v3,v4,v5,v6,v7,v8,v9,v10,v11,v12,v13,v14,v15,v16,v17,v18,v19] 205)) h2 hne e.symm)).trans h2
     have X7:=hng _ _ _ X (by decide)
     have Z7:=hng _ _ _ Z (by decide)
     have OY7:Own w7 w.heap.size 5 1 (.slice Y n d) (byteRows l):=by
      refine ⟨⟨OY.1.1,?_⟩,OY.2⟩
      rcases OY.1.2 with e1|⟨k,cap,cur,e1,e2,e3,e4⟩
      ·exact .inl e1
      ·exact .inr ⟨k,cap,cur,e1,e2,hng k _ _ e3 (by decide),e4⟩
     have HDL7:=hide (show (dn ++ [r]).length≤at_+(3+vn) by have:=HDL.out;simp;omega)
     clear b67 g7 bb O RA hrec R5 X Z OY hng
     go_wp2_with fail
     go_roundw
     case rel=>exact ⟨at_+(3+vn),by omega,by first|go_num|(congr 1;push_cast;omega),B7,m7,e7,_,_,rfl,X7,Z7,OY7,O7,RA7,HDL7,hide HS5,q7⟩
     case measure=>simp [intOf];omega
  ·have e1:¬ (at_:Int)+3≤(n:Int):=by omega
   have HEND:=hide (show recA l=(dn,at_) from scan_short HSC.out (by rw [List.length_drop,HM.out];left;omega))
   (try clear cX fX);have cX:=X.cell;have fX:=X.frozen
   have ha1:=hide (show at_≤d by omega)
   have st_:=fun w=>run_take3 Tryz.underlying113 u8_size Y n d at_ at_ (Nat.le_refl _) ha1.out w
   have mi1:(if (at_:Int)<s then (at_:Int) else s)=min s at_:=by split <;> omega
   have mi2:(if s<(at_:Int) then s else (at_:Int))=min s at_:=by split <;> omega
   go_upto_region 13 with fail
   refine wp_region_x (l:=[]) (S:=fun w'=>w'.cell? ⟨gX,0,none⟩=some (.slice Y n d)∧w'.cell? ⟨gX,1,none⟩=some (.int .i64 s)) (by kernel_rfl) ⟨X.drew.cell 0,X.drew.cell 1⟩ (fun hS=>?_)
   have bd:Below wr.heap.size wr wr.drew:=(Below.refl _ wr).drew
   replace X:=X.drew;replace Z:=Z.drew;replace OY:=OY.drew;replace O:=O.drew;replace q:=q.drew
   replace RA:=RA.keep fun r row h=>h.bl bd
   clear bd
   obtain ⟨wd,hwd⟩:∃ wd,wd=wr.drew:=⟨_,rfl⟩
   rw [←hwd] at hS X Z OY O q RA ⊢
   clear hwd
   refine wpAnyX_tq 0 ?_
   refine wpAnyX_tq 1 ?_
   refine wpAnyX_tq 2 ?_
   refine wpAnyX_tq 3 ?_
   refine wpAnyX_tq 4 ?_
   refine wpAnyX_tq 5 ?_
   refine wpAnyX_tq 6 ?_
   refine wpAnyX_tq 7 ?_
   refine wpAnyX_tq 8 ?_
   refine wpAnyX_tq 9 ?_
   refine wpAnyX_tq 10 ?_
   refine wpAnyX_oq 11 fun K hK=>?_
   go_wp2_with fail
   refine hK.out _ _ (Or.inr hS) (fun hS=>?_)
   replace hS:=hS.resolve_left (by decide)
   clear hK K
   refine wpAnyX_oq 12 fun K hK=>?_
   refine wpList_store_blk rfl 115 _ _ rfl (cells:=#[.slice Y at_ at_,.int .i64 (min s at_)]) rfl rfl Z rfl tape_size (all_one rfl) ?_
   intro w9 Z9 gr9 sz9
   have X9:=grown_blk X gr9 HNE.out.2
   have HP:=hide (show RecvPost l s w (.returned (.tuple #[.slice B m e,.agg #[.slice Y at_ at_,.int .i64 (min s at_)],.int .i64 0])) w9 from
    ⟨B,m,e,rows,Y,at_,by rw [HEND.out],by rw [HEND.out];exact (RA.keep fun r row h=>h.grown Z gr9).recs (own_grew O Z gr9).sl',by rw [HEND.out];exact ⟨by have h:=(own_grew OY Z gr9).sl'.take at_ (by omega) at_ (Nat.le_refl _) ha1.out;rwa [byteRows_take] at h,HU.out.take _,own_tp (own_grew OY Z gr9)⟩,below_grow q gr9 q.size HNE.out.1⟩)
   refine hK.out _ _ (Or.inr ⟨X9.cell 0,X9.cell 1⟩) (fun hS=>?_)
   replace hS:=hS.resolve_left (by decide)
   clear hK K gr9 sz9 RA O OY Z X q
   refine wpAnyX_oq 13 fun K hK=>?_
   go_wp2_with fail
   refine hK.out _ _ (Or.inr hS) (fun _=>?_)
   clear hK K hS X9 mi1 mi2 st_
   refine wpAnyX_done (by kernel_rfl) ?_ _
   (try clear cZ9 fZ9);have cZ9:=Z9.cell;have fZ9:=Z9.frozen
   go_wp2_with fail
   refine bodyPost_ret (v:=.tuple #[.slice B m e,.agg #[.slice Y at_ at_,.int .i64 (min s at_)],.int .i64 0]) ?_ rfl HP.out
   simp [results,Tryz.results136,go_sem, *]
end Go.Proofs.YtgdcofbnbiclmaaGreatDoor

