import Derived.Test.YtgdcofbnbiclmaaGreatDoorQCrwH
import Derived.Test.YtgdcofbnbiclmaaGreatDoorQHeldX
import Derived.Test.YtgdcofbnbiclmaaGreatDoorQTapI
import Derived.Deep.MidRow
namespace Go.Proofs.YtgdcofbnbiclmaaGreatDoor
set_option linter.all false
set_option maxHeartbeats 32000000
open Go.RowKit
def overQ:List Value→Nat→List Value→List Value
 | l,_,[]=>l
 | l,j,v :: r=>overQ (l.set j v) (j+1) r
theorem overQ_eq:∀ (vs l:List Value) (j:Nat),j+vs.length=l.length→overQ l j vs=l.take j ++ vs
 | [],l,j,h=>by simp [overQ,List.take_of_length_le (by simpa using Nat.le_of_eq h.symm:l.length≤j)]
 | v :: r,l,j,h=>by
  simp only [List.length_cons] at h
  show overQ (l.set j v) (j+1) r=_
  rw [overQ_eq r (l.set j v) (j+1) (by simp;omega),List.take_set]
  have:(l.take (j+1)).set j v=l.take j ++ [v]:=by
   rw [List.take_succ_eq_append_getElem (by omega),List.set_append_right _ _ (by rw [List.length_take];omega),List.length_take,Nat.min_eq_left (by omega),Nat.sub_self];rfl
  rw [this,List.append_assoc];rfl
theorem Raw.setC {K:Nat} {i:Nat} (hi:i<3):∀ (vs:List Value) (j:Nat) {w:World} {rs:T3 (List Value)} {v:T3 Value},j+vs.length≤33→Raw w K rs v→Raw (w.setCells K (i*33+j) vs) K (rs.set i (overQ (rs.get i) j vs)) v
 | [],j,w,rs,v,_,h=>by
  show Raw w K (rs.set i (rs.get i)) v
  rw [T3.set_get _ hi];exact h
 | u :: r,j,w,rs,v,hl,h=>by
  simp only [List.length_cons] at hl
  have h1:=h.set hi (j:=j) (by omega) u
  have h2:=Raw.setC hi r (j+1) (by omega) h1
  rw [T3.get_set _ hi,T3.set_set _ hi] at h2
  exact h2
theorem grown_cells (K:Nat):∀ (vs:List Value) (o:Nat) (w:World),w.grownBy (w.setCells K o vs) (some K)
 | [],o,w=>grown_refl _ _
 | v :: r,o,w=>grown_trans (grown_setRow_cell w K o v) (grown_cells K r (o+1) _)
theorem Raw.whole {w:World} {K:Nat} {i:Nat} {rs:T3 (List Value)} {v:T3 Value} (h:Raw w K rs v) (hi:i<3) (row:List Value) (hr:row.length=33):Raw (w.setCells K (i*33) row) K (rs.set i row) v:=by
 have:=Raw.setC hi row 0 (by omega) h
 have hl:(rs.get i).length=33:=by match i,hi with|0,_=>exact h.lx|1,_=>exact h.ly|2,_=>exact h.lz
 rw [overQ_eq row _ 0 (by omega)] at this
 simpa using this
theorem Raw.there {w:World} {K:Nat} {i:Nat} {rs:T3 (List Value)} {v:T3 Value} (h:Raw w K rs v) (hi:i<3):w.there K (i*33) 33:=by
 intro j hj
 have hl:(rs.get i).length=33:=by match i,hi with|0,_=>exact h.lx|1,_=>exact h.ly|2,_=>exact h.lz
 rw [h.cell hi hj,List.getElem?_eq_getElem (by omega)]
 exact ⟨rfl,h.froz _⟩
section
attribute [local irreducible] wpStill
variable {w w':World} {base Kb:Nat} {M:Nat→Prop} {s:Cw} {i:Nat} {a:T3 NA} {v:T3 Value}
theorem node_size:(Tryz.prog.info? 118).map (·.size)=some 33:=by kernel_rfl
theorem disk_sizeC:(Tryz.prog.info? 124).map (·.size)=some 11:=by kernel_rfl
theorem log_sizeC:(Tryz.prog.info? 43).map (·.size)=some 3:=by kernel_rfl
abbrev freC (me:Int) (d:Dk) (E C I:Value):Array Value:=#[.int .i64 me,.bool false,.int .i64 0,.int .i64 0,.int .i64 d.term,.int .i64 d.who,.int .i64 d.b,.int .i64 d.bt,I,.int .i64 d.si,.int .i64 d.st,.int .i64 d.m.now,E,.int .i64 d.m.next,C,.int .i64 d.m.now,E,.int .i64 d.m.next,C,.int .i64 d.si,.bool false,.bool false,.bool false,.int .i64 0,.int .i64 0,.int .i64 0,.int .i64 0,.int .i64 0,.int .i64 0,.slice none 0 0,.slice none 0 0,.int .i64 0,.slice none 0 0]
set_option maxRecDepth 100000 in
theorem fresh_any (me:Int) (d:Dk) (A B I:Option Addr) (n c k e m q:Nat) (w:World) :
  Calls Tryz.prog 47 #[.int .i64 me,.agg (dkC d (.slice A n c) (.slice B k e) (.slice I m q))] w fun ee w'=>ee = .returned (.agg (freC me d (.slice A n c) (.slice B k e) (.slice I m q)))∧Below w.heap.size w w':=by
 obtain ⟨tm,wh,si,st,⟨now,ents,nxt,clis⟩,b,bt,L⟩:=d
 have D0:Blk ((w.alloc (.cells #[.int .i64 tm,.int .i64 wh,.int .i64 si,.int .i64 st,.int .i64 now,.slice A n c,.int .i64 nxt,.slice B k e,.int .i64 b,.int .i64 bt,.slice I m q] 124)).alloc (.cells #[.int .i64 0,.bool false,.int .i64 0,.int .i64 0,.int .i64 0,.int .i64 0,.int .i64 0,.int .i64 0,.slice none 0 0,.int .i64 0,.int .i64 0,.int .i64 0,.slice none 0 0,.int .i64 0,.slice none 0 0,.int .i64 0,.slice none 0 0,.int .i64 0,.slice none 0 0,.int .i64 0,.bool false,.bool false,.bool false,.int .i64 0,.int .i64 0,.int .i64 0,.int .i64 0,.int .i64 0,.int .i64 0,.slice none 0 0,.slice none 0 0,.int .i64 0,.slice none 0 0] 118)) w.heap.size 124 #[.int .i64 tm,.int .i64 wh,.int .i64 si,.int .i64 st,.int .i64 now,.slice A n c,.int .i64 nxt,.slice B k e,.int .i64 b,.int .i64 bt,.slice I m q]:=(Blk.new w _ _).alloc _
 have Z0:Blk ((w.alloc (.cells #[.int .i64 tm,.int .i64 wh,.int .i64 si,.int .i64 st,.int .i64 now,.slice A n c,.int .i64 nxt,.slice B k e,.int .i64 b,.int .i64 bt,.slice I m q] 124)).alloc (.cells #[.int .i64 0,.bool false,.int .i64 0,.int .i64 0,.int .i64 0,.int .i64 0,.int .i64 0,.int .i64 0,.slice none 0 0,.int .i64 0,.int .i64 0,.int .i64 0,.slice none 0 0,.int .i64 0,.slice none 0 0,.int .i64 0,.slice none 0 0,.int .i64 0,.slice none 0 0,.int .i64 0,.bool false,.bool false,.bool false,.int .i64 0,.int .i64 0,.int .i64 0,.int .i64 0,.int .i64 0,.int .i64 0,.slice none 0 0,.slice none 0 0,.int .i64 0,.slice none 0 0] 118)) (w.heap.size+1) 118 #[.int .i64 0,.bool false,.int .i64 0,.int .i64 0,.int .i64 0,.int .i64 0,.int .i64 0,.int .i64 0,.slice none 0 0,.int .i64 0,.int .i64 0,.int .i64 0,.slice none 0 0,.int .i64 0,.slice none 0 0,.int .i64 0,.slice none 0 0,.int .i64 0,.slice none 0 0,.int .i64 0,.bool false,.bool false,.bool false,.int .i64 0,.int .i64 0,.int .i64 0,.int .i64 0,.int .i64 0,.int .i64 0,.slice none 0 0,.slice none 0 0,.int .i64 0,.slice none 0 0]:=Blk.new' _ _ _ (by simp)
 have q0:Below w.heap.size w ((w.alloc (.cells #[.int .i64 tm,.int .i64 wh,.int .i64 si,.int .i64 st,.int .i64 now,.slice A n c,.int .i64 nxt,.slice B k e,.int .i64 b,.int .i64 bt,.slice I m q] 124)).alloc (.cells #[.int .i64 0,.bool false,.int .i64 0,.int .i64 0,.int .i64 0,.int .i64 0,.int .i64 0,.int .i64 0,.slice none 0 0,.int .i64 0,.int .i64 0,.int .i64 0,.slice none 0 0,.int .i64 0,.slice none 0 0,.int .i64 0,.slice none 0 0,.int .i64 0,.slice none 0 0,.int .i64 0,.bool false,.bool false,.bool false,.int .i64 0,.int .i64 0,.int .i64 0,.int .i64 0,.int .i64 0,.int .i64 0,.slice none 0 0,.slice none 0 0,.int .i64 0,.slice none 0 0] 118)):=below_by
 show Calls Tryz.prog _ #[_,.agg #[.int .i64 tm,.int .i64 wh,.int .i64 si,.int .i64 st,.int .i64 now,.slice A n c,.int .i64 nxt,.slice B k e,.int .i64 b,.int .i64 bt,.slice I m q]] w _
 go_enter Tryz.func47,Tryz.ntmps47
 (try clear cD0 fD0);have cD0:=D0.cell;have fD0:=D0.frozen
 go_wp2_with (refine wpList_sto rfl 118 _ _ rfl (cells:=#[.int .i64 me,.bool false,.int .i64 0,.int .i64 0,.int .i64 tm,.int .i64 wh,.int .i64 b,.int .i64 bt,.slice I m q,.int .i64 si,.int .i64 st,.int .i64 now,.slice A n c,.int .i64 nxt,.slice B k e,.int .i64 now,.slice A n c,.int .i64 nxt,.slice B k e,.int .i64 si,.bool false,.bool false,.bool false,.int .i64 0,.int .i64 0,.int .i64 0,.int .i64 0,.int .i64 0,.int .i64 0,.slice none 0 0,.slice none 0 0,.int .i64 0,.slice none 0 0]) rfl rfl Z0 rfl node_size (all_one rfl) ?_;intro w6 Z6 gr6 sz6)
 have hlv:(loadVar 118 ⟨w.heap.size+1,0,none⟩).run Tryz.prog w6 = .ok (.agg #[.int .i64 me,.bool false,.int .i64 0,.int .i64 0,.int .i64 tm,.int .i64 wh,.int .i64 b,.int .i64 bt,.slice I m q,.int .i64 si,.int .i64 st,.int .i64 now,.slice A n c,.int .i64 nxt,.slice B k e,.int .i64 now,.slice A n c,.int .i64 nxt,.slice B k e,.int .i64 si,.bool false,.bool false,.bool false,.int .i64 0,.int .i64 0,.int .i64 0,.int .i64 0,.int .i64 0,.int .i64 0,.slice none 0 0,.slice none 0 0,.int .i64 0,.slice none 0 0]) w6:=run_loadVar_row w6 _ _ _ _ (0,0) _ Z6 Tryz.underlying118 rfl node_size
 refine bodyPost_ret (v:=.agg #[.int .i64 me,.bool false,.int .i64 0,.int .i64 0,.int .i64 tm,.int .i64 wh,.int .i64 b,.int .i64 bt,.slice I m q,.int .i64 si,.int .i64 st,.int .i64 now,.slice A n c,.int .i64 nxt,.slice B k e,.int .i64 now,.slice A n c,.int .i64 nxt,.slice B k e,.int .i64 si,.bool false,.bool false,.bool false,.int .i64 0,.int .i64 0,.int .i64 0,.int .i64 0,.int .i64 0,.int .i64 0,.slice none 0 0,.slice none 0 0,.int .i64 0,.slice none 0 0]) ?_ rfl ⟨rfl,below_sto q0 gr6 q0.size (by omega)⟩
 simp only [results,Tryz.results47]
 simp [asAddr,Act.put,hlv]
def freL (me:Int) (d:Dk) (E C I:Value):List Value:=(freC me d E C I).toList
theorem freL_one (me:Int) (d:Dk) (A B I:Option Addr) (n c k e m q:Nat):∀ u∈freL me d (.slice A n c) (.slice B k e) (.slice I m q),u.oneCell'=true:=by
 unfold freL;exact all_one rfl
theorem freL_len (me:Int) (d:Dk) (E C I:Value):(freL me d E C I).length=33:=rfl
theorem fresh_L (me:Int) (d:Dk) (A B I:Option Addr) (n c k e m q:Nat) (w:World) :
  Calls Tryz.prog 47 #[.int .i64 me,.agg (dkC d (.slice A n c) (.slice B k e) (.slice I m q))] w fun ee w'=>ee = .returned (.agg (freL me d (.slice A n c) (.slice B k e) (.slice I m q)).toArray)∧Below w.heap.size w w':=by
 refine (fresh_any me d A B I n c k e m q w).mono ?_
 rintro ee w' ⟨h1,h2⟩
 exact ⟨by rw [h1];unfold freL;simp only [Array.toArray_toList],h2⟩
end
section
attribute [local irreducible] wpStill
variable {w w':World} {base Kb:Nat} {M:Nat→Prop} {s:Cw} {i:Nat} {a:T3 NA} {v:T3 Value}
theorem left_of (n:Nd) {keep:Int} (k0:0≤keep) (hrk:∀ r∈n.recs,rkB r=true) {m:Nat} (hm:(m:Int)=min (n.syn+keep) (tapeB n.recs).length) :
  recA ((tapeB n.recs).take m)=(n.left keep,(tapeB (n.left keep)).length)∧((tapeB n.recs).take m).take (tapeB (n.left keep)).length=tapeB (n.left keep)∧min (m:Int) ((tapeB (n.left keep)).length:Int)=(tapeB (n.left keep)).length:=by
 have hml:m≤(tapeB n.recs).length:=by omega
 have e:n.left keep=n.recs.take (wholes n.recs m):=by unfold Nd.left;rw [←hm];rfl
 have h1:=recA_take (fun r hr=>rk_iff.1 (hrk r hr)) hml
 have h2:=wholes_in n.recs m
 refine ⟨by rw [h1,e],?_,by rw [e];omega⟩
 rw [e,List.take_take,Nat.min_eq_left h2,tape_take]
theorem TpSl.nil_ (w:World):TpSl w none 0 0 (tapeB []):=⟨Sl.nil_ w 1,(by intro u hu;cases hu),Tp.none_⟩
theorem Recs.small {g:Nat} {cs:Array Value} {A:Option Addr} {n c:Nat} {rs:List RK} {rows:List (List Value)} (h:Recs w A n c rs rows) (R:Blk w g 115 cs) (hs:cs.size<20) (hg:w.grownBy w' (some g)):Recs w' A n c rs rows:=by
 refine ⟨?_,h.len,fun k a b=>(h.at_ k a b).grown R hg⟩
 have h1:=h.sl
 refine ⟨h1.len,h1.nc,h1.cm,h1.nil,fun hn=>?_,h1.row⟩
 obtain ⟨b,off,e,hb,hc⟩:=h1.seg hn
 have hne:b≠g:=by
  rintro rfl
  obtain ⟨r0,hr0⟩:∃ r0,rows[0]?=some r0:=by
   cases hrw:rows with
   | nil=>have:=h1.len;rw [hrw] at this;simp at this;first|omega|exact absurd hrw hn|simp_all
   | cons x l=>exact ⟨x,rfl⟩
  have hl:=h1.row r0 (List.mem_of_getElem? hr0)
  have:=hc 0 r0 hr0 19 (r0[19]'(by omega)) (List.getElem?_eq_getElem (by omega))
  rw [R.cell,Array.getElem?_eq_none (by omega)] at this
  cases this
 refine ⟨b,off,e,Nat.lt_of_lt_of_le hb hg.size,fun i r hi j u hj=>?_⟩
 have h3:=hc i r hi j u hj
 unfold World.cell? at h3 ⊢
 rw [hg.block b hb (by simp;omega)]
 exact h3
set_option maxRecDepth 100000 in
theorem crash_any (h:Cr w base Kb M s) (hi:i<3) (keep:Int) (k0:0≤keep) (k1:keep≤400000) (h4:(tapeB (s.nd.get i).recs).length≤400000) (hrk:∀ r∈(s.nd.get i).recs,rkB r=true) (herr:(foldG newDk ((s.nd.get i).left keep)).2=0) :
  Calls Tryz.prog 108 #[.pointer (some ⟨Kb,0,none⟩),.pointer (some ⟨Kb,i*33,none⟩),.int .i64 keep] w (Does base Kb M (s.put i ((s.nd.get i).crash keep)) w):=by
 have HC:=hide h
 obtain ⟨a,v,H,rfl⟩:=h
 obtain ⟨A,k,c,hta,hT⟩:=(H.rep i hi).ta
 have n30:=H.raw.nd hi 30 (by omega)
 have n31:=H.raw.nd hi 31 (by omega)
 simp only [nodeC,List.getElem?_cons_zero,List.getElem?_cons_succ,hta] at n30 n31
 have hsyn:=syn_le (s.nd.get i)
 have hk:=hT.len
 have HCR:=hide (Crash_any (tapeB (s.nd.get i).recs) A k c (s.nd.get i).syn keep w hT (by omega) (by omega) h4 k0 (by omega))
 have HLF:=hide (fun m hm=>left_of (s.nd.get i) k0 hrk (m:=m) hm)
 have HLK:=hide (fun r (hr:r∈(s.nd.get i).left keep)=>rk_iff.1 (hrk r (by unfold Nd.left at hr;exact List.mem_of_mem_take hr)))
 have HT4:=hide (show ∀ m:Nat,((tapeB (s.nd.get i).recs).take m).length≤400000 from fun m=>by rw [List.length_take];omega)
 have HX:=hide (show (s.nd.get i).crash keep=freshN (s.nd.get i).me (foldG newDk ((s.nd.get i).left keep)).1 ((s.nd.get i).left keep) (s.nd.get i).clock from rfl)
 have HFD:=hide (fun (w:World) (A:Option Addr) (n c:Nat) (rows:List (List Value)) (hR:Recs w A n c ((s.nd.get i).left keep) rows)=>Fold_any ((s.nd.get i).left keep) HLK.out A n c rows w hR)
 generalize (s.nd.get i).crash keep=ND at *
 generalize hLL:(s.nd.get i).left keep=LF at *
 generalize hFF:foldG newDk LF=FF at *
 obtain ⟨dd,de⟩:=FF
 simp only at herr HX
 subst herr
 clear hLL hFF hT hrk HLK
 go_enter Tryz.func108,Tryz.ntmps108
 go_wp2_with fail
 refine HCR.out.mono ?_
 rintro e w1 ⟨m,Y,d,hm,rfl,T1,b1⟩
 obtain ⟨hr1,hr2,hr3⟩:=HLF.out m hm
 have hm4:=HT4.out m
 have HR:=hide (Recover_any ((tapeB (s.nd.get i).recs).take m) Y m d m)
 have HR1:=hide hr1
 have HR2:=hide hr2
 have HR3:=hide hr3
 clear HCR HLF HT4 hr1 hr2 hr3 n30 n31 hta hm hk hsyn
 have V0:=Blk.new w1 115 #[.slice Y m d,.int .i64 (m:Int)]
 go_upto_region 1 with fail
 obtain ⟨w2,hw2⟩:∃ w2,w2=w1.alloc (.cells #[.slice Y m d,.int .i64 (m:Int)] 115):=⟨_,rfl⟩
 have b2:Below w1.heap.size w1 w2:=by rw [hw2];exact below_by
 have q2:=bstep b1 b2
 have T2:=T1.bl b2
 rw [←hw2] at V0 ⊢
 have hv2:=V0.lt
 have hgv:w.heap.size≤w1.heap.size:=b1.size
 clear hw2 b2 T1 b1
 (try clear cV0 fV0);have cV0:=V0.cell;have fV0:=V0.frozen
 go_wp2_with fail
 refine (HR.out w2 T2 (by omega) (by have:=T2.len;rw [this];exact Int.le_refl _) hm4).mono ?_
 rintro e w3 ⟨A3,n3,c3,rows3,Y3,d3,rfl,R3,T3,b3⟩
 rw [HR1.out] at R3 T3
 rw [HR1.out]
 simp only at R3 T3
 rw [HR2.out] at T3
 rw [HR3.out]
 have V3:=V0.below' b3
 have q3:=bstep q2 b3
 have hv3:=V3.lt
 have HTL:=hide T3
 have HRL:=hide R3
 clear cV0 fV0 V0 T2 HR HR1 HR2 HR3 hm4 b3 q2 R3 T3
 (try clear cV3 fV3);have cV3:=V3.cell;have fV3:=V3.frozen
 go_upto_region 2 with fail
 have g0:=grown_trans (grown_setRow_cell w3 w1.heap.size 0 (.slice Y3 (tapeB LF).length d3)) (grown_setRow_cell _ w1.heap.size 1 (.int .i64 ((tapeB LF).length:Int)))
 have V4:=(V3.set' (i:=0) (u:=.slice Y3 (tapeB LF).length d3) rfl).set' (i:=1) (u:=.int .i64 ((tapeB LF).length:Int)) rfl
 obtain ⟨w4,hw4⟩:∃ w4,w4=(w3.setCell ⟨w1.heap.size,0,none⟩ (.slice Y3 (tapeB LF).length d3)).setCell ⟨w1.heap.size,1,none⟩ (.int .i64 ((tapeB LF).length:Int)):=⟨_,rfl⟩
 rw [←hw4] at g0 V4 ⊢
 have T4:=hide (HTL.out.grown V3 g0)
 have R4:=hide (HRL.out.small V3 (by simp) g0)
 have q4:=below_sto q3 g0 q3.size hgv
 clear hw4 g0 HTL HRL V3 cV3 fV3 q3 hv2 hv3
 go_wp2_with fail
 refine (HFD.out w4 _ _ _ _ R4.out).mono ?_
 rintro e w5 ⟨hf0,-,b5⟩
 obtain ⟨E5,e1,e2,C5,c1,c2,I5,i1,i2,rfl,hE5,hC5,hI5⟩:=hf0 rfl
 have V5:=V4.below' b5
 have q5:=bstep q4 b5
 have T5:=hide (T4.out.bl b5)
 have HE5:=hide hE5
 have HC5:=hide hC5
 have HI5:=hide hI5
 have hd5:=hide (Nat.le_refl w5.heap.size)
 clear R4 T4 V4 q4 b5 HFD hE5 hC5 hI5
 have qa:Below w5.heap.size w5 (w5.alloc (.cells #[.int .i64 0,.int .i64 0,.int .i64 0,.int .i64 0,.int .i64 0,.slice none 0 0,.int .i64 0,.slice none 0 0,.int .i64 0,.int .i64 0,.slice none 0 0] 124)):=below_by
 go_upto_region 3 with (refine wpList_sto rfl 124 _ _ rfl (cells:=#[.int .i64 dd.term,.int .i64 dd.who,.int .i64 dd.si,.int .i64 dd.st,.int .i64 dd.m.now,.slice E5 e1 e2,.int .i64 dd.m.next,.slice C5 c1 c2,.int .i64 dd.b,.int .i64 dd.bt,.slice I5 i1 i2]) rfl rfl (Blk.new w5 _ _) rfl disk_sizeC (all_one rfl) ?_;intro w6 D6 gr6 sz6)
 have b6:=below_sto qa gr6 qa.size (Nat.le_refl _)
 have V6:=V5.below' b6
 have q6:=bstep q5 b6
 have T6:=hide (T5.out.bl b6)
 have HE6:=hide (HE5.out.bl b6)
 have HC6:=hide (HC5.out.bl b6)
 have HI6:=hide (HI5.out.bl b6)
 have hd6:=D6.lt
 have hdw:w.heap.size≤w5.heap.size:=q5.size
 have H6:=H.bl q6
 have m2:=H6.raw.nd hi 2 (by omega)
 simp only [nodeC,List.getElem?_cons_zero,List.getElem?_cons_succ] at m2
 have m0:=H6.raw.nd0 hi
 clear gr6 sz6 qa b6 V5 q5 T5 HE5 HC5 HI5 hd5 H
 go_wp2_with fail
 obtain ⟨w7,hw7⟩:∃ w7,w7=w6.drew:=⟨_,rfl⟩
 have b7:Below w6.heap.size w6 w7:=by rw [hw7];exact (Below.refl _ _).drew
 have H7:=H6.bl b7
 have D7:=D6.below' b7
 have V7:=V6.below' b7
 have q7:=bstep q6 b7
 have hK7:=H7.raw.blk.lt
 have g0:=(b7.cell (p:=⟨Kb,i*33,none⟩) H6.raw.blk.lt).trans m0
 refine wp_region_x (l:=[8]) (S:=fun w'=>w'.cell? ⟨Kb,i*33,none⟩=some (.int .i64 (s.nd.get i).me)∧Blk w' w5.heap.size 124 #[.int .i64 dd.term,.int .i64 dd.who,.int .i64 dd.si,.int .i64 dd.st,.int .i64 dd.m.now,.slice E5 e1 e2,.int .i64 dd.m.next,.slice C5 c1 c2,.int .i64 dd.b,.int .i64 dd.bt,.slice I5 i1 i2]) (by kernel_rfl) (by rw [←hw7];exact ⟨g0,D7⟩) (fun hS=>?_)
 rw [←hw7] at hS ⊢
 have HS:=hide (fun w' (b':Below w7.heap.size w7 w')=>And.intro ((b'.cell (p:=⟨Kb,i*33,none⟩) hK7).trans g0) (D7.below' b'))
 have T7:=hide (T6.out.bl b7)
 have HE7:=hide (HE6.out.bl b7)
 have HC7:=hide (HC6.out.bl b7)
 have HI7:=hide (HI6.out.bl b7)
 clear hw7 m0 D6 V6 q6 T6 HE6 HC6 HI6 H6 b7 g0 m2
 refine wpAnyX_tq 0 ?_
 refine wpAnyX_tq 1 ?_
 refine wpAnyX_tq 2 ?_
 refine wpAnyX_tq 3 ?_
 refine wpAnyX_tq 4 ?_
 refine wpAnyX_tq 5 ?_ (hy:=yieldsIf_lod (by rfl) 124 _ rfl rfl (fun w' h=>h.2) Tryz.underlying124 rfl disk_sizeC)
 clear hS
 have HFR:=hide (fresh_L (s.nd.get i).me dd E5 C5 I5 e1 e2 c1 c2 i1 i2 w7)
 refine wpAnyX_oq 6 fun K hK=>?_
 go_wp2_with fail
 refine HFR.out.mono ?_
 rintro e w8 ⟨rfl,b8⟩
 go_wp2_with fail
 refine hK.out _ _ (Or.inr (HS.out _ b8)) (fun hS=>?_)
 clear hK K HFR
 replace hS:=hS.resolve_left (by decide)
 refine wpAnyX_ps 7 ?_
 clear hS HS
 have H8:=H7.bl b8
 have V8:=V7.below' b8
 have q8:=bstep q7 b8
 have T8:=hide (T7.out.bl b8)
 have HE8:=hide (HE7.out.bl b8)
 have HC8:=hide (HC7.out.bl b8)
 have HI8:=hide (HI7.out.bl b8)
 have HTH:=hide (H8.raw.there hi)
 have R0:=H8.raw
 rw [←T3.set_get (rowsOf s.nd a) hi,rows_get hi] at R0
 have R1:=R0.whole hi (freL (s.nd.get i).me dd (.slice E5 e1 e2) (.slice C5 c1 c2) (.slice I5 i1 i2)) (freL_len _ _ _ _ _)
 rw [T3.set_set _ hi] at R1
 have hV8:=V8.lt
 have hgrn:=grown_cells Kb (freL (s.nd.get i).me dd (.slice E5 e1 e2) (.slice C5 c1 c2) (.slice I5 i1 i2)) (i*33) w8
 clear R0 H7 V7 q7 T7 HE7 HC7 HI7 D7 b8
 refine wpAnyX_oq 8 fun K hK=>?_
 refine wpList_store_mid rfl 118 _ _ rfl Kb (i*33) (freL (s.nd.get i).me dd (.slice E5 e1 e2) (.slice C5 c1 c2) (.slice I5 i1 i2)).toArray rfl rfl HTH.out node_size (all_oneCell_toArray (freL_one _ _ _ _ _ _ _ _ _ _ _)) ?_
 refine hK.out _ _ (Or.inl (by decide)) (fun _=>?_)
 clear hK K
 refine wpAnyX_done (by kernel_rfl) ?_ _
 obtain ⟨w9,hw9⟩:∃ w9,w9=w8.setCells Kb (i*33) (freL (s.nd.get i).me dd (.slice E5 e1 e2) (.slice C5 c1 c2) (.slice I5 i1 i2)):=⟨_,rfl⟩
 rw [show ((freL (s.nd.get i).me dd (.slice E5 e1 e2) (.slice C5 c1 c2) (.slice I5 i1 i2))).toArray.toList=(freL (s.nd.get i).me dd (.slice E5 e1 e2) (.slice C5 c1 c2) (.slice I5 i1 i2)) from rfl,←hw9]
 rw [←hw9] at R1 hgrn
 clear hw9
 obtain ⟨H9,k9⟩:=H8.upd (n':=freshN (s.nd.get i).me dd [] 0) (x':={ lg:=.slice I5 i1 i2,se:=.slice E5 e1 e2,sc:=.slice C5 c1 c2,me:=.slice E5 e1 e2,mc:=.slice C5 c1 c2,wa:=.slice none 0 0,ta:=.slice none 0 0,ou:=.slice none 0 0 }) hi R1 hgrn
  {lg:=⟨I5,i1,i2,rfl,HI8.out⟩,se:=⟨E5,e1,e2,rfl,HE8.out⟩,sc:=⟨C5,c1,c2,rfl,HC8.out⟩,me:=⟨E5,e1,e2,rfl,HE8.out⟩,mc:=⟨C5,c1,c2,rfl,HC8.out⟩,ta:=⟨none,0,0,rfl,TpSl.nil_ _⟩,wa:=OwnR.nil,ou:=OwnR.nil } (.inr rfl) (.inr rfl)
 have K9:=hide ((Keep.of q8).trans k9)
 have hMv:¬ Mut Kb a v w1.heap.size:=fun hm=>by have:=(HC.out.lt hm).1;omega
 have V9:Blk w9 w1.heap.size 115 _:=k9.loc V8 hMv
 have T9:=hide (T8.out.fri k9.fr)
 have hv9:=V9.lt
 have HH9:=hide H9
 have hX0:freshN (s.nd.get i).me dd [] 0={ ND with recs:=[],sn:=0,clock:=0 }:=by rw [HX.out];rfl
 have r30:=H9.raw.nd hi 30 (by omega)
 have r31:=H9.raw.nd hi 31 (by omega)
 have r2:=H9.raw.nd hi 2 (by omega)
 rw [Cw.get_put hi,T3.get_set _ hi] at r30 r31 r2
 simp only [nodeC,List.getElem?_cons_zero,List.getElem?_cons_succ] at r30 r31 r2
 have f30:=H9.raw.froz (i*33+30)
 have f31:=H9.raw.froz (i*33+31)
 have f2:=H9.raw.froz (i*33+2)
 have R0:=H9.raw
 rw [←T3.set_get (rowsOf _ _) hi,rows_get hi] at R0
 rw [Cw.get_put hi,T3.get_set _ hi] at R0
 have R2:=((R0.put hi 30 (by omega) (.slice Y3 (tapeB LF).length d3)).putp hi 31 (by omega) (i*33+30+1) (by omega) (.int .i64 ((tapeB LF).length:Int))).put hi 2 (by omega) (.int .i64 (s.nd.get i).clock)
 have hrep:=H9.rep i hi
 rw [Cw.get_put hi,T3.get_set _ hi] at hrep
 obtain ⟨Ha,ka⟩:=H9.upd (n':=freshN (s.nd.get i).me dd LF (s.nd.get i).clock) (x':={ lg:=.slice I5 i1 i2,se:=.slice E5 e1 e2,sc:=.slice C5 c1 c2,me:=.slice E5 e1 e2,mc:=.slice C5 c1 c2,wa:=.slice none 0 0,ta:=.slice Y3 (tapeB LF).length d3,ou:=.slice none 0 0 }) hi (by
  have e:((freshN (s.nd.get i).me dd LF (s.nd.get i).clock).syn:Int)=(tapeB LF).length:=by unfold Nd.syn freshN;simp only [List.take_length]
  rw [show nodeC (freshN (s.nd.get i).me dd LF (s.nd.get i).clock) { lg:=.slice I5 i1 i2,se:=.slice E5 e1 e2,sc:=.slice C5 c1 c2,me:=.slice E5 e1 e2,mc:=.slice C5 c1 c2,wa:=.slice none 0 0,ta:=.slice Y3 (tapeB LF).length d3,ou:=.slice none 0 0 }=((((nodeC (freshN (s.nd.get i).me dd [] 0) { lg:=.slice I5 i1 i2,se:=.slice E5 e1 e2,sc:=.slice C5 c1 c2,me:=.slice E5 e1 e2,mc:=.slice C5 c1 c2,wa:=.slice none 0 0,ta:=.slice none 0 0,ou:=.slice none 0 0 }).set 30 (.slice Y3 (tapeB LF).length d3)).set 31 (.int .i64 ((tapeB LF).length:Int))).set 2 (.int .i64 (s.nd.get i).clock)) by
   simp only [nodeC,e];rfl]
  exact R2) (grown_trans (grown_trans (grown_setRow_cell w9 Kb _ _) (grown_setRow_cell _ Kb _ _)) (grown_setRow_cell _ Kb _ _)) { hrep with ta:=⟨Y3,(tapeB LF).length,d3,rfl,T9.out⟩ } (.inl (by rw [T3.get_set _ hi])) (.inl (by rw [T3.get_set _ hi]))
 rw [Cw.put_put hi,←HX.out] at Ha
 have HA:=hide Ha
 have KA:=hide (K9.out.trans ka)
 clear R0 R1 R2 hrep Ha ka k9 H9 HH9 hX0 hgrn H8 V8 HTH K9
 (try clear cV9 fV9);have cV9:=V9.cell;have fV9:=V9.frozen
 go_wp2_with fail
 go_end0
 exact ⟨rfl,_,⟨_,_,HA.out,rfl⟩,KA.out⟩
end
end Go.Proofs.YtgdcofbnbiclmaaGreatDoor

