import Derived.Test.YtgdcofbnbiclmaaGreatDoorQCrwA
import Derived.Test.YtgdcofbnbiclmaaGreatDoorQCrwQ
import Derived.Test.YtgdcofbnbiclmaaGreatDoorQIdx
import Derived.Test.YtgdcofbnbiclmaaGreatDoorQWire
import Derived.Test.YtgdcofbnbiclmaaGreatDoorQHold
import Derived.Lib.Overlaps
import Derived.Deep.RegionLaw
import Derived.Deep.DrawnRows
namespace Go.Proofs.YtgdcofbnbiclmaaGreatDoor
set_option linter.all false
set_option maxHeartbeats 32000000
open Go.RowKit
section
variable {w w':World} {base Kb:Nat} {M:Nat→Prop} {s:Cw} {i:Nat} {a:T3 NA} {v:T3 Value}
theorem Raw.putp {K:Nat} {rs:T3 (List Value)} {row:List Value} (h:Raw w K (rs.set i row) v) (hi:i<3) (j:Nat) (hj:j<33) (p:Nat) (hp:p=i*33+j) (u:Value):Raw (w.setCell ⟨K,p,none⟩ u) K (rs.set i (row.set j u)) v:=by
 subst hp;exact h.put hi j hj u
end
section
variable {w w':World} {base Kb:Nat} {M:Nat→Prop} {s:Cw} {i:Nat} {a:T3 NA} {v:T3 Value}
theorem Cr.nlog (h:Cr w base Kb M s) (hi:i<3):∃ A k c,w.cell? ⟨Kb,i*33+6,none⟩=some (.int .i64 (s.nd.get i).b)∧w.cell? ⟨Kb,i*33+6+1,none⟩=some (.int .i64 (s.nd.get i).bt)∧w.cell? ⟨Kb,i*33+6+2,none⟩=some (.slice A k c)∧OI w A k c (s.nd.get i).L:=by
 obtain ⟨a,v,H,rfl⟩:=h
 obtain ⟨A,k,c,hlg,hO⟩:=(H.rep i hi).lg
 have n6:=H.raw.nd hi 6 (by omega)
 have n7:=H.raw.nd hi 7 (by omega)
 have n8:=H.raw.nd hi 8 (by omega)
 simp only [nodeC,List.getElem?_cons_zero,List.getElem?_cons_succ,hlg] at n6 n7 n8
 exact ⟨A,k,c,n6,n7,n8,hO⟩
theorem Cr.nterm (h:Cr w base Kb M s) (hi:i<3):w.cell? ⟨Kb,i*33+4,none⟩=some (.int .i64 (s.nd.get i).term):=by
 obtain ⟨a,v,H,rfl⟩:=h;exact H.raw.nd hi 4 (by omega)
theorem Cr.nrole (h:Cr w base Kb M s) (hi:i<3):w.cell? ⟨Kb,i*33+3,none⟩=some (.int .i64 (s.nd.get i).role):=by
 obtain ⟨a,v,H,rfl⟩:=h;exact H.raw.nd hi 3 (by omega)
theorem Cr.nup (h:Cr w base Kb M s) (hi:i<3):w.cell? ⟨Kb,i*33+1,none⟩=some (.bool (s.nd.get i).up):=by
 obtain ⟨a,v,H,rfl⟩:=h;exact H.raw.nd hi 1 (by omega)
theorem Cr.ncommit (h:Cr w base Kb M s) (hi:i<3):w.cell? ⟨Kb,i*33+19,none⟩=some (.int .i64 (s.nd.get i).commit):=by
 obtain ⟨a,v,H,rfl⟩:=h;exact H.raw.nd hi 19 (by omega)
theorem Cr.nme (h:Cr w base Kb M s) (hi:i<3):w.cell? ⟨Kb,i*33,none⟩=some (.int .i64 (s.nd.get i).me):=by
 obtain ⟨a,v,H,rfl⟩:=h;exact H.raw.nd0 hi
theorem Cr.frz (h:Cr w base Kb M s) (p:Nat):w.frozen? ⟨Kb,p,none⟩=false:=by
 obtain ⟨a,v,H,rfl⟩:=h;exact H.raw.froz p
theorem Cr.none_ (h:Cr w base Kb M s):¬ M w.heap.size:=fun hm=>by have:=(h.lt hm).1;omega
end
section
attribute [local irreducible] wpStill
variable {w w':World} {base Kb:Nat} {M:Nat→Prop} {s:Cw} {i:Nat} {a:T3 NA} {v:T3 Value}
theorem told_info:(Tryz.prog.info? 78).map (fun i=>(i.zero,i.size,i.bytes))=some (some (.agg #[.int .i64 0,.int .i64 0,.int .i64 0,.int .i64 0,.string { data:=#[] },.string { data:=#[] },.string { data:=#[] },.int .i64 0,.int .i64 0,.string { data:=#[] },.int .i64 0,.slice none 0 0]),12,144):=by kernel_rfl
theorem call_size:(Tryz.prog.info? 38).map (·.size)=some 7:=by kernel_rfl
def callCells (c:CallM):List Value:=[.int .i64 c.client,.int .i64 c.seq,.int .i64 c.cmd.kind,.string c.cmd.key,.string c.cmd.field,.string c.cmd.text,.int .i64 c.cmd.n]
theorem Raw.toldc (h:Raw w Kb (rowsOf s.nd a) v):w.cell? ⟨Kb,100,none⟩=some v.y:=h.top.2.1
set_option maxRecDepth 100000 in
theorem answer_any (h:Cr w base Kb M s) (hi:i<3) (c:CallM) (er:Int) (hlen:s.told.length≤900000000000) :
  Calls Tryz.prog 88 #[.pointer (some ⟨Kb,0,none⟩),.pointer (some ⟨Kb,i*33,none⟩),.agg (callCells c).toArray,.int .i64 er] w (Does base Kb M (s.answer i c er) w):=by
 obtain ⟨a,v,H,rfl⟩:=h
 obtain ⟨ci,sq,⟨ck,cy,cf,ct,cn⟩⟩:=c
 have n0:=H.raw.nd0 hi
 have n100:=H.raw.toldc
 have hK:=H.raw.blk.lt
 obtain ⟨A,d,rows,htd,hO,hR,hS⟩:=H.tl.form
 rw [htd] at n100
 have hn:=hS.len
 have B0:=Blk.new w 38 #[.int .i64 ci,.int .i64 sq,.int .i64 ck,.string cy,.string cf,.string ct,.int .i64 cn]
 have q0:Below w.heap.size w (w.alloc (.cells #[.int .i64 ci,.int .i64 sq,.int .i64 ck,.string cy,.string cf,.string ct,.int .i64 cn] 38)):=below_by
 obtain ⟨me,hme⟩:∃ me,me=(s.nd.get i).me:=⟨_,rfl⟩
 rw [←hme] at n0
 have HX:=hide (show s.answer i ⟨ci,sq,⟨ck,cy,cf,ct,cn⟩⟩ er={ s with told:=s.told ++ [⟨me,⟨ci,sq,⟨ck,cy,cf,ct,cn⟩⟩,⟨er,emp,0,[]⟩⟩] } by rw [hme];rfl)
 generalize hX:s.answer i ⟨ci,sq,⟨ck,cy,cf,ct,cn⟩⟩ er=X at *
 have HX:=hide HX.out
 clear hX hme hS
 show Calls Tryz.prog _ #[_,_,.agg #[.int .i64 ci,.int .i64 sq,.int .i64 ck,.string cy,.string cf,.string ct,.int .i64 cn],_] w _
 go_enter Tryz.func88,Tryz.ntmps88
 go_upto_region 1 with fail
 obtain ⟨w1,hw1⟩:∃ w1,w1=(w.alloc (.cells #[.int .i64 ci,.int .i64 sq,.int .i64 ck,.string cy,.string cf,.string ct,.int .i64 cn] 38)).drew:=⟨_,rfl⟩
 have q2:Below w.heap.size w w1:=by rw [hw1];exact q0.drew
 have B2:Blk w1 w.heap.size 38 #[.int .i64 ci,.int .i64 sq,.int .i64 ck,.string cy,.string cf,.string ct,.int .i64 cn]:=by rw [hw1];exact B0.drew
 have H1:=H.bl q2
 have g100:w1.cell? ⟨Kb,100,none⟩=some (.slice A s.told.length d):=by have:=H1.raw.toldc;rwa [htd] at this
 have g0:=(q2.cell (p:=⟨Kb,i*33,none⟩) hK).trans n0
 refine wp_region_x (l:=[17]) (S:=fun w'=>w'.cell? ⟨Kb,100,none⟩=some (.slice A s.told.length d)∧w'.cell? ⟨Kb,i*33,none⟩=some (.int .i64 me)∧Blk w' w.heap.size 38 #[.int .i64 ci,.int .i64 sq,.int .i64 ck,.string cy,.string cf,.string ct,.int .i64 cn]) (by kernel_rfl) (by rw [←hw1];exact ⟨g100,g0,B2⟩) (fun hS=>?_)
 rw [←hw1] at hS ⊢
 clear hw1 B0 q0 n0 n100
 refine wpAnyX_tq 0 ?_
 refine wpAnyX_tq 1 ?_
 refine wpAnyX_tq 2 ?_
 refine wpAnyX_tq 3 ?_
 refine wpAnyX_tq 4 ?_
 refine wpAnyX_tq 5 ?_
 refine wpAnyX_tq 6 ?_
 refine wpAnyX_tq 7 ?_
 refine wpAnyX_tq 8 ?_
 refine wpAnyX_tq 9 ?_ (hy:=yieldsIf_lod (by rfl) 38 _ rfl rfl (fun w' h=>h.2.2) Tryz.underlying38 rfl call_size)
 refine wpAnyX_tq 10 ?_
 refine wpAnyX_tq 11 ?_
 refine wpAnyX_tq 12 ?_
 have HR1:=H1.raw
 have hK1:=H1.raw.blk.lt
 have hl1:=B2.lt
 have hb1:=H1.bw
 have O1:=H1.tl
 rw [htd] at O1
 obtain ⟨rows1,O1,R1⟩:=O1
 clear hS
 refine wpAnyX_oq 13 fun K hK=>?_
 go_wp2_with fail
 refine hK.out _ _ (Or.inr ⟨(World.cell?_alloc_lt w1 _ _ hK1).trans g100,(World.cell?_alloc_lt w1 _ _ hK1).trans g0,B2.alloc _⟩) (fun hS=>?_)
 clear hK K
 refine wpAnyX_oq 14 fun K hK=>?_
 refine wpList_push_k rfl _ _ _ rfl Tryz.underlying29 told_info rfl (by decide) (by rfl) O1 rfl (by rfl) (row:=#[.int .i64 me,.int .i64 ci,.int .i64 sq,.int .i64 ck,.string cy,.string cf,.string ct,.int .i64 cn,.int .i64 er,.string { data:=#[] },.int .i64 0,.slice none 0 0]) rfl (all_one rfl) (by unfold maxLen;omega) (by omega) hb1 ?_
 intro A5 c5 w5 O5 g5 hn5
 have P5:=Pushed.of O1 g5 hn5
 have R5:Raw w5 Kb (rowsOf s.nd a) v:=HR1.same (P5.blk Kb hK1 (fun e=>H1.notK (j:=7) (by omega) (by show v.y.ownBlock=_;rw [htd];exact e) rfl))
 have B5:Blk w5 w.heap.size 38 #[.int .i64 ci,.int .i64 sq,.int .i64 ck,.string cy,.string cf,.string ct,.int .i64 cn]:=(P5.blk _ hl1 (fun e=>by have:=(H.slot (j:=7) (by omega) (by show v.y.ownBlock=_;rw [htd];exact e)).1;omega)).trans B2
 have M5:TSl w5 base (.slice A5 (s.told.length+1) c5) (s.told ++ [⟨me,⟨ci,sq,⟨ck,cy,cf,ct,cn⟩⟩,⟨er,emp,0,[]⟩⟩]):=⟨_,O5,(R1.mono fun _ _ h=>h.fri P5.fr).app (Rws.one _ _ ⟨none,0,0,rfl,TxSl.nil _⟩)⟩
 have g5':w5.cell? ⟨Kb,100,none⟩=some (.slice A s.told.length d):=by have:=R5.toldc;rwa [htd] at this
 have g50:w5.cell? ⟨Kb,i*33,none⟩=some (.int .i64 me):=by have h1:=R5.nd0 hi;have h2:=H1.raw.nd0 hi;rw [h1,←h2];exact g0
 have f5:=R5.froz 100
 refine hK.out _ _ (Or.inr ⟨g5',g50,B5⟩) (fun hS=>?_)
 clear hK K g5 hn5 O5 O1 R1
 replace hS:=hS.resolve_left (by decide)
 refine wpAnyX_ps 15 ?_
 refine wpAnyX_ps 16 ?_
 clear hS
 refine wpAnyX_oq 17 fun K hK=>?_
 go_wp2_with fail
 refine hK.out _ _ (Or.inl (by decide)) (fun _=>?_)
 clear hK K
 refine wpAnyX_done (by kernel_rfl) ?_ _
 go_wp2_with fail
 go_end0
 obtain ⟨h1,h2⟩:=H1.push_told (by rw [htd];exact P5) M5
 exact ⟨rfl,_,by rw [HX.out];exact ⟨_,_,h1,rfl⟩,(Keep.of q2).trans h2⟩
end
section
attribute [local irreducible] wpStill
variable {w w':World} {base Kb:Nat} {M:Nat→Prop} {s:Cw} {i:Nat} {a:T3 NA} {v:T3 Value}
theorem msg_range {A:Option Addr} {n c:Nat} {rows:List (List Value)} {l:List Msg} (h:Sl w 15 A n c rows) (hR:Rws (MsgAt w) l rows) {k:Nat} (hk:k<l.length) :
  ∃ b off row,A=some ⟨b,off,none⟩∧b<w.heap.size∧w.rangeAt b (off+k*15) row∧MsgAt w l[k] row:=by
 obtain ⟨r,hr,hm⟩:=hR.at_ hk
 have hk':k<rows.length:=by rw [←hR.len];exact hk
 obtain ⟨b,off,rfl,hb,hc⟩:=h.seg.at_ (i:=k) hk'
 rw [List.getElem?_eq_getElem hk'] at hr
 injection hr with hr
 subst hr
 refine ⟨b,off,rows[k],rfl,hb,fun j v hv=>?_,hm⟩
 rw [Nat.add_assoc]
 exact hc j v hv
def awayK (away out:List Msg) (k:Nat):List Msg:=away ++ (out.take k).take (300 - away.length)
theorem awayK_step (away out:List Msg) {k:Nat} (hk:k<out.length):awayK away out (k+1)=if (awayK away out k).length<300 then awayK away out k ++ [out[k]] else awayK away out k:=by
 unfold awayK
 rw [List.length_append,List.length_take,List.length_take]
 split
 ·rename_i h
  rw [List.take_take,List.take_take,Nat.min_eq_right (by omega),Nat.min_eq_right (by omega),List.take_succ_eq_append_getElem hk,List.append_assoc]
 ·rename_i h
  rw [List.take_take,List.take_take,Nat.min_eq_left (by omega),Nat.min_eq_left (by omega)]
theorem sync_eq (s:Cw) (i:Nat):s.sync i={ s with nd:=s.nd.set i { s.nd.get i with sn:=(s.nd.get i).recs.length,out:=[] },away:=awayK s.away (s.nd.get i).out (s.nd.get i).out.length }:=by
 unfold Cw.sync awayK
 rw [List.take_length]
set_option maxRecDepth 100000 in
theorem sync_any (h:Cr w base Kb M s) (hi:i<3) (h4:(tapeB (s.nd.get i).recs).length≤400000) (hsn:(s.nd.get i).sn≤(s.nd.get i).recs.length) :
  Calls Tryz.prog 107 #[.pointer (some ⟨Kb,0,none⟩),.pointer (some ⟨Kb,i*33,none⟩)] w (Does base Kb M (s.sync i) w):=by
 obtain ⟨a,v,H,rfl⟩:=h
 obtain ⟨A,k,c,hta,hT⟩:=(H.rep i hi).ta
 obtain ⟨A2,c2,rows,hou,hO,hR,hS⟩:=(H.rep i hi).ou.form
 have n30:=H.raw.nd hi 30 (by omega)
 have n31:=H.raw.nd hi 31 (by omega)
 simp only [nodeC,List.getElem?_cons_zero,List.getElem?_cons_succ,hta] at n30 n31
 have hsyn:=syn_le (s.nd.get i)
 have hk:=hT.len
 have HSY:=hide (Sync_any (tapeB (s.nd.get i).recs) A k c (s.nd.get i).syn w hT (by omega) (by omega) h4)
 have HSE:=hide (sync_eq s i)
 generalize hX:s.sync i=X at *
 clear hX hT hsyn hS hO hR
 go_enter Tryz.func107,Tryz.ntmps107
 go_wp2_with fail
 refine HSY.out.mono ?_
 rintro e w1 ⟨Y,d,rfl,hT1,b1⟩
 have H1:=H.bl b1
 have f30:=H1.raw.froz (i*33+30)
 have f31:=H1.raw.froz (i*33+31)
 have m30:=H1.raw.nd hi 30 (by omega)
 have m31:=H1.raw.nd hi 31 (by omega)
 have m32:=H1.raw.nd hi 32 (by omega)
 simp only [nodeC,List.getElem?_cons_zero,List.getElem?_cons_succ,hta] at m30 m31
 simp only [nodeC,List.getElem?_cons_zero,List.getElem?_cons_succ,hou] at m32
 have R0:=H1.raw
 rw [←T3.set_get (rowsOf s.nd a) hi,rows_get hi] at R0
 have R1:=(R0.put hi 30 (by omega) (.slice Y k d)).putp hi 31 (by omega) (i*33+30+1) (by omega) (.int .i64 (k:Int))
 have hrep:=H1.rep i hi
 obtain ⟨H2,k2⟩:=H1.upd (n':={ s.nd.get i with sn:=(s.nd.get i).recs.length }) (x':={ a.get i with ta:=.slice Y k d }) hi (by
  rw [show nodeC { s.nd.get i with sn:=(s.nd.get i).recs.length } { a.get i with ta:=.slice Y k d }=((nodeC (s.nd.get i) (a.get i)).set 30 (.slice Y k d)).set 31 (.int .i64 (k:Int)) by
   have:(({ s.nd.get i with sn:=(s.nd.get i).recs.length }:Nd).syn:Int)=k:=by
    unfold Nd.syn;simp only [List.take_length];rw [hk]
   simp only [nodeC,this];rfl]
  exact R1) (grown_trans (grown_setRow_cell w1 Kb _ _) (grown_setRow_cell _ Kb _ _)) { hrep with ta:=⟨Y,k,d,rfl,hT1⟩ } (.inl rfl) (.inl rfl)
 obtain ⟨a2,ha2⟩:∃ a2,a2=a.set i { a.get i with ta:=.slice Y k d }:=⟨_,rfl⟩
 have hou2:(a2.get i).ou = .slice A2 (s.nd.get i).out.length c2:=by rw [ha2,T3.get_set _ hi];exact hou
 rw [←ha2] at H2 k2
 have H20:Crw ((w1.setCell ⟨Kb,i*33+30,none⟩ (.slice Y k d)).setCell ⟨Kb,i*33+30+1,none⟩ (.int .i64 (k:Int))) base Kb a2 v { s.put i { s.nd.get i with sn:=(s.nd.get i).recs.length } with away:=awayK s.away (s.nd.get i).out 0 }:=by
  have e:awayK s.away (s.nd.get i).out 0=s.away:=by simp [awayK]
  rw [e];exact H2
 have KK:=hide ((Keep.of b1).trans k2)
 have HH2:=hide H20
 have HOU:=hide hou2
 clear R0 R1 hrep k2 n30 n31 HSY H2 H20 hT1 b1 H ha2 hou2
 go_wp2_with fail
 obtain ⟨w2,hw2⟩:∃ w2,w2=(w1.setCell ⟨Kb,i*33+30,none⟩ (.slice Y k d)).setCell ⟨Kb,i*33+30+1,none⟩ (.int .i64 (k:Int)):=⟨_,rfl⟩
 rw [←hw2] at HH2 KK ⊢
 clear hw2 H1 f30 f31 m30 m31 m32 hk h4 hsn hta hou
 generalize hS1:s.put i { s.nd.get i with sn:=(s.nd.get i).recs.length }=s1 at *
 have HS1:=hide hS1
 have hso:s1.nd.get i={ s.nd.get i with sn:=(s.nd.get i).recs.length }:=by rw [←hS1];exact Cw.get_put hi _
 have HOO:=hide (show (s1.nd.get i).out=(s.nd.get i).out by rw [hso])
 clear hS1
 generalize (s.nd.get i).out=O at *
 go_loopw [22] (fun s22 wr=>∃ q:Nat,q≤O.length∧s22 = .int .i64 (q:Int)∧∃ v',Crw wr base Kb a2 v' { s1 with away:=awayK s.away O q }∧Keep (Mut Kb a v) (Mut Kb a2 v') w wr) (fun s22 _=>O.length - (intOf s22).toNat)
 case atStart=>exact ⟨0,by omega,rfl,v,HH2.out,KK.out⟩
 case round=>
  obtain ⟨q,hq,rfl,v',H,K⟩:=hrel
  have KQ:=hide K
  clear K
  by_cases hlt:q<O.length
  ·have ik:(q:Int)<(O.length:Int):=by omega
   have O0:=(H.rep i hi).ou
   rw [HOU.out] at O0
   replace O0:MSl wr base (.slice A2 O.length c2) O:=by have:=O0;rwa [show ({ s1 with away:=awayK s.away O q }:Cw).nd.get i=s1.nd.get i from rfl,HOO.out] at this
   obtain ⟨rows,O1,R1⟩:=O0
   have hnc2:=O1.sl'.nc
   have hcm2:=O1.sl'.cm
   unfold maxLen at hcm2
   obtain ⟨bq,off,row,rfl,hbb,hrg,hm⟩:=msg_range O1.sl' R1 hlt
   have HSTEP:=hide (awayK_step s.away O hlt)
   generalize O[q]=m at *
   obtain ⟨I,i1,i2,E,e1,e2,C,d1,d2,hrw,hI,hE,hC⟩:=hm
   replace hrw:row=[.int .i64 m.src,.int .i64 m.dst,.int .i64 m.kind,.int .i64 m.term,.int .i64 m.last,.int .i64 m.lastTerm,.bool m.yes,.int .i64 m.commit,.slice I i1 i2,.int .i64 m.si,.int .i64 m.st,.int .i64 m.sm.now,.slice E e1 e2,.int .i64 m.sm.next,.slice C d1 d2]:=hrw
   subst hrw
   have HRG:=hide hrg
   have HM:=hide (show ∀ w',FrI wr w'→MsgAt w' m #[.int .i64 m.src,.int .i64 m.dst,.int .i64 m.kind,.int .i64 m.term,.int .i64 m.last,.int .i64 m.lastTerm,.bool m.yes,.int .i64 m.commit,.slice I i1 i2,.int .i64 m.si,.int .i64 m.st,.int .i64 m.sm.now,.slice E e1 e2,.int .i64 m.sm.next,.slice C d1 d2].toList from fun w' f=>⟨I,i1,i2,E,e1,e2,C,d1,d2,rfl,hI.fri f,hE.fri f,hC.fri f⟩)
   obtain ⟨A3,c3,rows3,haw,hO3,hR3,hS3⟩:=H.aw.form
   simp only at haw hO3 hR3 hS3
   have HAW:=hide haw
   have hHH:=hide H
   clear hrg O1 R1 hO3 hR3 hS3 haw hI hE hC
   go_upto_region 4 with (first|(refine wpList_load_mid rfl 153 _ rfl _ _ rfl [.int .i64 m.src,.int .i64 m.dst,.int .i64 m.kind,.int .i64 m.term,.int .i64 m.last,.int .i64 m.lastTerm,.bool m.yes,.int .i64 m.commit,.slice I i1 i2,.int .i64 m.si,.int .i64 m.st,.int .i64 m.sm.now,.slice E e1 e2,.int .i64 m.sm.next,.slice C d1 d2] _ HRG.out Tryz.underlying153 rfl msg_size ?_)|(refine wpList_sto rfl 153 _ _ rfl (cells:=#[.int .i64 m.src,.int .i64 m.dst,.int .i64 m.kind,.int .i64 m.term,.int .i64 m.last,.int .i64 m.lastTerm,.bool m.yes,.int .i64 m.commit,.slice I i1 i2,.int .i64 m.si,.int .i64 m.st,.int .i64 m.sm.now,.slice E e1 e2,.int .i64 m.sm.next,.slice C d1 d2]) rfl rfl (Blk.new wr _ _) rfl msg_size (all_one rfl) ?_;intro w4 Z4 gr4 sz4))
   have q34:Below wr.heap.size wr (wr.alloc (.cells #[.int .i64 0,.int .i64 0,.int .i64 0,.int .i64 0,.int .i64 0,.int .i64 0,.bool false,.int .i64 0,.slice none 0 0,.int .i64 0,.int .i64 0,.int .i64 0,.slice none 0 0,.int .i64 0,.slice none 0 0] 153)):=below_by
   have b4:Below wr.heap.size wr w4:=below_sto q34 gr4 (by simp) (Nat.le_refl _)
   have H4:=H.bl b4
   have HM4:=hide (fun w' (f:FrI w4 w')=>HM.out w' ((FrI.of b4).trans f))
   have K4:=hide (KQ.out.trans (Keep.of b4))
   have g99:=H4.raw.top.1
   rw [HAW.out] at g99
   clear gr4 sz4 q34 b4 HRG H HM KQ
   by_cases hl:(awayK s.away O q).length<300
   ·have hl':(((awayK s.away O q).length:Nat):Int)<300:=by omega
    have HE:=hide (show awayK s.away O (q+1)=awayK s.away O q ++ [m] by rw [HSTEP.out,if_pos hl])
    have hl4:=Z4.lt
    obtain ⟨w5,hw5⟩:∃ w5,w5=w4.drew:=⟨_,rfl⟩
    have b5:Below w4.heap.size w4 w5:=by rw [hw5];exact (Below.refl _ _).drew
    have H5:=H4.bl b5
    have Z5:=Z4.below' b5
    have K5:=hide (K4.out.trans (Keep.of b5))
    have g99':w5.cell? ⟨Kb,99,none⟩=some (.slice A3 (awayK s.away O q).length c3):=by have:=H5.raw.top.1;rwa [HAW.out] at this
    go_upto_region 5 with fail
    refine wp_region_x (l:=[10]) (S:=fun w'=>w'.cell? ⟨Kb,99,none⟩=some (.slice A3 (awayK s.away O q).length c3)∧Blk w' wr.heap.size 153 #[.int .i64 m.src,.int .i64 m.dst,.int .i64 m.kind,.int .i64 m.term,.int .i64 m.last,.int .i64 m.lastTerm,.bool m.yes,.int .i64 m.commit,.slice I i1 i2,.int .i64 m.si,.int .i64 m.st,.int .i64 m.sm.now,.slice E e1 e2,.int .i64 m.sm.next,.slice C d1 d2]) (by kernel_rfl) (by rw [←hw5];exact ⟨g99',Z5⟩) (fun hS=>?_)
    rw [←hw5] at hS ⊢
    have hHM:=hide (HM4.out w5 (FrI.of b5))
    clear hw5 b5 K4 H4 HM4 Z4 g99 HOO HS1 HH2 KK HSE HSTEP
    refine wpAnyX_tq 0 ?_
    refine wpAnyX_tq 1 ?_
    refine wpAnyX_tq 2 ?_
    refine wpAnyX_tq 3 ?_
    refine wpAnyX_tq 4 ?_
    refine wpAnyX_tq 5 ?_ (hy:=yieldsIf_lod (by rfl) 153 _ rfl rfl (fun w' h=>h.2) Tryz.underlying153 rfl msg_size)
    have HR5:=H5.raw
    have hK5:=H5.raw.blk.lt
    have hl5:=Z5.lt
    have hb5:=H5.bw
    have O5:=H5.aw
    simp only at O5
    rw [HAW.out] at O5
    obtain ⟨rows5,O5,R5⟩:=O5
    clear hS
    refine wpAnyX_oq 6 fun K hK=>?_
    go_wp2_with fail
    refine hK.out _ _ (Or.inr ⟨(World.cell?_alloc_lt w5 _ _ hK5).trans g99',Z5.alloc _⟩) (fun hS=>?_)
    clear hK K
    refine wpAnyX_oq 7 fun K hK=>?_
    refine wpList_push_k rfl _ _ _ rfl Tryz.underlying116 msg_info rfl (by decide) (by rfl) O5 rfl (by rfl) (row:=#[.int .i64 m.src,.int .i64 m.dst,.int .i64 m.kind,.int .i64 m.term,.int .i64 m.last,.int .i64 m.lastTerm,.bool m.yes,.int .i64 m.commit,.slice I i1 i2,.int .i64 m.si,.int .i64 m.st,.int .i64 m.sm.now,.slice E e1 e2,.int .i64 m.sm.next,.slice C d1 d2]) rfl (all_one rfl) (by unfold maxLen;omega) (by omega) hb5 ?_
    intro A6 c6 w6 O6 g6 hn6
    have P6:=Pushed.of O5 g6 hn6
    have R6:Raw w6 Kb (rowsOf s1.nd a2) v':=HR5.same (P6.blk Kb hK5 (fun e=>H5.notK (j:=6) (by omega) (by show v'.x.ownBlock=_;rw [HAW.out];exact e) rfl))
    have Z6:Blk w6 wr.heap.size 153 #[.int .i64 m.src,.int .i64 m.dst,.int .i64 m.kind,.int .i64 m.term,.int .i64 m.last,.int .i64 m.lastTerm,.bool m.yes,.int .i64 m.commit,.slice I i1 i2,.int .i64 m.si,.int .i64 m.st,.int .i64 m.sm.now,.slice E e1 e2,.int .i64 m.sm.next,.slice C d1 d2]:=(P6.blk _ hl5 (fun e=>by have:=(hHH.out.slot (j:=6) (by omega) (by show v'.x.ownBlock=_;rw [HAW.out];exact e)).1;omega)).trans Z5
    have M6:MSl w6 base (.slice A6 ((awayK s.away O q).length+1) c6) (awayK s.away O q ++ [m]):=⟨_,O6,(R5.mono fun _ _ h=>h.fri P6.fr).app (Rws.one _ _ (hHM.out.fri P6.fr))⟩
    have g6':w6.cell? ⟨Kb,99,none⟩=some (.slice A3 (awayK s.away O q).length c3):=by have:=R6.top.1;rwa [HAW.out] at this
    have f6:=R6.froz 99
    refine hK.out _ _ (Or.inr ⟨g6',Z6⟩) (fun hS=>?_)
    clear hK K g6 hn6 O6 O5 R5
    replace hS:=hS.resolve_left (by decide)
    refine wpAnyX_ps 8 ?_
    refine wpAnyX_ps 9 ?_
    clear hS
    refine wpAnyX_oq 10 fun K hK=>?_
    go_wp2_with fail
    refine hK.out _ _ (Or.inl (by decide)) (fun _=>?_)
    clear hK K
    refine wpAnyX_done (by kernel_rfl) ?_ _
    go_wp2_with fail
    obtain ⟨h1,h2⟩:=H5.push_away (by rw [HAW.out];exact P6) M6
    go_roundw
    case rel=>exact ⟨q+1,by omega,by go_num,_,by rw [HE.out];exact h1,K5.out.trans h2⟩
    case measure=>simp [intOf];omega
   ·have hl':¬ (((awayK s.away O q).length:Nat):Int)<300:=by omega
    have HE:=hide (show awayK s.away O (q+1)=awayK s.away O q by rw [HSTEP.out,if_neg hl])
    go_wp2_with fail
    go_roundw
    case rel=>exact ⟨q+1,by omega,by go_num,v',by rw [HE.out];exact H4,K4.out⟩
    case measure=>simp [intOf];omega
  ·obtain rfl:q=O.length:=by omega
   have n32:=H.raw.nd hi 32 (by omega)
   simp only [nodeC,List.getElem?_cons_zero,List.getElem?_cons_succ,HOU.out] at n32
   have f32:=H.raw.froz (i*33+32)
   go_wp2_with fail
   go_end0
   have R0:=H.raw
   rw [←T3.set_get (rowsOf _ a2) hi,rows_get hi] at R0
   have R1:=R0.put hi 32 (by omega) (.slice none 0 0)
   obtain ⟨H3,k3⟩:=H.upd (n':={ s1.nd.get i with out:=[] }) (x':={ a2.get i with ou:=.slice none 0 0 }) hi R1 (grown_setRow_cell wr Kb _ _) { H.rep i hi with ou:=OwnR.nil } (.inr rfl) (.inl rfl)
   refine ⟨rfl,_,⟨_,_,?_,rfl⟩,KQ.out.trans k3⟩
   rw [HSE.out]
   have e:({ s1 with away:=awayK s.away O O.length }:Cw).put i { s1.nd.get i with out:=[] }={ s with nd:=s.nd.set i { s.nd.get i with sn:=(s.nd.get i).recs.length,out:=[] },away:=awayK s.away O O.length }:=by
    rw [←HS1.out]
    simp only [Cw.put,T3.get_set _ hi,T3.set_set _ hi]
   rw [←e]
   exact H3
end
section
variable {w w':World} {base Kb:Nat} {M:Nat→Prop} {s:Cw} {i:Nat}
theorem Cr.cellw {n':Nd} {w1:World} (h:Cr w base Kb M s) (hi:i<3) {p:Nat} {u:Value} (hw:w1=w.setCell ⟨Kb,p,none⟩ u) (j:Nat) (hj:j<33) (hp:p=i*33+j) (hc:∀ x,nodeC n' x=(nodeC (s.nd.get i) x).set j u)
  (e1:n'.L=(s.nd.get i).L) (e2:n'.sm=(s.nd.get i).sm) (e3:n'.m=(s.nd.get i).m) (e4:n'.recs=(s.nd.get i).recs) (e5:n'.waits=(s.nd.get i).waits) (e6:n'.out=(s.nd.get i).out):∃ M',Cr w1 base Kb M' (s.put i n')∧Keep M M' w w1:=by
 obtain ⟨a,v,H,rfl⟩:=h
 have R0:=H.raw
 rw [←T3.set_get (rowsOf s.nd a) hi,rows_get hi] at R0
 have R1:=R0.putp hi j hj p hp u
 rw [←hw,←hc] at R1
 have hr:=H.rep i hi
 obtain ⟨h1,h2⟩:=H.upd (n':=n') (x':=a.get i) hi R1 (by rw [hw];exact grown_setRow_cell w Kb _ _) ⟨by rw [e1];exact hr.lg,by rw [e2];exact hr.se,by rw [e2];exact hr.sc,by rw [e3];exact hr.me,by rw [e3];exact hr.mc,by rw [e4];exact hr.ta,by rw [e5];exact hr.wa,by rw [e6];exact hr.ou⟩ (.inl rfl) (.inl rfl)
 exact ⟨_,⟨_,_,h1,rfl⟩,h2⟩
end
attribute [local go_sem ↓] Go.wp_at_zero Go.wp_at_succ
set_option maxRecDepth 100000 in
theorem Delete_msg (A:Option Addr) (n c base i:Nat) (rows:List (List Value)) (w:World) (h:Own w base 153 15 (.slice A n c) rows) (h1:∀ r∈rows,∀ u∈r,u.oneCell'=true) (hi:i<n) (hn:n≤1048576) :
  Calls Tryz.prog 69 #[.slice A n c,.int .i64 (i:Int),.int .i64 ((i:Int)+1)] w fun e w'=>∃ A' n' c',e = .returned (.slice A' n' c')∧Own w' base 153 15 (.slice A' n' c') (delRows rows i)∧w.grownBy w' (Value.slice A n c).ownBlock∧(Value.slice A' n' c').ownBlock=(Value.slice A n c).ownBlock:=by
 have hsl:=h.sl'
 have hnc:=hsl.nc
 have hcm:=hsl.cm
 unfold maxLen at hcm
 obtain ⟨g,cur,rfl,hbg,-,-,-,hcur,hcs,-⟩:=h.whole (by rintro rfl;have:=hsl.nil rfl;omega)
 obtain ⟨w1,hap,ho1,hg1⟩:=(Own.drew h).out_ (P:=Tryz.prog) (t:=116) Tryz.underlying116 msg_info (by omega) h1 hi
 obtain ⟨m,hm⟩:∃ m,n - 1=m:=⟨_,rfl⟩
 rw [hm] at hap ho1
 obtain ⟨w2,hcl,ho2,hg2⟩:=ho1.wipe (P:=Tryz.prog) (t:=116) Tryz.underlying116 msg_info rfl (by omega) (all_one rfl) (by omega)
 have ho3:Own w2 base 153 15 (.slice (some ⟨g,0,none⟩) m c) (delRows rows i):=ho2
 have hg3:w.grownBy w2 (some g):=grown_trans (grown_drew hg1) hg2
 have hne:((i:Int) == (i:Int)+1)=false:=by rw [beq_eq_false_iff_ne];omega
 obtain ⟨d1,hd1⟩:∃ d,d=n - (i+1):=⟨_,rfl⟩
 obtain ⟨d2,hd2⟩:∃ d,d=c - (i+1):=⟨_,rfl⟩
 obtain ⟨d3,hd3⟩:∃ d,d=c - m:=⟨_,rfl⟩
 rw [←hd1,←hd2] at hap
 rw [←hd3] at hcl
 have s1:∀ w,(Instr.slice 116 (.slice (some ⟨g,0,none⟩) n c) (some (.int .i64 (i:Int))) (some (.int .i64 ((i:Int)+1))) (some (.int .i64 (n:Int)))).run Tryz.prog w = .ok (.slice (cutA (some ⟨g,0,none⟩) n i 15) (i+1 - i) (n - i)) w:=by
  have:=run_cut3 (P:=Tryz.prog) Tryz.underlying116 msg_size (some ⟨g,0,none⟩) n c i (i+1) n (by omega) (by omega) hnc
  rwa [show ((i+1:Nat):Int)=(i:Int)+1 by omega] at this
 have s2:=run_take (P:=Tryz.prog) Tryz.underlying116 msg_size (some ⟨g,0,none⟩) n c i (by omega)
 have s3:∀ w,(Instr.slice 116 (.slice (some ⟨g,0,none⟩) n c) (some (.int .i64 ((i:Int)+1))) none none).run Tryz.prog w = .ok (.slice (cutA (some ⟨g,0,none⟩) c (i+1) 15) d1 d2) w:=by
  have:=run_cut (P:=Tryz.prog) Tryz.underlying116 msg_size (some ⟨g,0,none⟩) n c (i+1) (by omega)
  rwa [show ((i+1:Nat):Int)=(i:Int)+1 by omega,←hd1,←hd2] at this
 have s4:=run_cut2 (P:=Tryz.prog) Tryz.underlying116 msg_size (some ⟨g,0,none⟩) m c m n (by omega) hnc
 rw [←hd3,show n - m=1 by omega] at s4
 clear ho1 ho2 hd1 hd2 hd3 hm hcur hcs hsl
 go_enter Tryz.func69,Tryz.ntmps69
 go_wp2
 go_region_law (refine step_append_run rfl _ _ 116 116 rfl (.slice (some ⟨g,0,none⟩) i c) (.slice (cutA (some ⟨g,0,none⟩) c (i+1) 15) d1 d2) (by simp [Act.eval,Act.put]) (by simp [Act.eval,Act.put]) (hap _) ?_)
 go_wp2
 go_ret
 exact ⟨_,_,_,rfl,ho3,hg3,rfl⟩
section
attribute [local irreducible] wpStill
variable {w w':World} {base Kb:Nat} {M:Nat→Prop} {s:Cw} {i:Nat}
theorem Cr.naway (h:Cr w base Kb M s):∃ A c,w.cell? ⟨Kb,99,none⟩=some (.slice A s.away.length c)∧(s.away.length:Int)≤9223372036854775807:=by
 obtain ⟨a,v,H,rfl⟩:=h
 obtain ⟨A,c,rows,haw,hO,hR,hS⟩:=H.aw.form
 have h1:=H.raw.top.1
 rw [haw] at h1
 have h2:=hS.nc
 have h3:=hS.cm
 unfold maxLen at h3
 exact ⟨A,c,h1,by omega⟩
theorem Cr.nclock (h:Cr w base Kb M s) (hi:i<3):w.cell? ⟨Kb,i*33+2,none⟩=some (.int .i64 (s.nd.get i).clock):=by
 obtain ⟨a,v,H,rfl⟩:=h;exact H.raw.nd hi 2 (by omega)
def Going (s:Cw) (a:ActD) (s':Cw) (m:Msg):Prop:=
 (a.kind=6∧m∈s.away∧s'={ s with away:=s.away.eraseIdx (a.pick.toNat % s.away.length) }∧s.away[a.pick.toNat % s.away.length]?=some m) ∨
 (a.kind=12∧∃ k,s.away[k]?=some m∧s'=comes (s.away.take k) { s with away:=[] })
theorem comes_snoc:∀ (l:List Msg) (s:Cw) (m:Msg),comes (l ++ [m]) s=(comes l s).come m
 | [],_,_=>rfl
 | _ :: l,s,m=>comes_snoc l _ m
theorem Pushed.same (w:World) (old:Value):Pushed w w old (.slice none 0 0):=⟨Below.refl 0 w,FrI.refl w,fun _ _ _=>rfl,fun b h=>by simp [Value.ownBlock] at h⟩
theorem Pushed.del {B:Nat} {e:TypeId} {size:Nat} {rows:List (List Value)} {old u:Value} (ho:Own w B e size old rows) (hg:w.grownBy w' old.ownBlock) (hb:u.ownBlock=old.ownBlock) (ht:immT e=false:=by decide):Pushed w w' old u where
 b0:=⟨hg.os,hg.tape,hg.output,hg.size,fun _ hk=>absurd hk (Nat.not_lt_zero _)⟩
 fr:=FrI.own ho hg ht
 blk:=fun k hk hne=>hg.block k hk (fun e=>hne e.symm)
 new:=fun b h=>.inl (hb ▸ h)
theorem rws_msg_one {l:List Msg} {rows:List (List Value)} (h:Rws (MsgAt w) l rows):∀ r∈rows,∀ u∈r,u.oneCell'=true:=fun r hr=>by
 obtain ⟨x,hx⟩:=h.mem r hr;exact hx.one
set_option maxRecDepth 100000 in
theorem go_of (h:Cr w base Kb M s) (a:ActD) (ha:ActOk a) (hi:i<3) (hn:a.node=(i:Int)) (haw:s.away.length≤1048576)
  (hask:a.kind=1→∀ w',Below w.heap.size w w'→Calls Tryz.prog 68 #[.pointer (some ⟨Kb,0,none⟩),.pointer (some ⟨Kb,i*33,none⟩),.agg (callCells (callA a)).toArray] w' (Does base Kb M (s.ask i (callA a)) w'))
  (hact:(s.nd.get i).up=true→∀ w',Below w.heap.size w w'→Calls Tryz.prog 71 #[.pointer (some ⟨Kb,0,none⟩),.pointer (some ⟨Kb,i*33,none⟩),.agg a.cells.toArray] w' (Does base Kb M (s.act i a) w'))
  (hclk:0≤(s.nd.get i).clock∧(s.nd.get i).clock≤1073741824)
  (hcome:∀ s' m,Going s a s' m→∀ w' M' row,Cr w' base Kb M' s'→Keep M M' w w'→MsgAt w' m row→Calls Tryz.prog 70 #[.pointer (some ⟨Kb,0,none⟩),.agg row.toArray] w' (Does base Kb M' (s'.come m) w')) :
  Calls Tryz.prog 49 #[.pointer (some ⟨Kb,0,none⟩),.agg a.cells.toArray] w (Does base Kb M (s.go a) w):=by
 have HC:=hide h
 have HAS:=hide hask
 have HAC:=hide hact
 have HCO:=hide hcome
 have HAW:=hide haw
 have HCK:=hide hclk
 have hp0:=ha.p0
 have hp1:=ha.p1
 have hnt:a.node.toNat=i:=by rw [hn];rfl
 have HX:=hide (show s.go a=if a.kind=1 then s.ask i (callA a)
  else if a.kind=5 then s.put i { s.nd.get i with clock:=min ((s.nd.get i).clock+a.pick) 1073741824 }
  else if a.kind=10 then s.put i { s.nd.get i with up:=true }
  else if a.kind=6∨a.kind=7 then (match s.away[a.pick.toNat % s.away.length]? with
   | some m=>if a.kind=6 then Cw.come { s with away:=s.away.eraseIdx (a.pick.toNat % s.away.length) } m else { s with away:=s.away.eraseIdx (a.pick.toNat % s.away.length) }
   | none=>s)
  else if a.kind=8 then (match s.away[a.pick.toNat % s.away.length]? with
   | some m=>if s.away.length<300 then { s with away:=s.away ++ [m] } else s
   | none=>s)
  else if a.kind=12 then comes s.away { s with away:=[] }
  else if (s.nd.get i).up=true then s.act i a else s by unfold Cw.go;rw [hnt];rfl)
 generalize s.go a=X at *
 have HNn:=hide hn
 clear h ha hnt hn hask hact hcome haw hclk
 show Calls Tryz.prog _ #[_,.agg #[.int .i64 a.kind,.int .i64 a.node,.int .i64 a.pick,.int .i64 a.client,.int .i64 a.seq,.int .i64 a.cmd.kind,.string a.cmd.key,.string a.cmd.field,.string a.cmd.text,.int .i64 a.cmd.n]] w _
 have B0:=Blk.new w 40 #[.int .i64 a.kind,.int .i64 a.node,.int .i64 a.pick,.int .i64 a.client,.int .i64 a.seq,.int .i64 a.cmd.kind,.string a.cmd.key,.string a.cmd.field,.string a.cmd.text,.int .i64 a.cmd.n]
 have q0:Below w.heap.size w (w.alloc (.cells #[.int .i64 a.kind,.int .i64 a.node,.int .i64 a.pick,.int .i64 a.client,.int .i64 a.seq,.int .i64 a.cmd.kind,.string a.cmd.key,.string a.cmd.field,.string a.cmd.text,.int .i64 a.cmd.n] 40)):=below_by
 have hMX:¬ M w.heap.size:=HC.out.none_
 have ii:(i:Int)<3:=by omega
 go_enter Tryz.func49,Tryz.ntmps49
 go_upto_region 1 with fail
 obtain ⟨w1,hw1⟩:∃ w1,w1=(w.alloc (.cells #[.int .i64 a.kind,.int .i64 a.node,.int .i64 a.pick,.int .i64 a.client,.int .i64 a.seq,.int .i64 a.cmd.kind,.string a.cmd.key,.string a.cmd.field,.string a.cmd.text,.int .i64 a.cmd.n] 40)):=⟨_,rfl⟩
 rw [←hw1] at B0 q0 ⊢
 clear hw1
 have hbl:=B0.lt
 (try clear cB0 fB0);have cB0:=B0.cell;have fB0:=B0.frozen
 have hn:=HNn.out
 go_quiet (fail)
 clear hn
 have q1:Below w.heap.size w (w1.drewN nq):=bdrewN q0 nq
 have B1:=B0.drewN nq
 obtain ⟨w2,hw2⟩:∃ w2,w2=w1.drewN nq:=⟨_,rfl⟩
 rw [←hw2] at q1 B1 ⊢
 clear cB0 fB0 B0 q0 hbl hw2
 have C2:=hide (HC.out.bl q1)
 obtain ⟨A9,c9,g99,hal⟩:=C2.out.naway
 have hbl:=B1.lt
 (try clear cB1 fB1);have cB1:=B1.cell;have fB1:=B1.frozen
 go_upto_if 21 with fail
 go_cut [5] from 21 (fun s5 wx=>s5 = .int .i64 (if s.away.length=0 then -1 else ((a.pick.toNat % s.away.length:Nat):Int))∧Below w.heap.size w wx∧Blk wx w.heap.size 40 #[.int .i64 a.kind,.int .i64 a.node,.int .i64 a.pick,.int .i64 a.client,.int .i64 a.seq,.int .i64 a.cmd.kind,.string a.cmd.key,.string a.cmd.field,.string a.cmd.text,.int .i64 a.cmd.n])
 case first=>
  by_cases hl:s.away.length=0
  ·have hg:decide (0<s.away.length)=false:=by simp [hl]
   have hng:¬ 0<s.away.length:=by omega
   have HL:=hide hl
   clear hl
   go_wp2_with fail
   go_meet
   case rel=>exact ⟨by rw [if_pos HL.out],q1,B1⟩
  ·have hg:decide (0<s.away.length)=true:=by simp;omega
   have hl':0<s.away.length:=by omega
   have hne:((s.away.length:Nat):Int)≠0:=by omega
   have HL:=hide hl
   clear hl
   go_wp2_with fail
   go_quiet (fail)
   go_wp2_with fail
   have bz:Below w2.heap.size w2 (w2.drewN nq):=bdrewN (Below.refl _ w2) nq
   go_meet
   case rel=>exact ⟨by rw [if_neg HL.out,show a.pick % (s.away.length:Int)=((a.pick.toNat % s.away.length:Nat):Int) by rw [Int.natCast_emod,Int.toNat_of_nonneg hp0]],bstep q1 bz,B1.below' bz⟩
 case rest=>
  obtain ⟨hu5,qc,BC⟩:=hcut
  have HU5:=hide hu5
  have CC:=hide (HC.out.bl qc)
  clear hu5 C2 B1 cB1 fB1 g99 q1 hbl
  have hbl:=BC.lt
  have hMC:¬ M w.heap.size:=hMX
  (try clear cBC fBC);have cBC:=BC.cell;have fBC:=BC.frozen
  by_cases hk1:a.kind=1
  ·have hk1':(a.kind == 1)=true:=by simpa using hk1
   have HX2:=hide (HX.out.trans (if_pos hk1))
   have HP:=hide (HAS.out hk1 wc qc)
   have HP:=hide (show Calls Tryz.prog 68 #[.pointer (some ⟨Kb,0,none⟩),.pointer (some ⟨Kb,i*33,none⟩),.agg #[.int .i64 a.client,.int .i64 a.seq,.int .i64 a.cmd.kind,.string a.cmd.key,.string a.cmd.field,.string a.cmd.text,.int .i64 a.cmd.n]] wc (Does base Kb M _ wc) from HP.out)
   rw [←HX2.out] at HP
   clear HX HX2 hk1
   go_wp2_with fail
   refine HP.out.mono ?_
   rintro e w3 ⟨rfl,hp⟩
   go_wp2_with fail
   go_end0
   exact ⟨rfl,hp.pre qc⟩
  have hk1':(a.kind == 1)=false:=by simpa using hk1
  have HX2:=hide (HX.out.trans (if_neg hk1))
  clear HX hk1
  by_cases hk5:a.kind=5
  ·have hk5':(a.kind == 5)=true:=by simpa using hk5
   have HX3:=hide (HX2.out.trans (if_pos hk5))
   have hcw:IntKind.i64.wrap ((s.nd.get i).clock+a.pick)=(s.nd.get i).clock+a.pick:=IntWalk.i64_in _ (by have:=HCK.out.1;have:=HCK.out.2;omega)
   clear HX2 hk5
   go_upto_region 11 with fail
   obtain ⟨w3,hw3⟩:∃ w3,w3=wc.drew:=⟨_,rfl⟩
   have b3:Below wc.heap.size wc w3:=by rw [hw3];exact (Below.refl _ _).drew
   have B3:=BC.below' b3
   have C3:=CC.out.bl b3
   have g2:=C3.nclock hi
   have f2:=C3.frz (i*33+2)
   obtain ⟨M4,C4,k4⟩:=C3.cellw (n':={ s.nd.get i with clock:=min ((s.nd.get i).clock+a.pick) 1073741824 }) (u:=.int .i64 (min ((s.nd.get i).clock+a.pick) 1073741824)) hi rfl 2 (by omega) rfl (fun x=>rfl) rfl rfl rfl rfl rfl rfl
   rw [←HX3.out] at C4
   have CC4:=hide C4
   have K4:=hide ((Keep.of (bstep qc b3)).trans k4)
   refine wp_region_x (l:=[11]) (S:=fun w'=>w'.cell? ⟨Kb,i*33+2,none⟩=some (.int .i64 (s.nd.get i).clock)∧w'.cell? ⟨w.heap.size,2,none⟩=some (.int .i64 a.pick)) (by kernel_rfl) (by rw [←hw3];exact ⟨g2,B3.cell 2⟩) (fun hS=>?_)
   rw [←hw3] at hS ⊢
   clear hw3 b3 C3 C4 k4 HX3 CC BC cBC fBC hbl
   refine wpAnyX_tq 0 ?_
   refine wpAnyX_tq 1 ?_
   refine wpAnyX_tq 2 ?_
   refine wpAnyX_tq 3 ?_
   refine wpAnyX_tq 4 ?_
   refine wpAnyX_tq 5 ?_
   refine wpAnyX_tq 6 ?_
   refine wpAnyX_tq 7 ?_
   refine wpAnyX_tq 8 ?_
   refine wpAnyX_ps 9 ?_
   refine wpAnyX_ps 10 ?_
   clear hS
   refine wpAnyX_oq 11 fun K hK=>?_
   go_wp2_with fail
   refine hK.out _ _ (Or.inl (by decide)) (fun _=>?_)
   clear hK K
   refine wpAnyX_done (by kernel_rfl) ?_ _
   go_wp2_with fail
   go_end0
   exact ⟨rfl,M4,CC4.out,K4.out⟩
  have hk5':(a.kind == 5)=false:=by simpa using hk5
  have HX3:=hide (HX2.out.trans (if_neg hk5))
  clear HX2 hk5
  by_cases hk10:a.kind=10
  ·have hk10':(a.kind == 10)=true:=by simpa using hk10
   have HX4:=hide (HX3.out.trans (if_pos hk10))
   have g1:=CC.out.nup hi
   have f1:=CC.out.frz (i*33+1)
   obtain ⟨M4,C4,k4⟩:=CC.out.cellw (n':={ s.nd.get i with up:=true }) (u:=.bool true) hi rfl 1 (by omega) rfl (fun x=>rfl) rfl rfl rfl rfl rfl rfl
   rw [←HX4.out] at C4
   have CC4:=hide C4
   have K4:=hide ((Keep.of qc).trans k4)
   clear HX3 HX4 hk10 C4 k4
   go_wp2_with fail
   go_end0
   exact ⟨rfl,M4,CC4.out,K4.out⟩
  have hk10':(a.kind == 10)=false:=by simpa using hk10
  have HX4:=hide (HX3.out.trans (if_neg hk10))
  clear HX3 hk10
  by_cases hk67:a.kind=6∨a.kind=7
  ·have HX5:=hide (HX4.out.trans (if_pos hk67))
   have hu:=HU5.out
   clear HX4 HU5
   by_cases hl:s.away.length=0
   ·have HX6:=hide (show X=s by rw [HX5.out,show s.away=[] from List.eq_nil_of_length_eq_zero hl];rfl)
    rw [if_pos hl] at hu
    subst hu
    clear HX5 hl
    rcases hk67 with hk|hk
    ·have hk6':(a.kind == 6)=true:=by simpa using hk
     clear hk
     go_wp2_with fail
     go_end0
     exact ⟨rfl,by rw [HX6.out];exact CPost.same HC.out qc⟩
    ·have hk6':(a.kind == 6)=false:=by simp [hk]
     have hk7':(a.kind == 7)=true:=by simpa using hk
     clear hk
     go_wp2_with fail
     go_end0
     exact ⟨rfl,by rw [HX6.out];exact CPost.same HC.out qc⟩
   ·rw [if_neg hl] at hu
    subst hu
    obtain ⟨a9,v9,H,rfl⟩:=CC.out
    obtain ⟨k,hk⟩:∃ k,k=a.pick.toNat % s.away.length:=⟨_,rfl⟩
    have hkl:k<s.away.length:=by rw [hk];exact Nat.mod_lt _ (by omega)
    rw [←hk] at HX5 ⊢
    have hm:=List.getElem?_eq_getElem hkl
    have HX6:=hide (HX5.out.trans (by rw [hm]))
    have HGO:=hide (fun h6:a.kind=6=>(Or.inl ⟨h6,List.getElem_mem hkl,by rw [←hk],by rw [←hk];exact hm⟩:Going s a { s with away:=s.away.eraseIdx k } s.away[k]))
    simp only at HX6
    obtain ⟨A3,c3,rows3,haw,hO3,hR3,hS3⟩:=H.aw.form
    have g99:=H.raw.top.1
    rw [haw] at g99
    have hnc3:=hS3.nc
    have hcm3:=hS3.cm
    unfold maxLen at hcm3
    obtain ⟨bq,off,row,rfl,hbb,hrg,hmq⟩:=msg_range hS3 hR3 hkl
    generalize s.away[k]=m at *
    obtain ⟨I,i1,i2,E,e1,e2,C,d1,d2,hrw,hI,hE,hC⟩:=hmq
    replace hrw:row=[.int .i64 m.src,.int .i64 m.dst,.int .i64 m.kind,.int .i64 m.term,.int .i64 m.last,.int .i64 m.lastTerm,.bool m.yes,.int .i64 m.commit,.slice I i1 i2,.int .i64 m.si,.int .i64 m.st,.int .i64 m.sm.now,.slice E e1 e2,.int .i64 m.sm.next,.slice C d1 d2]:=hrw
    subst hrw
    have HRG:=hide hrg
    have HM:=hide (show ∀ w',FrI wc w'→MsgAt w' m #[.int .i64 m.src,.int .i64 m.dst,.int .i64 m.kind,.int .i64 m.term,.int .i64 m.last,.int .i64 m.lastTerm,.bool m.yes,.int .i64 m.commit,.slice I i1 i2,.int .i64 m.si,.int .i64 m.st,.int .i64 m.sm.now,.slice E e1 e2,.int .i64 m.sm.next,.slice C d1 d2].toList from fun w' f=>⟨I,i1,i2,E,e1,e2,C,d1,d2,rfl,hI.fri f,hE.fri f,hC.fri f⟩)
    have HAWV:=hide haw
    have ik:(k:Int)<(s.away.length:Int):=by omega
    have ik0:(0:Int)≤(k:Int):=by omega
    have HKL:=hide hkl
    have HMK:=hide (show ¬ Mut Kb a9 v9 wc.heap.size from fun hm=>by have:=(H.mut_lt hm).1;omega)
    have hH:=hide H
    clear hrg hO3 hR3 hS3 haw hI hE hC HX5 hk hm hl hkl H
    obtain ⟨b6,hb6⟩:∃ b,(a.kind == 6)=b:=⟨_,rfl⟩
    have hk7':b6=false→(a.kind == 7)=true:=fun h=>by
     subst h
     have:=hk67.resolve_left (by simpa using hb6)
     simpa using this
    clear hk67
    cases b6
    all_goals
     simp only [true_implies,reduceCtorEq,false_implies] at hk7'
     go_upto_region 18 with (first|(refine wpList_load_mid rfl 153 _ rfl _ _ rfl [.int .i64 m.src,.int .i64 m.dst,.int .i64 m.kind,.int .i64 m.term,.int .i64 m.last,.int .i64 m.lastTerm,.bool m.yes,.int .i64 m.commit,.slice I i1 i2,.int .i64 m.si,.int .i64 m.st,.int .i64 m.sm.now,.slice E e1 e2,.int .i64 m.sm.next,.slice C d1 d2] _ HRG.out Tryz.underlying153 rfl msg_size ?_)|(refine wpList_sto rfl 153 _ _ rfl (cells:=#[.int .i64 m.src,.int .i64 m.dst,.int .i64 m.kind,.int .i64 m.term,.int .i64 m.last,.int .i64 m.lastTerm,.bool m.yes,.int .i64 m.commit,.slice I i1 i2,.int .i64 m.si,.int .i64 m.st,.int .i64 m.sm.now,.slice E e1 e2,.int .i64 m.sm.next,.slice C d1 d2]) rfl rfl (Blk.new wc _ _) rfl msg_size (all_one rfl) ?_;intro w4 Z4 gr4 sz4))
     have q34:Below wc.heap.size wc (wc.alloc (.cells #[.int .i64 0,.int .i64 0,.int .i64 0,.int .i64 0,.int .i64 0,.int .i64 0,.bool false,.int .i64 0,.slice none 0 0,.int .i64 0,.int .i64 0,.int .i64 0,.slice none 0 0,.int .i64 0,.slice none 0 0] 153)):=below_by
     have b4:Below wc.heap.size wc w4:=below_sto q34 gr4 (by simp) (Nat.le_refl _)
     have H4:=hH.out.bl b4
     have hl4:=Z4.lt
     have O4:=H4.aw
     rw [HAWV.out] at O4
     obtain ⟨rows4,O4,R4⟩:=O4
     have HDL:=hide (Delete_msg (some ⟨bq,off,none⟩) s.away.length c3 base k rows4 w4 O4 (rws_msg_one R4) HKL.out HAW.out)
     have B4:=BC.below' b4
     have HM4:=hide (fun w' (f:FrI w4 w')=>HM.out w' ((FrI.of b4).trans f))
     have K4:=hide ((Keep.of (M:=Mut Kb a9 v9) qc).trans (Keep.of b4))
     have g99':=H4.raw.top.1
     rw [HAWV.out] at g99'
     have hw1:IntKind.i64.wrap ((k:Int)+1)=(k:Int)+1:=IntWalk.i64_in _ (by have:=HAW.out;have:=HKL.out;omega)
     clear gr4 sz4 q34 b4 HRG HM g99 BC cBC fBC hbl
     go_wp2_with fail
     refine HDL.out.mono ?_
     rintro e w5 ⟨A5,n5,c5,rfl,O5,g5,hb5⟩
     have P5:=Pushed.del O4 g5 hb5
     have hK4:=H4.raw.blk.lt
     have R5:Raw w5 Kb (rowsOf s.nd a9) v9:=H4.raw.same (P5.blk Kb hK4 (fun e=>H4.notK (j:=6) (by omega) (by show v9.x.ownBlock=_;rw [HAWV.out];exact e) rfl))
     have f99:=R5.froz 99
     have M5:MSl w5 base (.slice A5 n5 c5) (s.away.eraseIdx k):=⟨_,O5,by
      have h1:=(R4.mono fun _ _ h=>h.fri P5.fr).erase k
      rwa [show rows4.eraseIdx k=delRows rows4 k from List.eraseIdx_eq_take_drop_succ rows4 k] at h1⟩
     have g99q:=R5.top.1
     rw [HAWV.out] at g99q
     have Z5:Blk w5 wc.heap.size 153 #[.int .i64 m.src,.int .i64 m.dst,.int .i64 m.kind,.int .i64 m.term,.int .i64 m.last,.int .i64 m.lastTerm,.bool m.yes,.int .i64 m.commit,.slice I i1 i2,.int .i64 m.si,.int .i64 m.st,.int .i64 m.sm.now,.slice E e1 e2,.int .i64 m.sm.next,.slice C d1 d2]:=(P5.blk _ hl4 (fun e=>HMK.out (.inr ⟨6,by omega,by show v9.x.ownBlock=_;rw [HAWV.out];exact e⟩))).trans Z4
     have B5:Blk w5 w.heap.size _ _:=(P5.blk _ B4.lt (fun e=>hMC (.inr ⟨6,by omega,by show v9.x.ownBlock=_;rw [HAWV.out];exact e⟩))).trans B4
     obtain ⟨h6,k6⟩:=H4.push_away (by rw [HAWV.out];exact P5) M5
     have HH6:=hide h6
     have K6:=hide (K4.out.trans k6)
     have HM6:=hide (HM4.out _ k6.fr)
     have hne:Kb≠wc.heap.size:=by have:=hH.out.raw.blk.lt;omega
     have hneB:Kb≠w.heap.size:=fun e=>hMC (.inl e.symm)
     have Z6:Blk (w5.setCell ⟨Kb,99,none⟩ (.slice A5 n5 c5)) wc.heap.size 153 #[.int .i64 m.src,.int .i64 m.dst,.int .i64 m.kind,.int .i64 m.term,.int .i64 m.last,.int .i64 m.lastTerm,.bool m.yes,.int .i64 m.commit,.slice I i1 i2,.int .i64 m.si,.int .i64 m.st,.int .i64 m.sm.now,.slice E e1 e2,.int .i64 m.sm.next,.slice C d1 d2]:=(Below.heap_setCell w5 ⟨Kb,99,none⟩ _ _ (Ne.symm hne)).trans Z5
     have B6:Blk (w5.setCell ⟨Kb,99,none⟩ (.slice A5 n5 c5)) w.heap.size _ _:=(Below.heap_setCell w5 ⟨Kb,99,none⟩ _ _ (Ne.symm hneB)).trans B5
     clear HDL O4 R4 g5 hb5 P5 R5 O5 M5 k6 h6 Z5 B5 Z4 HM4 K4 g99' hl4 hK4 B4
     go_upto_region 19 with fail
     obtain ⟨w6,hw6⟩:∃ w6,w6=w5.setCell ⟨Kb,99,none⟩ (.slice A5 n5 c5):=⟨_,rfl⟩
     rw [←hw6] at HH6 K6 HM6 Z6 B6 ⊢
     clear hw6 f99 g99q H4
     have hb6l:=B6.lt
     (try clear cB6 fB6);have cB6:=B6.cell;have fB6:=B6.frozen
    ·go_wp2_with fail
     go_end0
     exact ⟨rfl,_,by rw [HX6.out,if_neg (by simpa using hb6)];exact ⟨_,_,HH6.out,rfl⟩,K6.out⟩
    ·have h6:a.kind=6:=by simpa using hb6
     have HCC:=hide (HCO.out _ _ (HGO.out h6) _ _ _ ⟨_,_,HH6.out,rfl⟩ K6.out HM6.out)
     have HX7:=hide (show X=_ from by rw [HX6.out,if_pos h6])
     have HCC:=hide (show Calls Tryz.prog 70 #[.pointer (some ⟨Kb,0,none⟩),.agg #[.int .i64 m.src,.int .i64 m.dst,.int .i64 m.kind,.int .i64 m.term,.int .i64 m.last,.int .i64 m.lastTerm,.bool m.yes,.int .i64 m.commit,.slice I i1 i2,.int .i64 m.si,.int .i64 m.st,.int .i64 m.sm.now,.slice E e1 e2,.int .i64 m.sm.next,.slice C d1 d2]] w6 (Does base Kb _ _ w6) from HCC.out)
     rw [←HX7.out] at HCC
     clear h6 HX6 HX7 HGO HM6
     go_wp2_with (refine wpList_lod rfl 153 _ rfl rfl Z6 Tryz.underlying153 rfl msg_size ?_)
     refine HCC.out.mono ?_
     rintro e w7 ⟨rfl,M7,hc7,k7⟩
     go_wp2_with fail
     go_end0
     exact ⟨rfl,M7,hc7,K6.out.trans k7⟩
  have HX5:=hide (HX4.out.trans (if_neg hk67))
  have hk6':(a.kind == 6)=false:=by simpa using fun h=>hk67 (.inl h)
  have hk7':(a.kind == 7)=false:=by simpa using fun h=>hk67 (.inr h)
  clear HX4 hk67
  by_cases hk8:a.kind=8
  ·have hk8':(a.kind == 8)=true:=by simpa using hk8
   have HX6:=hide (HX5.out.trans (if_pos hk8))
   have hu:=HU5.out
   clear HX5 HU5 hk8
   by_cases hl:s.away.length=0
   ·have HX7:=hide (show X=s by rw [HX6.out,show s.away=[] from List.eq_nil_of_length_eq_zero hl];rfl)
    rw [if_pos hl] at hu
    subst hu
    clear HX6 hl
    go_wp2_with fail
    go_end0
    exact ⟨rfl,by rw [HX7.out];exact CPost.same HC.out qc⟩
   rw [if_neg hl] at hu
   subst hu
   obtain ⟨a9,v9,H,rfl⟩:=CC.out
   obtain ⟨k,hk⟩:∃ k,k=a.pick.toNat % s.away.length:=⟨_,rfl⟩
   have hkl:k<s.away.length:=by rw [hk];exact Nat.mod_lt _ (by omega)
   rw [←hk] at HX6 ⊢
   have HX7:=hide (show X=if s.away.length<300 then { s with away:=s.away ++ [s.away[k]] } else s by rw [HX6.out,List.getElem?_eq_getElem hkl])
   obtain ⟨A3,c3,rows3,haw,hO3,hR3,hS3⟩:=H.aw.form
   have g99:=H.raw.top.1
   rw [haw] at g99
   have hnc3:=hS3.nc
   have hcm3:=hS3.cm
   unfold maxLen at hcm3
   have ik:(k:Int)<(s.away.length:Int):=by omega
   have ik0:(0:Int)≤(k:Int):=by omega
   by_cases h3:s.away.length<300
   ·have HX8:=hide (HX7.out.trans (if_pos h3))
    have h3':((s.away.length:Nat):Int)<300:=by omega
    obtain ⟨bq,off,row,rfl,hbb,hrg,hmq⟩:=msg_range hS3 hR3 hkl
    generalize s.away[k]=m at *
    obtain ⟨I,i1,i2,E,e1,e2,C,d1,d2,hrw,hI,hE,hC⟩:=hmq
    replace hrw:row=[.int .i64 m.src,.int .i64 m.dst,.int .i64 m.kind,.int .i64 m.term,.int .i64 m.last,.int .i64 m.lastTerm,.bool m.yes,.int .i64 m.commit,.slice I i1 i2,.int .i64 m.si,.int .i64 m.st,.int .i64 m.sm.now,.slice E e1 e2,.int .i64 m.sm.next,.slice C d1 d2]:=hrw
    subst hrw
    have HAWV:=hide haw
    clear hO3 hR3 hS3 haw HX6 HX7 hk hl hkl h3
    go_upto_region 23 with fail
    obtain ⟨w5,hw5⟩:∃ w5,w5=wc.drew:=⟨_,rfl⟩
    have b5:Below wc.heap.size wc w5:=by rw [hw5];exact (Below.refl _ _).drew
    have H5:=H.bl b5
    have HRG:=hide (show w5.rangeAt bq (off+k*15) [.int .i64 m.src,.int .i64 m.dst,.int .i64 m.kind,.int .i64 m.term,.int .i64 m.last,.int .i64 m.lastTerm,.bool m.yes,.int .i64 m.commit,.slice I i1 i2,.int .i64 m.si,.int .i64 m.st,.int .i64 m.sm.now,.slice E e1 e2,.int .i64 m.sm.next,.slice C d1 d2] from fun j v hv=>by
     have:=hrg j v hv
     exact (b5.cell (p:=⟨bq,off+k*15+j,none⟩) hbb).trans this)
    have hHM:=hide (show MsgAt w5 m #[.int .i64 m.src,.int .i64 m.dst,.int .i64 m.kind,.int .i64 m.term,.int .i64 m.last,.int .i64 m.lastTerm,.bool m.yes,.int .i64 m.commit,.slice I i1 i2,.int .i64 m.si,.int .i64 m.st,.int .i64 m.sm.now,.slice E e1 e2,.int .i64 m.sm.next,.slice C d1 d2].toList from ⟨I,i1,i2,E,e1,e2,C,d1,d2,rfl,hI.fri (FrI.of b5),hE.fri (FrI.of b5),hC.fri (FrI.of b5)⟩)
    have K5:=hide ((Keep.of (M:=Mut Kb a9 v9) qc).trans (Keep.of b5))
    have g99':w5.cell? ⟨Kb,99,none⟩=some (.slice (some ⟨bq,off,none⟩) s.away.length c3):=by have:=H5.raw.top.1;rwa [HAWV.out] at this
    refine wp_region_x (l:=[16]) (S:=fun w'=>w'.cell? ⟨Kb,99,none⟩=some (.slice (some ⟨bq,off,none⟩) s.away.length c3)) (by kernel_rfl) (by rw [←hw5];exact g99') (fun hS=>?_)
    rw [←hw5] at hS ⊢
    clear hw5 b5 g99 hrg hI hE hC H
    refine wpAnyX_tq 0 ?_
    refine wpAnyX_tq 1 ?_
    refine wpAnyX_tq 2 ?_
    refine wpAnyX_tq 3 ?_
    refine wpAnyX_tq 4 ?_
    refine wpAnyX_tq 5 ?_
    refine wpAnyX_tq 6 ?_
    refine wpAnyX_tq 7 ?_
    refine wpAnyX_tq 8 ?_
    refine wpAnyX_tq 9 ?_
    refine wpAnyX_tq 10 ?_
    clear hS
    refine wpAnyX_oq 11 fun K hK=>?_
    refine wpList_load_mid rfl 153 _ rfl _ _ rfl [.int .i64 m.src,.int .i64 m.dst,.int .i64 m.kind,.int .i64 m.term,.int .i64 m.last,.int .i64 m.lastTerm,.bool m.yes,.int .i64 m.commit,.slice I i1 i2,.int .i64 m.si,.int .i64 m.st,.int .i64 m.sm.now,.slice E e1 e2,.int .i64 m.sm.next,.slice C d1 d2] _ HRG.out Tryz.underlying153 rfl msg_size ?_
    refine hK.out _ _ (Or.inr g99') (fun hS=>?_)
    clear hK K hS HRG
    have HR5:=H5.raw
    have hK5:=H5.raw.blk.lt
    have hb5:=H5.bw
    have O5:=H5.aw
    rw [HAWV.out] at O5
    obtain ⟨rows5,O5,R5⟩:=O5
    refine wpAnyX_oq 12 fun K hK=>?_
    go_wp2_with fail
    refine hK.out _ _ (Or.inr ((World.cell?_alloc_lt w5 _ _ hK5).trans g99')) (fun hS=>?_)
    clear hK K
    refine wpAnyX_oq 13 fun K hK=>?_
    refine wpList_push_k rfl _ _ _ rfl Tryz.underlying116 msg_info rfl (by decide) (by rfl) O5 rfl (by rfl) (row:=#[.int .i64 m.src,.int .i64 m.dst,.int .i64 m.kind,.int .i64 m.term,.int .i64 m.last,.int .i64 m.lastTerm,.bool m.yes,.int .i64 m.commit,.slice I i1 i2,.int .i64 m.si,.int .i64 m.st,.int .i64 m.sm.now,.slice E e1 e2,.int .i64 m.sm.next,.slice C d1 d2]) rfl (all_one rfl) (by unfold maxLen;omega) (by omega) hb5 ?_
    intro A6 c6 w6 O6 g6 hn6
    have P6:=Pushed.of O5 g6 hn6
    have R6:Raw w6 Kb (rowsOf s.nd a9) v9:=HR5.same (P6.blk Kb hK5 (fun e=>H5.notK (j:=6) (by omega) (by show v9.x.ownBlock=_;rw [HAWV.out];exact e) rfl))
    have M6:MSl w6 base (.slice A6 (s.away.length+1) c6) (s.away ++ [m]):=⟨_,O6,(R5.mono fun _ _ h=>h.fri P6.fr).app (Rws.one _ _ (hHM.out.fri P6.fr))⟩
    have g6':w6.cell? ⟨Kb,99,none⟩=some (.slice (some ⟨bq,off,none⟩) s.away.length c3):=by have:=R6.top.1;rwa [HAWV.out] at this
    have f6:=R6.froz 99
    refine hK.out _ _ (Or.inr g6') (fun hS=>?_)
    clear hK K g6 hn6 O6 O5 R5
    replace hS:=hS.resolve_left (by decide)
    refine wpAnyX_ps 14 ?_
    refine wpAnyX_ps 15 ?_
    clear hS
    refine wpAnyX_oq 16 fun K hK=>?_
    go_wp2_with fail
    refine hK.out _ _ (Or.inl (by decide)) (fun _=>?_)
    clear hK K
    refine wpAnyX_done (by kernel_rfl) ?_ _
    go_wp2_with fail
    obtain ⟨h1,h2⟩:=H5.push_away (by rw [HAWV.out];exact P6) M6
    go_end0
    exact ⟨rfl,_,by rw [HX8.out];exact ⟨_,_,h1,rfl⟩,K5.out.trans h2⟩
   ·have HX8:=hide (HX7.out.trans (if_neg h3))
    have h3':¬ (((s.away.length:Nat):Int)<300):=by omega
    clear HX6 HX7 hk hl hkl h3 hO3 hR3 hS3 haw
    go_wp2_with fail
    go_end0
    exact ⟨rfl,by rw [HX8.out];exact CPost.same HC.out qc⟩
  have hk8':(a.kind == 8)=false:=by simpa using hk8
  have HX6:=hide (HX5.out.trans (if_neg hk8))
  clear HX5 hk8
  by_cases hk12:a.kind=12
  ·have hk12':(a.kind == 12)=true:=by simpa using hk12
   have HX7:=hide (HX6.out.trans (if_pos hk12))
   have HG:=hide (fun k m (h:s.away[k]?=some m)=>(Or.inr ⟨hk12,k,h,rfl⟩:Going s a (comes (s.away.take k) { s with away:=[] }) m))
   clear HX6 hk12 HU5
   obtain ⟨a9,v9,H,rfl⟩:=CC.out
   obtain ⟨A3,c3,rows3,haw,hO3,hR3,hS3⟩:=H.aw.form
   have g99:=H.raw.top.1
   rw [haw] at g99
   have f99:=H.raw.froz 99
   have hcm3:=hS3.cm
   have hnc3:=hS3.nc
   unfold maxLen at hcm3
   obtain ⟨h6,k6⟩:=H.push_away (l:=[]) (Pushed.same wc v9.x) OwnR.nil
   have hnM:∀ b,v9.x.ownBlock=some b→¬ Mut Kb a9 ⟨.slice none 0 0,v9.y,v9.z⟩ b:=by
    rintro b hb (rfl|⟨j,hj,hb'⟩)
    ·exact H.notK (j:=6) (by omega) hb rfl
    ·by_cases h6:j=6
     ·subst h6;simp [slotV,Value.ownBlock] at hb'
     ·refine H.apart 6 j (by omega) hj (Ne.symm h6) b hb ?_
      match j,hj with
      | 0,_|1,_|2,_|3,_|4,_|5,_|7,_|8,_=>exact hb'
      | 6,_=>exact absurd rfl h6
   have hKw:Kb<wc.heap.size:=H.raw.blk.lt
   have hne:∀ b,v9.x.ownBlock=some b→b≠Kb:=fun b hb=>H.notK (j:=6) (by omega) hb
   have HSQ:=hide (show Sl (wc.setCell ⟨Kb,99,none⟩ (.slice none 0 0)) 15 A3 s.away.length c3 rows3 from by
    have h1:Own (wc.setCell ⟨Kb,99,none⟩ (.slice none 0 0)) base 153 15 (.slice A3 s.away.length c3) rows3:=own_same hO3 fun b hb=>Below.heap_setCell wc ⟨Kb,99,none⟩ _ b (hne b (by rw [haw];exact hb))
    exact h1.sl')
   have HRQ:=hide (hR3.mono fun _ _ h=>h.fri k6.fr)
   have HOQ:=hide (show Own (wc.setCell ⟨Kb,99,none⟩ (.slice none 0 0)) base 153 15 (.slice A3 s.away.length c3) rows3 from own_same hO3 fun b hb=>Below.heap_setCell wc ⟨Kb,99,none⟩ _ b (hne b (by rw [haw];exact hb)))
   have HNM:=hide (show ∀ b,(Value.slice A3 s.away.length c3).ownBlock=some b→¬ Mut Kb a9 ⟨.slice none 0 0,v9.y,v9.z⟩ b from fun b hb=>hnM b (by rw [haw];exact hb))
   have HH6:=hide h6
   have K6:=hide ((Keep.of (M:=Mut Kb a9 v9) qc).trans k6)
   clear h6 k6 hnM hne hO3 hR3 hS3 haw H
   go_wp2_with fail
   obtain ⟨w6,hw6⟩:∃ w6,w6=wc.setCell ⟨Kb,99,none⟩ (.slice none 0 0):=⟨_,rfl⟩
   rw [←hw6] at HSQ HRQ HOQ HH6 K6 ⊢
   clear hw6 g99 f99 BC cBC fBC hbl
   go_loopw [133] (fun s133 wr=>∃ q:Nat,q≤s.away.length∧s133 = .int .i64 (q:Int)∧∃ M',Cr wr base Kb M' (comes (s.away.take q) { s with away:=[] })∧Keep (Mut Kb a9 ⟨.slice none 0 0,v9.y,v9.z⟩) M' w6 wr) (fun s133 _=>s.away.length - (intOf s133).toNat)
   case atStart=>exact ⟨0,by omega,rfl,_,⟨_,_,HH6.out,rfl⟩,Keep.of (Below.refl _ _)⟩
   case round=>
    obtain ⟨q,hq,rfl,M',hcr,kr⟩:=hrel
    by_cases hlt:q<s.away.length
    ·have iq:(q:Int)<(s.away.length:Int):=by omega
     have hown:Own wr base 153 15 (.slice A3 s.away.length c3) rows3:=own_same HOQ.out fun b hb=>kr.blk b (by
      obtain ⟨cur,hcc⟩:=own_typed HOQ.out hb
      exact Blk.lt hcc) (HNM.out b hb)
     obtain ⟨bq,off,row,rfl,hbb,hrg,hmq⟩:=msg_range hown.sl' (HRQ.out.mono fun _ _ h=>h.fri kr.fr) hlt
     have HGQ:=hide (HG.out q _ (List.getElem?_eq_getElem hlt))
     have HNX:=hide (show comes (s.away.take (q+1)) { s with away:=[] }=(comes (s.away.take q) { s with away:=[] }).come s.away[q] by rw [List.take_succ_eq_append_getElem hlt,comes_snoc])
     generalize s.away[q]=m at *
     obtain ⟨I,i1,i2,E,e1,e2,C,d1,d2,hrw,hI,hE,hC⟩:=hmq
     replace hrw:row=[.int .i64 m.src,.int .i64 m.dst,.int .i64 m.kind,.int .i64 m.term,.int .i64 m.last,.int .i64 m.lastTerm,.bool m.yes,.int .i64 m.commit,.slice I i1 i2,.int .i64 m.si,.int .i64 m.st,.int .i64 m.sm.now,.slice E e1 e2,.int .i64 m.sm.next,.slice C d1 d2]:=hrw
     subst hrw
     have HRG:=hide hrg
     have HM:=hide (show ∀ w',FrI wr w'→MsgAt w' m #[.int .i64 m.src,.int .i64 m.dst,.int .i64 m.kind,.int .i64 m.term,.int .i64 m.last,.int .i64 m.lastTerm,.bool m.yes,.int .i64 m.commit,.slice I i1 i2,.int .i64 m.si,.int .i64 m.st,.int .i64 m.sm.now,.slice E e1 e2,.int .i64 m.sm.next,.slice C d1 d2].toList from fun w' f=>⟨I,i1,i2,E,e1,e2,C,d1,d2,rfl,hI.fri f,hE.fri f,hC.fri f⟩)
     have HCR:=hide hcr
     have HKR:=hide kr
     clear hrg hown hI hE hC hcr kr
     go_upto_region 30 with (first|(refine wpList_load_mid rfl 153 _ rfl _ _ rfl [.int .i64 m.src,.int .i64 m.dst,.int .i64 m.kind,.int .i64 m.term,.int .i64 m.last,.int .i64 m.lastTerm,.bool m.yes,.int .i64 m.commit,.slice I i1 i2,.int .i64 m.si,.int .i64 m.st,.int .i64 m.sm.now,.slice E e1 e2,.int .i64 m.sm.next,.slice C d1 d2] _ HRG.out Tryz.underlying153 rfl msg_size ?_)|(refine wpList_sto rfl 153 _ _ rfl (cells:=#[.int .i64 m.src,.int .i64 m.dst,.int .i64 m.kind,.int .i64 m.term,.int .i64 m.last,.int .i64 m.lastTerm,.bool m.yes,.int .i64 m.commit,.slice I i1 i2,.int .i64 m.si,.int .i64 m.st,.int .i64 m.sm.now,.slice E e1 e2,.int .i64 m.sm.next,.slice C d1 d2]) rfl rfl (Blk.new wr _ _) rfl msg_size (all_one rfl) ?_;intro w4 Z4 gr4 sz4))
     have q34:Below wr.heap.size wr (wr.alloc (.cells #[.int .i64 0,.int .i64 0,.int .i64 0,.int .i64 0,.int .i64 0,.int .i64 0,.bool false,.int .i64 0,.slice none 0 0,.int .i64 0,.int .i64 0,.int .i64 0,.slice none 0 0,.int .i64 0,.slice none 0 0] 153)):=below_by
     have b4:Below wr.heap.size wr w4:=below_sto q34 gr4 (by simp) (Nat.le_refl _)
     have hl4:=Z4.lt
     have HK4:=hide (HKR.out.trans (Keep.of b4))
     have HCC:=hide (HCO.out _ _ HGQ.out _ _ _ (HCR.out.bl b4) (K6.out.trans HK4.out) (HM.out _ (FrI.of b4)))
     have HCC:=hide (show Calls Tryz.prog 70 #[.pointer (some ⟨Kb,0,none⟩),.agg #[.int .i64 m.src,.int .i64 m.dst,.int .i64 m.kind,.int .i64 m.term,.int .i64 m.last,.int .i64 m.lastTerm,.bool m.yes,.int .i64 m.commit,.slice I i1 i2,.int .i64 m.si,.int .i64 m.st,.int .i64 m.sm.now,.slice E e1 e2,.int .i64 m.sm.next,.slice C d1 d2]] w4 (Does base Kb _ _ w4) from HCC.out)
     rw [←HNX.out] at HCC
     clear gr4 sz4 q34 b4 HRG HM HCR HKR HNX HGQ
     go_wp2_with (refine wpList_lod rfl 153 _ rfl rfl Z4 Tryz.underlying153 rfl msg_size ?_)
     refine HCC.out.mono ?_
     rintro e w7 ⟨rfl,M7,hc7,k7⟩
     go_wp2_with fail
     go_roundw
     case rel=>exact ⟨q+1,by omega,by go_num,M7,hc7,HK4.out.trans k7⟩
     case measure=>simp [intOf];omega
    ·obtain rfl:q=s.away.length:=by omega
     have iq:¬ (s.away.length:Int)<(s.away.length:Int):=by omega
     rw [List.take_length] at hcr
     have HCR:=hide hcr
     have HKR:=hide kr
     clear hcr kr
     go_wp2_with fail
     go_end0
     exact ⟨rfl,M',by rw [HX7.out];exact HCR.out,K6.out.trans HKR.out⟩
  have hk12':(a.kind == 12)=false:=by simpa using hk12
  have HX7:=hide (HX6.out.trans (if_neg hk12))
  clear HX6 hk12
  have n1:=CC.out.nup hi
  by_cases hup:(s.nd.get i).up=true
  ·have HX8:=hide (HX7.out.trans (if_pos hup))
   rw [hup] at n1
   have HP:=hide (HAC.out hup wc qc)
   have HP:=hide (show Calls Tryz.prog 71 #[.pointer (some ⟨Kb,0,none⟩),.pointer (some ⟨Kb,i*33,none⟩),.agg #[.int .i64 a.kind,.int .i64 a.node,.int .i64 a.pick,.int .i64 a.client,.int .i64 a.seq,.int .i64 a.cmd.kind,.string a.cmd.key,.string a.cmd.field,.string a.cmd.text,.int .i64 a.cmd.n]] wc (Does base Kb M _ wc) from HP.out)
   rw [←HX8.out] at HP
   clear HX7 HX8 hup
   go_wp2_with fail
   refine HP.out.mono ?_
   rintro e w3 ⟨rfl,hp⟩
   go_wp2_with fail
   go_end0
   exact ⟨rfl,hp.pre qc⟩
  ·have hup:(s.nd.get i).up=false:=by simpa using hup
   have HX8:=hide (HX7.out.trans (if_neg (by rw [hup];decide)))
   rw [hup] at n1
   clear HX7 hup
   go_wp2_with fail
   go_end0
   exact ⟨rfl,by rw [HX8.out];exact CPost.same HC.out qc⟩
end
end Go.Proofs.YtgdcofbnbiclmaaGreatDoor

