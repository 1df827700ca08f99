/- rostrumkeep.FoldLoad returns true for every input; client.nothing holds what its initialiser lays. -/
import Derived.Test.YtgmojjclobkpjaaGreatDoorDFoldLoadA
namespace Go.Proofs.YtgmojjclobkpjaaGreatDoor
set_option linter.all false
set_option maxHeartbeats 32000000
open Go.ChangeShapes Go.WideShapes Go.ChangeAt Go.RowKit
theorem items_terms1:∀ (l:List DeedD) (t m:Int),∀ x∈itemsGo t m l,x.term≤t+l.length
 | [],_,_,x,h=>by simp [itemsGo] at h
 | d :: l,t,m,x,h=>by
  have o1:=picked_lo d.off 4 (by omega)
  have o2:=picked_hi d.off 4 (by omega)
  simp only [itemsGo,List.mem_cons] at h
  rcases h with rfl|h
  ·show t+picked d.off 4 / 3≤_
   simp;omega
  ·have:=items_terms1 l _ _ x h
   simp at this ⊢;omega
theorem items_le (l:List DeedD):∀ x∈itemsOf l 1,x.term≤31:=by
 intro x hx
 have hl:((l.take 30).length:Int)≤30:=by rw [List.length_take];omega
 unfold itemsOf at hx
 have:=items_terms1 _ _ _ x hx
 omega
def loadDk (xs:List Itm) (j:Nat) (t:Int) (oth:Bool) (m:Mach):Dk:={ newDk with si:=(j+1:Nat),st:=t,m:=m,b:=(j+1:Nat),bt:=t,L:=if oth=true then [] else xs.drop (j+1) }
theorem fold_load {xs:List Itm} {j:Nat} (hj:j<xs.length) (h:checkLog 0 0 xs=0) (hl:xs.length≤30) (oth:Bool) (m:Mach) (t:Int) (ht:t=xs[j].term+(if oth=true then 100 else 0)) :
  foldG newDk (linesFrom 1 xs ++ [.load (j+1:Nat) t m])=(loadDk xs j t oth m,0):=by
 have e:termE 0 0 xs ((j+1:Nat):Int)=(xs[j].term,0):=by
  have e1:=termOf_k (b:=0) (bt:=0) (L:=xs) (k:=j+1) (by omega)
  have e2:=termOf_in (base:=0) (bt:=0) (l:=xs) (k:=j+1) (by omega)
  rw [Int.zero_add] at e1 e2
  unfold termE
  rw [if_neg (by omega)]
  simp [List.getElem?_eq_getElem hj] at e1
  exact Prod.ext e1 e2
 rw [foldG_app,fold_all h,if_pos rfl,foldG_one]
 have hs:stepD { newDk with L:=xs } (.load (j+1:Nat) t m)=(loadDk xs j t oth m,0):=by
  have hr:restL 0 0 xs ((j+1:Nat):Int) t=if oth=true then [] else xs.drop (j+1):=by
   unfold restL
   rw [e]
   cases oth with
   | true=>rw [if_neg (by simp at ht ⊢;omega),if_pos rfl]
   | false=>
    rw [if_pos (by simp at ht;rw [ht]),if_neg (by decide)]
    rw [show (((j+1:Nat):Int) - 0).toNat=j+1 by omega]
  show (if (0:Int)<((j+1:Nat):Int) then _ else _)=_
  rw [if_pos (by omega)]
  show (({ newDk with si:=((j+1:Nat):Int),st:=t,m:=m,b:=((j+1:Nat):Int),bt:=t,L:=restL 0 0 xs ((j+1:Nat):Int) t }:Dk),(0:Int))=_
  rw [hr]
  rfl
 rw [hs,if_pos rfl]
theorem fold_load2 {xs:List Itm} {j:Nat} (hj:j<xs.length) (h:checkLog 0 0 xs=0) (hl:xs.length≤30) (oth:Bool) (m:Mach) (t:Int) (ht:t=xs[j].term+(if oth=true then 100 else 0)) :
  foldG newDk ((linesFrom 1 xs ++ [.load (j+1:Nat) t m]) ++ (if 0<j then [.load j t m] else []))=(loadDk xs j t oth m,0):=by
 rw [foldG_app,fold_load hj h hl oth m t ht,if_pos rfl]
 split
 ·rw [foldG_one]
  have hs:stepD (loadDk xs j t oth m) (.load j t m)=(loadDk xs j t oth m,0):=by
   show (if ((j+1:Nat):Int)<(j:Int) then _ else _)=_
   rw [if_neg (by omega)]
  rw [hs,if_pos rfl]
 ·rfl
theorem snap6:(Tryz.prog.info? 43).map (·.size)=some 6:=by kernel_rfl
theorem ms_of {w:World} {m:Mach} {E C:Option Addr} {ne ce nc cc:Nat} (h:RecAt w (.load 0 0 m) (loadCells 0 0 m (.slice E ne ce) (.slice C nc cc))):St w E ne ce m.ents∧Ci w C nc cc m.clis:=by
 obtain ⟨A,n,c,B,k,d,e,h1,h2⟩:=h
 simp only [loadCells,List.cons.injEq,Value.slice.injEq,and_true,true_and] at e
 obtain ⟨⟨rfl,rfl,rfl⟩,rfl,rfl,rfl⟩:=e
 exact ⟨h1,h2⟩
theorem ms_grown {w w':World} {m:Mach} {E C:Option Addr} {ne ce nc cc g:Nat} {cs:Array Value} (hE:St w E ne ce m.ents) (hC:Ci w C nc cc m.clis) (R:Blk w g 43 cs) (hg:w.grownBy w' (some g)):St w' E ne ce m.ents∧Ci w' C nc cc m.clis:=
 ms_of (RecAt.grown (r:=.load 0 0 m) ⟨_,_,_,_,_,_,rfl,hE,hC⟩ R hg)
theorem ms_own {w w':World} {m:Mach} {E C:Option Addr} {ne ce nc cc B size:Nat} {v:Value} {rows:List (List Value)} (hE:St w E ne ce m.ents) (hC:Ci w C nc cc m.clis) (ho:Own w B 45 size v rows) (hg:w.grownBy w' v.ownBlock):St w' E ne ce m.ents∧Ci w' C nc cc m.clis:=
 ms_of (RecAt.own (r:=.load 0 0 m) ⟨_,_,_,_,_,_,rfl,hE,hC⟩ ho hg)
set_option maxRecDepth 100000 in
theorem foldLoad_walk (A:Option Addr) (n c:Nat) (l:List DeedD) (at_:Int) (oth:Bool) (Am:Option Addr) (nm cm:Nat) (lm:List DeedD) (w:World) (hS:Sl w 8 A n c (deedRows l)) (hd:∀ d∈l,d.ok) (hat:I64 at_) (hSm:Sl w 8 Am nm cm (deedRows lm)) (hdm:∀ d∈lm,d.ok) (hNo:Noth w) :
  Calls Tryz.prog 5 #[.slice A n c,.int .i64 at_,.bool oth,.slice Am nm cm] w fun e w'=>e = .returned (.bool true)∧Below w.heap.size w w':=by
 have hn:=deed_len hS
 subst hn
 have hnm:=deed_len hSm
 subst hnm
 obtain ⟨J,hJ⟩:∃ J,J=min l.length 29:=⟨_,rfl⟩
 have hJl:J≤l.length:=by omega
 have hJ29:J≤29:=by omega
 have hif:(if (29:Int)<(l.length:Int) then (29:Int) else (l.length:Int))=(J:Int):=by split <;> omega
 have hmn:min (l.length:Int) 29=(J:Int):=by omega
 clear hJ
 obtain ⟨M,hM⟩:∃ M,M=min lm.length 8:=⟨_,rfl⟩
 have hMl:M≤lm.length:=by omega
 have hif2:(if (8:Int)<(lm.length:Int) then (8:Int) else (lm.length:Int))=(M:Int):=by split <;> omega
 have hmn2:min (lm.length:Int) 8=(M:Int):=by omega
 clear hM
 have hcm2:=hSm.nc
 have hMc:(M:Int)≤(cm:Int):=by omega
 have s2:=fun w=>run_take Tryz.underlying56 deed_size Am lm.length cm M (by omega) w
 have hSt2:=hSm.take M hMl cm (by omega) (Nat.le_refl _)
 rw [deedRows_take] at hSt2
 have HMA:=hide (fun w' (q:Below w.heap.size w w')=>Machine_any Am M cm (lm.take M) w' (hSt2.below q) (fun d h=>hdm d (List.mem_of_mem_take h)) (hNo.bl q))
 have hmok:=(machOf_inv (lm.take M)).ok
 generalize machOf (lm.take M)=m at *
 unfold MachPost at HMA
 have hdl:∀ d∈l.take J ++ [zeroDeed],d.ok:=by
  intro d hm
  rcases List.mem_append.1 hm with hm|hm
  ·exact hd d (List.mem_of_mem_take hm)
  ·rw [List.mem_singleton] at hm;subst hm;exact zeroDeed_ok
 have HIT:=hide (fun A n c w h=>items_any A n c (l.take J ++ [zeroDeed]) 1 w h hdl (by omega) (by omega))
 have hg:=items_good (l.take J ++ [zeroDeed])
 have hXt:=items_le (l.take J ++ [zeroDeed])
 have hXl:(itemsOf (l.take J ++ [zeroDeed]) 1).length≤30:=by rw [itemsOf_length];omega
 have hX0:0<(itemsOf (l.take J ++ [zeroDeed]) 1).length:=by rw [itemsOf_length];simp;omega
 generalize itemsOf (l.take J ++ [zeroDeed]) 1=X at *
 have r1:=picked_lo at_ X.length (by omega)
 have r2:=picked_hi at_ X.length (by omega)
 have HPK:=hide (fun w=>picked_any at_ X.length w hat.1 hat.2 (by omega) (by omega))
 obtain ⟨j,hj⟩:=Int.eq_ofNat_of_zero_le r1
 rw [hj] at HPK r2
 have hjl:j<X.length:=by omega
 have hch:=chain_each _ _ _ (log_good hg).2.2.2.2.2.2
 have hxc:=hch X[j] (List.getElem_mem _)
 have hx1:=(checkItem_ok hxc).1
 have hx31:=hXt X[j] (List.getElem_mem _)
 obtain ⟨t,ht⟩:∃ t,t=X[j].term+(if oth=true then 100 else 0):=⟨_,rfl⟩
 have ht0:1≤t:=by rw [ht];split <;> omega
 have ht1:t≤131:=by rw [ht];split <;> omega
 have hfl:=fold_load2 hjl hg hXl oth m t ht
 have hK:((j+1:Nat):Int)=1+(j:Int):=by omega
 have hok:∀ r∈(linesFrom 1 X ++ [RK.load (1+(j:Int)) t m]) ++ (if 0<j then [RK.load (j:Int) t m] else []),r.Ok:=fun r hr=>by
  rcases List.mem_append.1 hr with hr|hr
  ·rcases List.mem_append.1 hr with hr|hr
   ·exact linesFrom_ok X 1 (by omega) (by omega) hch r hr
   ·rw [List.mem_singleton] at hr;subst hr;exact ⟨number_iff.2 ⟨by omega,by omega⟩,number_iff.2 ⟨by omega,by omega⟩,hmok⟩
  ·split at hr
   ·rw [List.mem_singleton] at hr;subst hr;exact ⟨number_iff.2 ⟨by omega,by omega⟩,number_iff.2 ⟨by omega,by omega⟩,hmok⟩
   ·cases hr
 have HF:=hide (fun A n c rows w h=>Fold_any ((linesFrom 1 X ++ [RK.load (1+(j:Int)) t m]) ++ (if 0<j then [RK.load (j:Int) t m] else [])) hok A n c rows w h)
 unfold loadDk at hfl
 simp only [hK] at hfl
 rw [hfl] at HF
 unfold FoldPost at HF
 simp only [newDk,newMach] at HF
 have HT:=hide ht
 have HMB:=hide (show m.ents.length≤1048576∧m.clis.length≤1048576 from ⟨by have:=hmok.sto.few;omega,by have:=hmok.few;omega⟩)
 clear hd hdl hdm hj r1 hat hfl hch hxc hok hg hXt ht hSm hSt2 hx1
 have hlm:=hS.nc
 have hlc:=hS.cm
 unfold maxLen at hlc
 have s1:=fun w=>run_take Tryz.underlying56 deed_size A l.length c J (by omega) w
 have hSt:=hS.take J hJl c (by omega) (Nat.le_refl _)
 rw [deedRows_take] at hSt
 have hJc:(J:Int)≤(c:Int):=by omega
 go_enter Tryz.func5,Tryz.ntmps5
 go_wp2_with (first
  | (at_builtin;refine wpList_pushes rfl _ _ _ rfl Tryz.underlying56 deed_info rfl (by decide) (by rfl) (Own.nil (base:=w.heap.size)) (by rfl) hSt (deed_one _) (by simp [maxLen];omega) (by simp;omega) (Nat.le_refl _) ?_;intro A1 n1 c1 w1 hown1 hb1)
  | (at_builtin;refine wpList_push rfl _ _ _ rfl Tryz.underlying56 deed_info rfl (by decide) (by rfl) hown1 rfl (by rfl) rfl (row:=#[.int .i64 0,.int .i64 0,.int .i64 0,.int .i64 0,.int .i64 0,.int .i64 0,.int .i64 0,.string emp]) (by simp [Value.oneCell']) ?_ ?_ (by have:=hb1.size;omega) ?_))
 ·rw [List.nil_append,show (deedRows (l.take J)).length=J by simp [deedRows];omega];unfold maxLen;omega
 ·rw [List.nil_append,show (deedRows (l.take J)).length=J by simp [deedRows];omega];omega
 intro v' w2 hown2 hb2 hz2
 have hown3:Own w2 w.heap.size 62 8 v' (deedRows (l.take J ++ [zeroDeed])):=by rw [deedRows_snoc];exact hown2
 obtain ⟨A2,n2,c2,rfl⟩:∃ A n c,v' = .slice A n c:=by obtain ⟨A,c,e,_⟩:=hown3.sl;exact ⟨A,_,c,e⟩
 have hbw:Below w.heap.size w w2:=hb1.trans hb2
 clear hif hmn s1 hSt hown2 hown1
 go_wp2_with fail
 refine (HIT.out _ _ _ _ hown3.sl').mono ?_
 rintro e w3 ⟨v,rfl,O1,b3⟩
 obtain ⟨A1,n1,c1,rfl⟩:=own_slice O1
 have S1:=O1.sl'
 obtain rfl:=rows_len S1
 have q3:=bstep hbw b3
 have hq3:=hide q3.size
 clear O1 HIT hown3 hbw b3 hb1 hb2 hz2
 go_wp2_with fail
 go_loopw [10,11] (fun s6 s7 wr=>∃ i:Nat,i≤X.length∧s7 = .int .i64 (i:Int)∧Own wr w3.heap.size 45 20 s6 (lineRows 1 (X.take i))∧Below w3.heap.size w3 wr) (fun _ s7 _=>X.length - (intOf s7).toNat)
 case atStart=>exact ⟨0,by omega,rfl,Own.nil,Below.refl _ _⟩
 case round=>
  obtain ⟨i,hi,rfl,O,q⟩:=hrel
  by_cases hlt:i<X.length
  ·obtain ⟨b,off,rfl,hb,I⟩:=(S1.below q).item hlt
   obtain ⟨i0,i1,i2,i3,i4,i5,i6,i7,i8,i9⟩:=I
   have hsn:=hide (show lineRows 1 (X.take (i+1))=lineRows 1 (X.take i) ++ [lineCells (i+1) X[i]] by
    rw [List.take_succ_eq_append_getElem hlt,lineRows_snoc,List.length_take,Nat.min_eq_left hi,Int.add_comm])
   have hlen:=hide (show (lineRows 1 (X.take i)).length=i by rw [lineRows_len,List.length_take,Nat.min_eq_left hi])
   have hqs:=q.size
   generalize X[i]=y at *
   go_wp2_with (at_builtin;refine wpList_push rfl _ _ _ rfl Tryz.underlying23 rec_infoL rfl (by decide) (by rfl) O rfl (by rfl) (row:=#[.int .i64 2,.int .i64 0,.int .i64 0,.int .i64 ((i:Int)+1),.int .i64 y.term,.int .i64 y.time,.bool y.nop,.int .i64 y.client,.int .i64 y.seq,.int .i64 y.cmd.kind,.string y.cmd.key,.string y.cmd.field,.string y.cmd.text,.int .i64 y.cmd.n,.int .i64 0,.int .i64 0,.int .i64 0,.slice none 0 0,.int .i64 0,.slice none 0 0]) rfl (all_one rfl) ?_ ?_ hqs ?_)
   ·rw [hlen.out];unfold maxLen;omega
   ·rw [hlen.out];omega
   intro v5 w5 O5 b5 hz5
   replace O5:Own w5 w3.heap.size 45 20 v5 (lineRows 1 (X.take (i+1))):=by rw [hsn.out];exact O5
   go_wp2_with fail
   go_roundw
   case rel=>exact ⟨i+1,by omega,by go_num,O5,q.trans b5⟩
   case measure=>simp [intOf];omega
  ·obtain rfl:i=X.length:=by omega
   rw [List.take_of_length_le (Nat.le_refl _)] at O
   obtain ⟨A4,n4,c4,rfl⟩:=own_slice O
   obtain rfl:X.length=n4:=by have:=O.sl'.len;rw [lineRows_len] at this;exact this
   have S1r:=S1.below q
   go_wp2_with fail
   refine (HPK.out _).mono ?_
   rintro e w' ⟨rfl,rfl⟩
   obtain ⟨xb,xo,rfl,hxb,XI⟩:=S1r.item hjl
   have x0:=XI.c0
   have wk:IntKind.i64.wrap (1+(j:Int))=1+(j:Int):=IntWalk.i64_in _ (by omega)
   have wj:IntKind.i64.wrap (1+(j:Int) - 1)=(j:Int):=by rw [IntWalk.i64_in _ (by omega)];omega
   have wj2:IntKind.i64.wrap (j:Int)=(j:Int):=IntWalk.i64_in _ (by omega)
   go_upto_region 8 with fail
   refine wp_region_x (l:=[]) (S:=fun w'=>w'.cell? ⟨xb,xo+j*10,none⟩=some (.int .i64 X[j].term)) (by kernel_rfl) x0 (fun hS=>?_)
   have bd:Below wr.heap.size wr wr.drew:=(Below.refl _ wr).drew
   obtain ⟨wd,hwd⟩:∃ wd,wd=wr.drew:=⟨_,rfl⟩
   rw [←hwd] at hS bd ⊢
   clear hwd
   clear S1r
   replace O:=O.below bd;replace q:=bstep q bd
   replace hxb:xb<wd.heap.size:=by have:=bd.size;omega
   clear bd x0 XI
   have HS:=hide (fun w' (b':Below wd.heap.size wd w')=>(show w'.cell? ⟨xb,xo+j*10,none⟩=some (.int .i64 X[j].term) from (b'.cell (p:=⟨xb,xo+j*10,none⟩) hxb).trans hS))
   refine wpAnyX_tq 0 ?_
   refine wpAnyX_tq 1 ?_
   refine wpAnyX_tq 2 ?_
   refine wpAnyX_tq 3 ?_
   refine wpAnyX_tq 4 ?_
   refine wpAnyX_tq 5 ?_
   refine wpAnyX_tq 6 ?_
   refine wpAnyX_tq 7 ?_
   refine wpAnyX_tq 8 ?_
   refine wpAnyX_tq 9 ?_
   refine wpAnyX_tq 10 ?_
   refine wpAnyX_tq 11 ?_
   clear hS
   refine wpG_start1 (j:=14) (d:=13) (t:=43) (z:=#[.int .i64 0,.int .i64 0,.int .i64 0,.slice none 0 0,.int .i64 0,.slice none 0 0]) (val:=vptr) (C:=fun _=>True) ⟨⟨_,rfl,rfl,rfl,fun a w _=>?al1⟩,vptr_inj⟩ (fun al1=>?_)
   (case al1=>simp [go_sem,execOp,vptr])
   refine wpG_phase1 (base:=wd.heap.size) al1 12 (f:=2) (fun b_=>#[true,true,true,true,true,true,true,true,true,true,true,true,false,false,b_,false]) (fun w'=>Below wd.heap.size wd w') (x:=undef) (fun w' q=>HS.out w' q) (fun w' o q=>q.alloc q.size o) (fun w' q=>q.size) (fun _=>trivial) (Below.refl _ wd) PendG.no ?_
   intro b_ y_ wa Ga hy K_ hK_
   (try simp only [vptr,vsl,Act.put,List.setIfInBounds_toArray,List.set_cons_zero,List.set_cons_succ,List.getElem_toArray,List.getElem_cons_zero,List.getElem_cons_succ])
   go_wp2_with fail
   refine (HMA.out _ (bstep q3 (bstep q Ga))).mono ?_
   rintro e wb ⟨E,ne,ce,C,nc,cc,rfl,hE,hC,bb⟩
   go_wp2_with fail
   replace hy:=hy.bl bb
   have Gb:=bstep Ga bb
   have hSb:=HS.out _ Gb
   refine hK_.out _ _ (Or.inr hSb) ?_
   clear hK_ K_ Ga bb HMA
   refine wpG_take1 13 (f:=1) (fun b_=>#[true,true,true,true,true,true,true,true,true,true,true,true,true,false,b_,false]) ?_
   refine wpG_lay1 (base:=wd.heap.size) al1 (f:=1) (fun b_=>#[true,true,true,true,true,true,true,true,true,true,true,true,true,true,b_,false]) (fun w'=>Below wb.heap.size wb w') (x:=y_) (fun w' q=>HS.out w' (bstep Gb q)) (fun w' o q=>q.alloc q.size o) (fun w' q=>Nat.le_trans Gb.size q.size) (fun _=>trivial) (Below.refl _ wb) hy ?_
   clear hy hSb
   intro gs wc bc hgs Bc
   (try simp only [vptr,vsl,Act.put,List.setIfInBounds_toArray,List.set_cons_zero,List.set_cons_succ,List.getElem_toArray,List.getElem_cons_zero,List.getElem_cons_succ])
   replace hE:=hE.bl bc;replace hC:=hC.bl bc
   have Gc:=bstep Gb bc
   clear al1 bc Gb
   refine wpAnyX_oq 15 fun K hK=>?_
   refine wpList_store_blk rfl 43 _ _ rfl (cells:=#[.int .i64 (1+(j:Int)),.int .i64 X[j].term,.int .i64 m.now,.slice E ne ce,.int .i64 m.next,.slice C nc cc]) rfl rfl Bc rfl snap6 (all_one rfl) ?_
   intro wg SB grg szg
   have hgs3:=hide (show w3.heap.size≤gs by have:=q.size;omega)
   have bcg:Below wd.heap.size wd wg:=below_grow Gc grg Gc.size hgs
   have hSg:=HS.out _ bcg
   obtain ⟨hE,hC⟩:=ms_grown hE hC Bc grg
   replace O:=O.below bcg
   replace q:=bstep q bcg
   refine hK.out _ _ (Or.inr hSg) (fun hS=>?_)
   clear hK K grg szg Bc Gc HS hS hSg bcg
   refine wpAnyX_done (by kernel_rfl) ?_ _
   have hsb:=SB.lt
   go_upto_if 62 with fail
   go_cut [] (fun wx=>Blk wx gs 43 #[.int .i64 (1+(j:Int)),.int .i64 t,.int .i64 m.now,.slice E ne ce,.int .i64 m.next,.slice C nc cc]∧St wx E ne ce m.ents∧Ci wx C nc cc m.clis∧Own wx w3.heap.size 45 20 (.slice A4 X.length c4) (lineRows 1 X)∧Below w3.heap.size w3 wx)
   case first=>
    have ht:=HT.out
    cases oth with
    | false=>
     simp only [Bool.false_eq_true,if_false,Int.add_zero] at ht
     subst ht
     go_wp2_with fail
     go_meet
     exact ⟨SB,hE,hC,O,q⟩
    | true=>
     simp only [if_true] at ht
     have wt:IntKind.i64.wrap (X[j].term+100)=X[j].term+100:=IntWalk.i64_in _ (by omega)
     have gr:=grown_setRow_cell wg gs 1 (.int .i64 (X[j].term+100))
     have SB2:=SB.set' (i:=1) (u:=.int .i64 (X[j].term+100)) (cs':=#[.int .i64 (1+(j:Int)),.int .i64 (X[j].term+100),.int .i64 m.now,.slice E ne ce,.int .i64 m.next,.slice C nc cc]) rfl
     obtain ⟨hE2,hC2⟩:=ms_grown hE hC SB gr
     have O2:=own_grew O SB gr
     have q2:=below_grow q gr q.size hgs3.out
     (try clear cSB fSB);have cSB:=SB.cell;have fSB:=SB.frozen
     go_wp2_with fail
     go_meet
     rw [←ht] at SB2 gr hE2 hC2 O2 q2 ⊢
     exact ⟨SB2,hE2,hC2,O2,q2⟩
   case rest=>
    obtain ⟨SB,hE,hC,O,q⟩:=hcut
    clear hgs hsb
    have hsb:=SB.lt
    (try clear cSB fSB);have cSB:=SB.cell;have fSB:=SB.frozen
    have bal:Below wc.heap.size wc (wc.alloc (.cells #[.int .i64 3,.int .i64 0,.int .i64 0,.int .i64 0,.int .i64 0,.int .i64 0,.bool false,.int .i64 0,.int .i64 0,.int .i64 0,.string { data:=#[] },.string { data:=#[] },.string { data:=#[] },.int .i64 0,.int .i64 (1+(j:Int)),.int .i64 t,.int .i64 m.now,.slice E ne ce,.int .i64 m.next,.slice C nc cc] 45)):=below_by
    have Oa:=O.below bal
    obtain ⟨hE,hC⟩:=And.intro (hE.bl bal) (hC.bl bal)
    have SBa:=SB.below' bal
    have S7:Sl (wc.alloc (.cells #[.int .i64 3,.int .i64 0,.int .i64 0,.int .i64 0,.int .i64 0,.int .i64 0,.bool false,.int .i64 0,.int .i64 0,.int .i64 0,.string { data:=#[] },.string { data:=#[] },.string { data:=#[] },.int .i64 0,.int .i64 (1+(j:Int)),.int .i64 t,.int .i64 m.now,.slice E ne ce,.int .i64 m.next,.slice C nc cc] 45)) 20 (some ⟨wc.heap.size,0,none⟩) 1 1 [loadCells (1+(j:Int)) t m (.slice E ne ce) (.slice C nc cc)]:=Sl.of_blk (Blk.new wc 45 #[.int .i64 3,.int .i64 0,.int .i64 0,.int .i64 0,.int .i64 0,.int .i64 0,.bool false,.int .i64 0,.int .i64 0,.int .i64 0,.string { data:=#[] },.string { data:=#[] },.string { data:=#[] },.int .i64 0,.int .i64 (1+(j:Int)),.int .i64 t,.int .i64 m.now,.slice E ne ce,.int .i64 m.next,.slice C nc cc]) rfl (by intro r hr;rw [List.mem_singleton] at hr;subst hr;rfl) rfl (by decide)
    have qa:=bstep q bal
    have hqa:=qa.size
    have hlo:(lineRows 1 X).length≤31:=by simp [lineRows_len];omega
    go_upto_region 12 with (at_builtin;refine wpList_pushes_g rfl _ _ _ rfl Tryz.underlying23 rec_info rfl (by decide) (by rfl) Oa (by rfl) S7 (by intro r hr;rw [List.mem_singleton] at hr;subst hr;exact all_one rfl) (by unfold maxLen;omega) (by omega) hqa ?_;intro A5 n5 c5 w5 O5 b5 g5)
    obtain ⟨hE,hC⟩:=ms_own hE hC Oa g5
    have SB5:Blk w5 gs 43 #[.int .i64 (1+(j:Int)),.int .i64 t,.int .i64 m.now,.slice E ne ce,.int .i64 m.next,.slice C nc cc]:=(g5.block gs SBa.lt (Ne.symm (own_block_ne Oa SBa (by decide)))).trans SBa
    have q5:=qa.trans b5
    have RA5:RowsAt w5 (linesFrom 1 X ++ [RK.load (1+(j:Int)) t m]) (lineRows 1 X ++ [loadCells (1+(j:Int)) t m (.slice E ne ce) (.slice C nc cc)]):=RowsAt.snoc ⟨by rw [lineRows_len,linesFrom_len],fun k a b=>lineRows_rec w5 X 1 k a b⟩ ⟨_,_,_,_,_,_,rfl,hE,hC⟩
    have hgo5:=hide (show w3.heap.size≤w5.heap.size from q5.size)
    clear cSB fSB SB SBa O Oa S7 q qa g5 b5 bal hqa
    have hs5:=SB5.lt
    (try clear cSB5 fSB5);have cSB5:=SB5.cell;have fSB5:=SB5.frozen
    have bz:Below w5.heap.size w5 (w5.alloc (.cells #[.int .i64 0,.int .i64 0,.int .i64 0,.slice none 0 0,.int .i64 0,.slice none 0 0] 43)):=below_by
    go_upto_region 13 with (refine wpList_store_blk rfl 43 _ _ rfl (cells:=#[.int .i64 (1+(j:Int)),.int .i64 t,.int .i64 m.now,.slice E ne ce,.int .i64 m.next,.slice C nc cc]) rfl rfl (Blk.new w5 _ _) rfl snap6 (all_one rfl) ?_;intro w6 OB gr6 sz6)
    have b56:Below w5.heap.size w5 w6:=below_grow bz gr6 (by simp) (Nat.le_refl _)
    replace SB5:=SB5.below' b56
    obtain ⟨hE,hC⟩:=And.intro (hE.bl b56) (hC.bl b56)
    replace O5:=O5.below b56
    replace RA5:=RA5.keep (fun r row h=>h.bl b56)
    replace q5:=bstep q5 b56
    obtain ⟨go_,hgo⟩:∃ go_,go_=w5.heap.size:=⟨_,rfl⟩
    have hgo3:w3.heap.size≤go_:=by rw [hgo];exact hgo5.out
    have hne:gs≠go_:=by omega
    rw [←hgo] at OB ⊢
    clear hgo b56 bz gr6 sz6 cSB5 fSB5
    have gr:=grown_setRow_cell w6 go_ 0 (.int .i64 (j:Int))
    have OB7:=OB.set' (i:=0) (u:=.int .i64 (j:Int)) (cs':=#[.int .i64 (j:Int),.int .i64 t,.int .i64 m.now,.slice E ne ce,.int .i64 m.next,.slice C nc cc]) rfl
    have SB7:=grown_blk SB5 gr hne
    obtain ⟨hE,hC⟩:=ms_grown hE hC OB gr
    have O7:=own_grew O5 OB gr
    have RA7:=RA5.keep (fun r row h=>h.grown OB gr)
    have q7:=below_grow q5 gr q5.size hgo3
    have hob:=OB.lt
    (try clear cOB fOB);have cOB:=OB.cell;have fOB:=OB.frozen
    go_upto_if 77 with fail
    obtain ⟨w7,hw7⟩:∃ w7,w7=w6.setCell ⟨go_,0,none⟩ (.int .i64 (j:Int)):=⟨_,rfl⟩
    rw [←hw7] at OB7 SB7 hE hC O7 RA7 q7 ⊢
    clear hw7 gr OB SB5 O5 RA5 q5 cOB fOB
    go_cut [10] (fun s wx=>∃ (A:Option Addr) (n c:Nat) (rows:List (List Value)),s = .slice A n c∧Recs wx A n c ((linesFrom 1 X ++ [RK.load (1+(j:Int)) t m]) ++ (if 0<j then [RK.load (j:Int) t m] else [])) rows∧Blk wx gs 43 #[.int .i64 (1+(j:Int)),.int .i64 t,.int .i64 m.now,.slice E ne ce,.int .i64 m.next,.slice C nc cc]∧St wx E ne ce m.ents∧Ci wx C nc cc m.clis∧Below w3.heap.size w3 wx)
    case first=>
     by_cases hj0:0<j
     ·have hj1:(1:Int)<1+(j:Int):=by omega
      have hob7:=OB7.lt
      (try clear cOB7 fOB7);have cOB7:=OB7.cell;have fOB7:=OB7.frozen
      have bal:Below w7.heap.size w7 (w7.alloc (.cells #[.int .i64 3,.int .i64 0,.int .i64 0,.int .i64 0,.int .i64 0,.int .i64 0,.bool false,.int .i64 0,.int .i64 0,.int .i64 0,.string { data:=#[] },.string { data:=#[] },.string { data:=#[] },.int .i64 0,.int .i64 (j:Int),.int .i64 t,.int .i64 m.now,.slice E ne ce,.int .i64 m.next,.slice C nc cc] 45)):=below_by
      have Oa:=O7.below bal
      obtain ⟨hE,hC⟩:=And.intro (hE.bl bal) (hC.bl bal)
      have SBa:=SB7.below' bal
      have S7:Sl (w7.alloc (.cells #[.int .i64 3,.int .i64 0,.int .i64 0,.int .i64 0,.int .i64 0,.int .i64 0,.bool false,.int .i64 0,.int .i64 0,.int .i64 0,.string { data:=#[] },.string { data:=#[] },.string { data:=#[] },.int .i64 0,.int .i64 (j:Int),.int .i64 t,.int .i64 m.now,.slice E ne ce,.int .i64 m.next,.slice C nc cc] 45)) 20 (some ⟨w7.heap.size,0,none⟩) 1 1 [loadCells (j:Int) t m (.slice E ne ce) (.slice C nc cc)]:=Sl.of_blk (Blk.new w7 45 #[.int .i64 3,.int .i64 0,.int .i64 0,.int .i64 0,.int .i64 0,.int .i64 0,.bool false,.int .i64 0,.int .i64 0,.int .i64 0,.string { data:=#[] },.string { data:=#[] },.string { data:=#[] },.int .i64 0,.int .i64 (j:Int),.int .i64 t,.int .i64 m.now,.slice E ne ce,.int .i64 m.next,.slice C nc cc]) rfl (by intro r hr;rw [List.mem_singleton] at hr;subst hr;rfl) rfl (by decide)
      have qa:=bstep q7 bal
      have hqa:=qa.size
      have hlo:(lineRows 1 X ++ [loadCells (1+(j:Int)) t m (.slice E ne ce) (.slice C nc cc)]).length≤32:=by simp [lineRows_len];omega
      have RAa:=RA7.keep (fun r row h=>h.bl bal)
      go_wp2_with (at_builtin;refine wpList_pushes_g rfl _ _ _ rfl Tryz.underlying23 rec_info rfl (by decide) (by rfl) Oa (by rfl) S7 (by intro r hr;rw [List.mem_singleton] at hr;subst hr;exact all_one rfl) (by unfold maxLen;omega) (by omega) hqa ?_;intro A8 n8 c8 w8 O8 b8 g8)
      go_meet
      obtain ⟨hE8,hC8⟩:=ms_own hE hC Oa g8
      have SB8:Blk w8 gs 43 #[.int .i64 (1+(j:Int)),.int .i64 t,.int .i64 m.now,.slice E ne ce,.int .i64 m.next,.slice C nc cc]:=(g8.block gs SBa.lt (Ne.symm (own_block_ne Oa SBa (by decide)))).trans SBa
      have RA8:=RowsAt.snoc (RAa.keep (fun r row h=>h.own Oa g8)) (show RecAt w8 (.load (j:Int) t m) (loadCells (j:Int) t m (.slice E ne ce) (.slice C nc cc)) from ⟨_,_,_,_,_,_,rfl,hE8,hC8⟩)
      rw [if_pos hj0]
      exact ⟨A8,n8,c8,_,rfl,RA8.recs O8.sl',SB8,hE8,hC8,qa.trans b8⟩
     ·have hj1:¬ (1:Int)<1+(j:Int):=by omega
      go_wp2_with fail
      go_meet
      rw [if_neg hj0,List.append_nil]
      exact ⟨_,_,_,_,rfl,RA7.recs O7.sl',SB7,hE,hC,q7⟩
    case rest=>
     obtain ⟨A6,n6,c6,rows6,rfl,R6,SB,hE,hC,q⟩:=hcut
     clear SB7 OB7 O7 RA7 q7 hob hne hgo3
     go_wp2_with fail
     refine (HF.out _ _ _ _ _ R6).mono ?_
     rintro e wF ⟨h,-,bF⟩
     obtain ⟨A9,n9,c9,B9,k9,d9,I9,m9,e9,rfl,hE9,hC9,hI⟩:=h trivial
     clear h
     have bz:Below wF.heap.size wF (wF.alloc (.cells #[.int .i64 0,.int .i64 0,.int .i64 0,.int .i64 0,.int .i64 0,.slice none 0 0,.int .i64 0,.slice none 0 0,.int .i64 0,.int .i64 0,.slice none 0 0] 67)):=below_by
     go_upto_region 17 with (refine wpList_store_blk rfl 67 _ _ rfl (cells:=#[.int .i64 0,.int .i64 (-1),.int .i64 (1+(j:Int)),.int .i64 t,.int .i64 m.now,.slice A9 n9 c9,.int .i64 m.next,.slice B9 k9 d9,.int .i64 (1+(j:Int)),.int .i64 t,.slice I9 m9 e9]) rfl rfl (Blk.new wF _ _) rfl disk_size (all_one rfl) ?_;intro wD DB grD szD)
     have bD:Below wF.heap.size wF wD:=below_grow bz grD (by simp) (Nat.le_refl _)
     have bFD:=bstep bF bD
     replace SB:=SB.below' bFD
     have hE':=hE.bl bFD;have hC':=hC.bl bFD;have hE9':=hE9.bl bD;have hC9':=hC9.bl bD
     replace hI:=hI.bl bD
     have qD:=bstep q bFD
     clear bz grD szD bD bFD bF hE hC hE9 hC9 R6 HF q
     have hmb:=HMB.out
     have HSM:=hide (sameMachine_eq m A9 E B9 C n9 c9 ne ce k9 d9 nc cc wD hE9' hE' hC9' hC' hmb.1 hmb.2)
     have hdb:=DB.lt
     have hsb9:=SB.lt
     (try clear cDB fDB);have cDB:=DB.cell;have fDB:=DB.frozen;(try clear cSB fSB);have cSB:=SB.cell;have fSB:=SB.frozen
     go_wp2_with fail
     refine HSM.out.mono ?_
     rintro e wz ⟨rfl,bz⟩
     replace DB:=DB.below' bz;replace SB:=SB.below' bz;replace hI:=hI.bl bz
     have qz:=bstep qD bz
     have S1z:=S1.below qz
     have qf:=bstep q3 qz
     clear cDB fDB cSB fSB HSM hE' hC' hE9' hC9' bz
     (try clear cDB fDB);have cDB:=DB.cell;have fDB:=DB.frozen;(try clear cSB fSB);have cSB:=SB.cell;have fSB:=SB.frozen
     cases oth with
     | true=>
      have hm9:0=m9:=by have:=hI.len;simpa using this
      subst hm9
      go_wp2_with fail
      go_ret
      exact ⟨rfl,qf⟩
     | false=>
      simp only [Bool.false_eq_true,if_false] at hI
      have Sx:=S1z.drop (j+1) (by omega) c1 (Nat.le_refl _) S1z.nc
      rw [itemRows_drop] at Sx
      have hcj:(1+(j:Int))≤(X.length:Int):=by omega
      have st:=fun (w:World)=>(show (Instr.slice 57 (.slice (some ⟨xb,xo,none⟩) X.length c1) (some (.int .i64 (1+(j:Int)))) none none).run Tryz.prog w = .ok (.slice (cutA (some ⟨xb,xo,none⟩) c1 (j+1) 10) (X.length - (j+1)) (c1 - (j+1))) w from by
       have h:=run_cut Tryz.underlying57 item_size (some ⟨xb,xo,none⟩) X.length c1 (j+1) (by omega) w
       rw [hK] at h
       exact h)
      have HSA:=hide (fun w' (b':Below wz.heap.size wz w')=>(sameItems_any I9 _ m9 _ e9 _ (X.drop (j+1)) (X.drop (j+1)) w' (hI.bl b').sl (Sx.below b')).mono fun e w'' h=>(show e = .returned (.bool true)∧Below w'.heap.size w' w'' from ⟨by rw [h.1];simp,h.2⟩))
      clear S1z Sx hI
      go_upto_region 21 with fail
      clear cDB fDB cSB fSB SB
      refine wp_region_x (l:=[]) (S:=fun w'=>w'.cell? ⟨wF.heap.size,10,none⟩=some (.slice I9 m9 e9)) (by kernel_rfl) (DB.drew.cell 10) (fun hS=>?_)
      have bd:Below wz.heap.size wz wz.drew:=(Below.refl _ wz).drew
      have HS:=hide (fun w' (b':Below wz.heap.size wz w')=>(DB.below' b').cell 10)
      obtain ⟨wd2,hwd⟩:∃ wd2,wd2=wz.drew:=⟨_,rfl⟩
      rw [←hwd] at hS bd ⊢
      clear hwd
      refine wpAnyX_tq 0 ?_
      refine wpAnyX_tq 1 ?_
      refine wpAnyX_tq 2 ?_
      refine wpAnyX_tq 3 ?_
      refine wpAnyX_tq 4 ?_
      refine wpAnyX_tq 5 ?_
      refine wpAnyX_oq 6 fun K hK=>?_
      go_wp2_with fail
      refine (HSA.out _ bd).mono ?_
      rintro e wy ⟨rfl,by_⟩
      go_wp2_with fail
      have qy:=bstep bd by_
      have qe:=bstep qf qy
      refine hK.out _ _ (Or.inr (HS.out _ qy)) (fun hS=>?_)
      replace hS:=hS.resolve_left (by decide)
      clear hK K HSA by_
      refine wpAnyX_ps 7 ?_
      clear hS
      refine wpAnyX_done (by kernel_rfl) ?_ _
      go_wp2_with fail
      go_ret
      exact ⟨rfl,qe⟩
set_option maxRecDepth 100000 in
theorem foldLoad_lifted (os:Os) (started:os.Started) (H:Type) (enc:TypeId×Value→H) :
 ReturnsInHanded {} Tryz.checked os 5 .any (fun w args=>(Rows.foldLoadSpec.pre enc Tryz.prog Tryz.f5 [] false w args∧laidMetH Tryz.prog laidN w)∧sizedMet enc Tryz.prog Tryz.f5 (OpenSpec.ofChange Rows.foldLoadSpec) false w args) (Rows.foldLoadSpec.post enc Tryz.prog Tryz.f5 false true false false):=by
 refine returnsInHanded_of_change_and (C:=Tryz.checked) (X:=fun w _=>laidMetH Tryz.prog laidN w) (fun _ _ _ hh h=>h.of_heap hh) Tryz.own started (by kernel_rfl) Tryz.func5 (ChangeSpec.witness_shaped (enc:=enc) (C:=Tryz.checked) (os:=os) (X:=fun w _=>laidMetH Tryz.prog laidN w) false (World.doorLaid Tryz.prog 14 os) #[.slice none 0 0,.int .i64 0,.bool false,.slice none 0 0] 8 rfl (World.shaped_of_RefB (by kernel_rfl) (by kernel_rfl)) (by kernel_rfl) (by kernel_rfl) (by kernel_rfl) (door_met os _)) ?_
 intro W base args ds gs before hval0 hW hcnd hsz0 hL _
 have hsz:(DataW.weightsEach Tryz.prog (Tryz.f5.params.toList ++ Rows.foldLoadSpec.plain.varTypes Tryz.prog) (ds ++ gs)).all (·≤reachBytes)=true:=hsz0
 clear hsz0
 have hval:∀ (j:Nat) t v,Tryz.f5.params[j]?=some t→args[j]?=some v→Value.okWide Tryz.prog W .any base t v:=hval0
 have hW':=hW
 obtain ⟨p,q,hA0,hV,rfl,hfz,hnd⟩:=hW
 have hA:DataW.TrodAll enc Tryz.prog W 0 (fun _=>true) true Tryz.f5.params.toList args.toList ds p:=hA0
 rw [Tryz.params5] at hA hval hsz
 obtain ⟨rfl,rfl⟩:=trodVars_none hV
 clear hA0 hval0 hcnd hV hfz hnd
 have hN:=noth_of_laid hL
 obtain ⟨v0,v1,v2,v3,d0,d1,d2,d3,p0,p1,p2,p3,rfl,rfl,rfl,h0,h1,h2,h3⟩:=trodAll_four hA
 obtain ⟨A,n,c,l,rfl,hd,hS⟩:=open_deeds (hval 0 56 v0 rfl rfl) h0
 obtain ⟨m1,rfl,rfl,rfl,w1⟩:=open_int Tryz.underlying3 (hval 1 3 v1 rfl rfl) h1
 obtain ⟨oth,rfl,rfl,rfl⟩:=open_bool Tryz.underlying4 (hval 2 4 v2 rfl rfl) h2
 obtain ⟨Am,nm,cm,lm,rfl,hdm,hSm⟩:=open_deeds (hval 3 56 v3 rfl rfl) h3
 refine (foldLoad_walk A n c l m1 oth Am nm cm lm W hS hd (i64_bounds w1) hSm hdm hN).mono fun e W' ⟨he,hb⟩=>?_
 subst he
 exact ⟨_,rfl,post_law Tryz.laidOut hW' rfl (by kernel_rfl) rfl Tryz.underlying4 (fun _=>rfl) (fun _=>rfl) (fun _=>rfl) hb⟩
set_option maxRecDepth 100000 in
theorem foldLoad_f1:(Rows.foldLoadRow.inPlace == Tryz.pinned.checked.prog.inPlace 5)=true:=by kernel_rfl
set_option maxRecDepth 100000 in
theorem foldLoad_f2:(Rows.foldLoadRow.unfollowed == Tryz.pinned.checked.prog.unfollowed 5)=true:=by kernel_rfl
set_option maxRecDepth 100000 in
theorem foldLoad_f3:(Rows.foldLoadRow.recurses == Tryz.pinned.checked.prog.recurses 5)=true:=by kernel_rfl
set_option maxRecDepth 100000 in
theorem foldLoad_f4:(Rows.foldLoadRow.named == Tryz.pinned.checked.prog.varsNamed 5)=true:=by kernel_rfl
set_option maxRecDepth 100000 in
theorem foldLoad_facts:joinedFacts Tryz.pinned.checked.prog 5 Tryz.f5 Rows.foldLoadSpec Rows.foldLoadRow=true:=by
 unfold joinedFacts
 rw [enterN,show (Rows.foldLoadRow.lifted == Tryz.pinned.checked.prog.liftsFinal)=true from liftsN,laidN1,laidN2,heardN,show (Rows.foldLoadRow.plainKeys == Tryz.pinned.checked.prog.plainKeys)=true from keysN,foldLoad_f1,foldLoad_f2,foldLoad_f3,foldLoad_f4]
 kernel_rfl
theorem foldLoad_row:Rows.FoldLoadSaid:=OpenClaim.holds_of_wide 5 Tryz.f5 rfl rfl rfl rfl rfl rfl rfl ⟨rfl,rfl,rfl,rfl,rfl⟩ rfl rfl rfl rfl rfl (by kernel_rfl) Tryz.func5 foldLoad_facts
 (of_decide_eq_true (by kernel_rfl)) (by unfold Func.isWrapper;first|(rw [if_pos (by decide +kernel)];kernel_rfl)|(rw [if_neg (by decide +kernel)];exact ⟨rfl,rfl⟩))
 (fun os started H enc _=>foldLoad_lifted os started H enc)
set_option maxRecDepth 100000 in
theorem foldLoad_goes:false=Rows.foldLoadRow.goesBy Tryz.pinned.checked.prog:=by kernel_rfl
set_option maxRecDepth 100000 in
theorem foldLoad_looks:false=Tryz.pinned.checked.prog.looks []:=by kernel_rfl
set_option maxRecDepth 100000 in
theorem foldLoad_holds:Rows.FoldLoadCardSaid:=
 Claim7.holds_tied_plain_at .later [] [.data] true Rows.tapeLongCard.stood.harness false
  foldLoad_row (fun _ h=>by cases h) (by kernel_rfl) (fun _ h=>by cases h) foldLoad_row_tie rfl ⟨rfl,rfl⟩ mainN rfl
  (fun f fn hf hfn=>by
   obtain rfl:f=5:=Option.some.inj ((show Tryz.prog.funcNamed "rostrum/rostrumkeep.FoldLoad" = some 5 by kernel_rfl).symm.trans hf) |>.symm
   obtain rfl:fn=Tryz.f5:=(Option.some.inj (Tryz.func5.symm.trans hfn)).symm
   exact ⟨foldLoad_looks,fun j t ht=>by
    rw [Tryz.params5] at ht
    have hm:=List.mem_of_getElem? (Array.getElem?_toList ▸ ht)
    simp only [List.mem_cons,List.not_mem_nil,or_false] at hm
    rcases hm with rfl|rfl|rfl|rfl <;> exact (show Tryz.prog.wantsStandIn _=false by kernel_rfl)⟩)
  foldLoad_goes
#print axioms foldLoad_holds
end Go.Proofs.YtgmojjclobkpjaaGreatDoor

