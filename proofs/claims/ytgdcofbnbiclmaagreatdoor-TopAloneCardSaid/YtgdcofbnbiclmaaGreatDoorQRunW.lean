import Derived.Test.YtgdcofbnbiclmaaGreatDoorQCrwS
import Derived.Test.YtgdcofbnbiclmaaGreatDoorQRunL
import Derived.Test.YtgdcofbnbiclmaaGreatDoorQTopD
import Derived.Test.YtgdcofbnbiclmaaGreatDoorQIdx
import Derived.Test.YtgdcofbnbiclmaaGreatDoorQCrwH
import Derived.Test.YtgdcofbnbiclmaaGreatDoorQIdW
import Derived.Test.YtgdcofbnbiclmaaGreatDoorQIdleP
namespace Go.Proofs.YtgdcofbnbiclmaaGreatDoor
set_option linter.all false
set_option maxHeartbeats 32000000
open Go.RowKit
def zeroN:Nd:={ me:=0,up:=false,clock:=0,role:=0,term:=0,vote:=0,b:=0,bt:=0,L:=[],si:=0,st:=0,sm:=zeroMach,m:=zeroMach,commit:=0,votes:=⟨false,false,false⟩,next:=⟨0,0,0⟩,mat:=⟨0,0,0⟩,waits:=[],recs:=[],sn:=0,out:=[] }
def nilA:NA:=⟨.slice none 0 0,.slice none 0 0,.slice none 0 0,.slice none 0 0,.slice none 0 0,.slice none 0 0,.slice none 0 0,.slice none 0 0⟩
def nilV:T3 Value:=⟨.slice none 0 0,.slice none 0 0,.slice none 0 0⟩
def madeC (q:Nat):Cw:=⟨⟨if 0<q then newN 0 else zeroN,if 1<q then newN 1 else zeroN,if 2<q then newN 2 else zeroN⟩,[],[],[]⟩
def vwC (n:Nd) (I E C:Value):List Value:=[.bool n.up,.int .i64 n.term,.bool (n.role == 3),.int .i64 n.commit,.int .i64 n.b,.int .i64 n.bt,I,.int .i64 n.m.now,E,.int .i64 n.m.next,C]
def VwAt (w:World) (n:Nd) (r:List Value):Prop:=∃ (I:Option Addr) (i1 i2:Nat) (E:Option Addr) (e1 e2:Nat) (C:Option Addr) (c1 c2:Nat),r=vwC n (.slice I i1 i2) (.slice E e1 e2) (.slice C c1 c2)∧OI w I i1 i2 n.L∧St w E e1 e2 n.m.ents∧Ci w C c1 c2 n.m.clis
structure OutAt (w:World) (s:Cw) (A B D:Option Addr) (a c k d m e:Nat):Prop where
 nodes:∃ rows,Sl w 11 A a c rows∧Rws (VwAt w) [s.nd.x,s.nd.y,s.nd.z] rows
 told:∃ rows,Sl w 12 B k d rows∧Rws (TlAt w) s.told rows
 led:∃ rows,Sl w 2 D m e rows∧rows.Perm (s.led.map ldC)
 tp:Tp w A 51∧Tp w B 78∧Tp w D 95
def RunPost (s:Cw) (w:World) (e:Ending) (w':World):Prop:=
 ∃ (A B D:Option Addr) (a c k d m q:Nat),e = .returned (.tuple #[.agg #[.slice A a c,.slice B k d,.slice D m q,.int .i64 s.away.length],.int .i64 0])∧OutAt w' s A B D a c k d m q∧Below w.heap.size w w'
section
attribute [local irreducible] wpStill
variable {w w':World} {base K Kb:Nat} {M M':Nat→Prop} {s:Cw} {a:T3 NA} {v:T3 Value} {n:Nd} {r:List Value}
theorem VwAt.fri (h:VwAt w n r) (f:FrI w w'):VwAt w' n r:=by
 obtain ⟨I,i1,i2,E,e1,e2,C,c1,c2,h1,h2,h3,h4⟩:=h
 exact ⟨I,i1,i2,E,e1,e2,C,c1,c2,h1,h2.fri f,h3.fri f,h4.fri f⟩
theorem Crw.frame (h:Crw w base K a v s) (f:FrI w w') (hs:∀ b,Mut K a v b→w'.heap[b]?=w.heap[b]?):Crw w' base K a v s:=by
 have hb:∀ j,j<9→∀ b,(slotV a v j).ownBlock=some b→w'.heap[b]?=w.heap[b]?:=fun j hj b hb=>hs b (.inr ⟨j,hj,hb⟩)
 exact ⟨h.raw.same (hs K (.inl rfl)),fun j hj=>(h.rep j hj).keep f fun b hb'=>hb'.elim (fun hb'=>hb (3+j) (by omega) b (by rw [slot_wait hj];exact hb')) (fun hb'=>hb j (by omega) b (by rw [slot_out hj];exact hb')),h.aw.keep (fun _ _ h=>h.fri f) (hb 6 (by omega)),h.tl.keep (fun _ _ h=>h.fri f) (hb 7 (by omega)),h.le.keep (fun _ _ h=>h) (hb 8 (by omega)),h.kb,Nat.le_trans h.bw f.size,h.apart⟩
theorem Crw.relead (h:Crw w base K a v s) (f:FrI w w') (hg:w.grownBy w' v.z.ownBlock) {l:List (Int×Int)} (hl:LSl w' base v.z l):Crw w' base K a v { s with led:=l }:=by
 have hK:w'.heap[K]?=w.heap[K]?:=hg.block K h.raw.blk.lt (fun e=>h.notK (j:=8) (by omega) (show v.z.ownBlock=some K from e.symm) rfl)
 have hb:∀ j,j<8→∀ b,(slotV a v j).ownBlock=some b→w'.heap[b]?=w.heap[b]?:=fun j hj b hb=>hg.block b (h.slot (by omega) hb).1 (fun e=>h.apart j 8 (by omega) (by omega) (by omega) b hb (show v.z.ownBlock=some b from e.symm))
 exact ⟨h.raw.same hK,fun j hj=>(h.rep j hj).keep f fun b hb'=>hb'.elim (fun hb'=>hb (3+j) (by omega) b (by rw [slot_wait hj];exact hb')) (fun hb'=>hb j (by omega) b (by rw [slot_out hj];exact hb')),h.aw.keep (fun _ _ h=>h.fri f) (hb 6 (by omega)),h.tl.keep (fun _ _ h=>h.fri f) (hb 7 (by omega)),hl,h.kb,Nat.le_trans h.bw f.size,h.apart⟩
theorem rws_led {l:List (Int×Int)}:∀ {l:List (Int×Int)} {rows:List (List Value)},Rws (fun x r=>r=ldC x) l rows→rows=l.map ldC
 | [],[],_=>rfl
 | _ :: _,_ :: _,h=>by rw [List.map_cons,←rws_led (l:=l) h.2,h.1]
 | [],_ :: _,h=>h.elim
 | _ :: _,[],h=>h.elim
theorem led_rws:∀ (l:List (Int×Int)),Rws (fun x r=>r=ldC x) l (l.map ldC)
 | []=>trivial
 | _ :: l=>⟨rfl,led_rws l⟩
theorem perm_map {α β:Type} (f:α→β) {l:List α} {r:List β} (h:r.Perm (l.map f)):∃ l':List α,r=l'.map f∧l'.Perm l:=by
 generalize hm:l.map f=m at h
 induction h generalizing l with
 | nil=>exact ⟨[],rfl,by rw [List.map_eq_nil_iff.1 hm]⟩
 | cons x _ ih=>
  cases l with
  | nil=>cases hm
  | cons y l=>
   injection hm with h1 h2
   obtain ⟨l',h3,h4⟩:=ih h2
   exact ⟨y :: l',by rw [List.map_cons,h1,←h3],h4.cons y⟩
 | swap x y t=>
  match l,hm with
  | p :: q :: l,hm=>
   simp only [List.map_cons,List.cons.injEq] at hm
   obtain ⟨h1,h2,h3⟩:=hm
   exact ⟨q :: p :: l,by simp [h1,h2,h3],List.Perm.swap _ _ _⟩
 | trans _ _ ih1 ih2=>
  obtain ⟨l2,h1,h2⟩:=ih2 hm
  obtain ⟨l3,h3,h4⟩:=ih1 h1.symm
  exact ⟨l3,h3,h4.trans h2⟩
theorem out_size_:(Tryz.prog.info? 32).map (·.size)=some 4:=by kernel_rfl
theorem told_size:(Tryz.prog.info? 78).map (·.size)=some 12:=by kernel_rfl
theorem tl_range {A:Option Addr} {n c:Nat} {rows:List (List Value)} {l:List Tl} (h:Sl w 12 A n c rows) (hR:Rws (TlAt w) l rows) {k:Nat} (hk:k<l.length) :
  ∃ b off row,A=some ⟨b,off,none⟩∧b<w.heap.size∧w.rangeAt b (off+k*12) row∧TlAt w l[k] row:=by
 obtain ⟨r,hr,hm⟩:=hR.at_ hk
 have hk':k<rows.length:=by rw [←hR.len];exact hk
 obtain ⟨b,off,rfl,hb,hc⟩:=h.seg.at_ (i:=k) hk'
 rw [List.getElem?_eq_getElem hk'] at hr
 injection hr with hr
 subst hr
 exact ⟨b,off,rows[k],rfl,hb,fun j v hv=>by rw [Nat.add_assoc];exact hc j v hv,hm⟩
theorem Raw.range99 {rs:T3 (List Value)} (h:Raw w K rs v):w.rangeAt K 0 (rs.x ++ (rs.y ++ rs.z)):=by
 intro j u hu
 have hj:=(List.getElem?_eq_some_iff.1 hu).1
 rw [Nat.zero_add,h.blk.cell]
 simp only [List.getElem?_toArray]
 rw [←List.append_assoc rs.y,←List.append_assoc rs.x,List.getElem?_append_left hj]
 exact hu
theorem rows_cut {rs:T3 (List Value)} (hx:rs.x.length=33) (hy:rs.y.length=33) (hz:rs.z.length=33) {q:Nat} (hq:q<3):(rs.x ++ (rs.y ++ rs.z)).toArray.extract (q*33) (q*33+33)=(rs.get q).toArray:=by
 rw [List.extract_toArray]
 congr 1
 match q,hq with
 | 0,_=>rw [List.extract_eq_drop_take];exact List.take_left' hx
 | 1,_=>rw [List.extract_eq_drop_take,List.drop_left' (by omega)];exact List.take_left' hy
 | 2,_=>rw [List.extract_eq_drop_take,←List.append_assoc,List.drop_left' (by simp [hx,hy])];exact List.take_of_length_le (by omega)
theorem nodes_info:(Tryz.prog.info? 119).map (·.size)=some 99:=by kernel_rfl
theorem nodeC_one (n:Nd) (x:NA) (h:NRep w base n x):∀ u∈nodeC n x,u.oneCell'=true:=by
 obtain ⟨A1,k1,c1,e1,_⟩:=h.lg
 obtain ⟨A2,k2,c2,e2,_⟩:=h.se
 obtain ⟨A3,k3,c3,e3,_⟩:=h.sc
 obtain ⟨A4,k4,c4,e4,_⟩:=h.me
 obtain ⟨A5,k5,c5,e5,_⟩:=h.mc
 obtain ⟨A6,k6,c6,e6,_⟩:=h.ta
 obtain ⟨A7,c7,r7,e7,_⟩:=h.wa.form
 obtain ⟨A8,c8,r8,e8,_⟩:=h.ou.form
 unfold nodeC
 rw [e1,e2,e3,e4,e5,e6,e7,e8]
 exact all_one rfl
theorem cell_same {b o:Nat} (h:w'.heap[b]?=w.heap[b]?):w'.cell? ⟨b,o,none⟩=w.cell? ⟨b,o,none⟩:=by unfold World.cell?;simp only [h]
theorem vw_info:(Tryz.prog.info? 51).map (fun i=>(i.zero,i.size,i.bytes))=some (some (.agg #[.bool false,.int .i64 0,.bool false,.int .i64 0,.int .i64 0,.int .i64 0,.slice none 0 0,.int .i64 0,.slice none 0 0,.int .i64 0,.slice none 0 0]),11,136):=by kernel_rfl
theorem zero_crw {w:World} {K:Nat} (hb:Blk w K 121 ((nodeC zeroN nilA) ++ ((nodeC zeroN nilA) ++ ((nodeC zeroN nilA) ++ ([.slice none 0 0,.slice none 0 0,.slice none 0 0]:List Value)))).toArray) (hB:base≤K):Crw w base K ⟨nilA,nilA,nilA⟩ nilV (madeC 0):=by
 have hr:NRep w base zeroN nilA:={ lg:=⟨none,0,0,rfl,⟨0,Own.nil⟩⟩,se:=⟨none,0,0,rfl,St.nil _⟩,sc:=⟨none,0,0,rfl,Ci.nil _⟩,me:=⟨none,0,0,rfl,St.nil _⟩,mc:=⟨none,0,0,rfl,Ci.nil _⟩,ta:=⟨none,0,0,rfl,TpSl.nil_ _⟩,wa:=OwnR.nil,ou:=OwnR.nil }
 refine ⟨⟨hb,rfl,rfl,rfl⟩,fun i hi=>by match i,hi with|0,_|1,_|2,_=>exact hr,OwnR.nil,OwnR.nil,OwnR.nil,hB,Nat.le_trans hB (Nat.le_of_lt hb.lt),fun i j hi hj hne b hb=>?_⟩
 match i,hi with
 | 0,_|1,_|2,_|3,_|4,_|5,_|6,_|7,_|8,_=>simp [slotV,nilA,nilV,Value.ownBlock] at hb
set_option maxRecDepth 100000 in
theorem Run_of (l:List ActD) (A:Option Addr) (n c:Nat) (w:World) (hS:Sl w 10 A n c (actRows l)) (h3:n≤3000) (hok:∀ x∈l,checkAct x=0)
  (hdo:∀ k (hk:k<l.length) w' Kb M,Cr w' (w.heap.size+1) Kb M (runC (l.take k))→Below w.heap.size w w'→Calls Tryz.prog 49 #[.pointer (some ⟨Kb,0,none⟩),.agg l[k].cells.toArray] w' (Does (w.heap.size+1) Kb M (runC (l.take (k+1))) w'))
  (hcp:∀ i,i<3→∀ (w':World) (A:Option Addr) (k c:Nat) (B:Option Addr) (j d:Nat),St w' A k c ((runC l).nd.get i).m.ents→Ci w' B j d ((runC l).nd.get i).m.clis→Calls Tryz.prog 54 #[.agg #[.int .i64 ((runC l).nd.get i).m.now,.slice A k c,.int .i64 ((runC l).nd.get i).m.next,.slice B j d]] w' (CopyPost ((runC l).nd.get i).m w'))
  (hst:∀ (w':World) (A:Option Addr) (m c:Nat),Own w' (w.heap.size+1) 95 2 (.slice A m c) ((runC l).led.map ldC)→Calls Tryz.prog 51 #[.slice A m c,.func (.func 52) #[] #[]] w' (SortPost (w.heap.size+1) A m c ((runC l).led.map ldC) w'))
  (htl:(runC l).told.length≤900000000) (htt:∀ t∈(runC l).told,t.rep.list.length≤1048576) (hLL:∀ i,i<3→((runC l).nd.get i).L.length≤200) :
  Calls Tryz.prog 33 #[.slice A n c] w (RunPost (runC l) w):=by
 have hn:=act_len hS
 subst hn
 have h1:¬ ((3000:Int)<(l.length:Int)):=by omega
 have HOK:=hide hok
 have HDO:=hide hdo
 have HCP:=hide hcp
 have HST:=hide hst
 have HTL:=hide htl
 have HTT:=hide htt
 have HLL:=hide hLL
 clear hok hdo hcp hst htl htt hLL
 have O0:=Blk.new w 32 #[.slice none 0 0,.slice none 0 0,.slice none 0 0,.int .i64 0]
 have q0:Below w.heap.size w (w.alloc (.cells #[.slice none 0 0,.slice none 0 0,.slice none 0 0,.int .i64 0] 32)):=below_by
 go_enter Tryz.func33,Tryz.ntmps33
 go_upto_region 3 with fail
 obtain ⟨w0,hw0⟩:∃ w0,w0=w.alloc (.cells #[.slice none 0 0,.slice none 0 0,.slice none 0 0,.int .i64 0] 32):=⟨_,rfl⟩
 have hs0:w0.heap.size=w.heap.size+1:=by rw [hw0];simp
 rw [←hw0] at O0 q0 ⊢
 clear hw0
 have HS0:=hide hs0
 clear hs0
 have HQ0:=hide q0
 have HO0:=hide O0
 clear q0 O0
 go_wp2_with fail
 go_loopw [23] (fun s23 wr=>∃ k:Nat,k≤l.length∧s23 = .int .i64 k∧Below w0.heap.size w0 wr) (fun s23 _=>l.length - (intOf s23).toNat)
 case atStart=>exact ⟨0,by omega,rfl,Below.refl _ _⟩
 case round=>
  obtain ⟨k,hk,rfl,hbr⟩:=hrel
  have hbs:=hbr.size
  have HBR:=hide hbr
  clear hbr
  by_cases hlt:k<l.length
  ·have qr:=bstep HQ0.out HBR.out
   obtain ⟨bb,off,rfl,hbb,⟨i0,i1,i2,i3,i4,i5,i6,i7,i8,i9⟩⟩:=(hS.below qr).act hlt
   have HC:=hide (fun w=>ActCheck_any l[k] w)
   have hck:=HOK.out _ (List.getElem_mem hlt)
   rw [hck] at HC
   generalize l[k]=x at i0 i1 i2 i3 i4 i5 i6 i7 i8 i9 HC hck
   clear hck
   obtain ⟨xk,xn,xp,xc,xs,⟨ck,cy,cf,ct,cn⟩⟩:=x
   have ik:(k:Int)<(l.length:Int):=by omega
   go_wp2_with fail
   refine (HC.out _).mono ?_
   rintro e w1 ⟨rfl,hb1⟩
   have hbr:=HBR.out
   go_wp2_with fail
   go_roundw
   case rel=>exact ⟨k+1,by omega,by go_num,below_by⟩
   case measure=>simp [intOf];omega
  ·obtain rfl:k=l.length:=by omega
   have ik:¬ (l.length:Int)<(l.length:Int):=by omega
   go_upto_region 11 with fail
   obtain ⟨w2,hw2⟩:∃ w2,w2=wr.alloc (.cells Tryz.zeroCells121 121):=⟨_,rfl⟩
   have bk:Below wr.heap.size wr w2:=by rw [hw2];exact below_by
   have BK:Blk w2 wr.heap.size 121 ((nodeC zeroN nilA) ++ ((nodeC zeroN nilA) ++ ((nodeC zeroN nilA) ++ ([.slice none 0 0,.slice none 0 0,.slice none 0 0]:List Value)))).toArray:=by rw [hw2];exact Blk.new _ _ _
   rw [←hw2]
   clear hw2
   -- the nodes are made
   have HC0:=hide (zero_crw (base:=w.heap.size+1) BK (by have:=HBR.out.size;have:=HS0.out;omega))
   have q2:Below w0.heap.size w0 w2:=bstep HBR.out bk
   have HQ2:=hide q2
   obtain ⟨Kb,hKb⟩:∃ Kb,Kb=wr.heap.size:=⟨_,rfl⟩
   rw [←hKb] at HC0 ⊢
   have hKw:w.heap.size+1≤Kb:=by have:=HBR.out.size;have:=HS0.out;omega
   clear hKb BK bk q2 HBR hbs
   go_wp2_with fail
   go_loopw [36] (fun s36 wr=>∃ q:Nat,q≤3∧s36 = .int .i64 (q:Int)∧(∃ a v,Crw wr (w.heap.size+1) Kb a v (madeC q)∧(∀ j,j<9→(slotV a v j).ownBlock=none))∧Below w0.heap.size w0 wr) (fun s36 _=>3 - (intOf s36).toNat)
   case atStart=>exact ⟨0,by omega,rfl,⟨_,_,HC0.out,fun j hj=>by match j,hj with|0,_|1,_|2,_|3,_|4,_|5,_|6,_|7,_|8,_=>rfl⟩,HQ2.out⟩
   case round=>
    obtain ⟨q,hq,rfl,⟨a1,v1,H1,hsl⟩,hb1⟩:=hrel
    have HB1:=hide hb1
    have HSL:=hide hsl
    clear hb1 hsl
    by_cases hlt:q<3
    ·have iq:(q:Int)<3:=by omega
     have iq0:(0:Int)≤(q:Int):=by omega
     go_upto_region 14 with fail
     obtain ⟨w3,hw3⟩:∃ w3,w3=wr.drew:=⟨_,rfl⟩
     have b3:Below wr.heap.size wr w3:=by rw [hw3];exact (Below.refl _ _).drew
     have H3:=H1.bl b3
     have q3:=bstep HB1.out b3
     refine wp_region_x (l:=[]) (S:=fun _=>True) (by kernel_rfl) trivial (fun hS=>?_)
     rw [←hw3] at ⊢
     clear hw3 b3 H1
     refine wpAnyX_tq 0 ?_
     refine wpAnyX_tq 1 ?_
     refine wpAnyX_tq 2 ?_
     refine wpAnyX_tq 5 ?_
     refine wpAnyX_tq 6 ?_
     clear hS
     refine wpAnyX_oq 3 fun K hK=>?_
     go_wp2_with fail
     refine (TapeNew_any _).mono ?_
     rintro e w4 ⟨rfl,b4⟩
     go_wp2_with fail
     refine hK.out _ _ (Or.inr trivial) (fun hS=>?_)
     clear hK K hS
     have HFR:=hide (fresh_L (q:Int) newDk none none none 0 0 0 0 0 0 w4)
     refine wpAnyX_oq 4 fun K hK=>?_
     go_wp2_with fail
     refine HFR.out.mono ?_
     rintro e w8 ⟨rfl,b8⟩
     go_wp2_with fail
     refine hK.out _ _ (Or.inr trivial) (fun hS=>?_)
     clear hK K HFR
     replace hS:=hS.resolve_left (by decide)
     refine wpAnyX_ps 7 ?_
     clear hS
     have H8:=H3.bl (bstep b4 b8)
     have q8:=bstep q3 (bstep b4 b8)
     have HTH:=hide (H8.raw.there hlt)
     have R0:=H8.raw
     rw [←T3.set_get (rowsOf _ _) hlt,rows_get hlt] at R0
     have R1:=R0.whole hlt (freL (q:Int) newDk (.slice none 0 0) (.slice none 0 0) (.slice none 0 0)) (freL_len _ _ _ _ _)
     rw [T3.set_set _ hlt] at R1
     have hgrn:=grown_cells Kb (freL (q:Int) newDk (.slice none 0 0) (.slice none 0 0) (.slice none 0 0)) (q*33) w8
     clear R0 H3 b4 b8 q3
     refine wpAnyX_oq 8 fun K hK=>?_
     refine wpList_store_mid rfl 118 _ _ rfl Kb (q*33) (freL (q:Int) newDk (.slice none 0 0) (.slice none 0 0) (.slice none 0 0)).toArray rfl rfl HTH.out node_size (all_oneCell_toArray (freL_one _ _ _ _ _ _ _ _ _ _ _)) ?_
     refine hK.out _ _ (Or.inr trivial) (fun _=>?_)
     clear hK K
     refine wpAnyX_done (by kernel_rfl) ?_ _
     obtain ⟨w9,hw9⟩:∃ w9,w9=w8.setCells Kb (q*33) (freL (q:Int) newDk (.slice none 0 0) (.slice none 0 0) (.slice none 0 0)):=⟨_,rfl⟩
     rw [show ((freL (q:Int) newDk (.slice none 0 0) (.slice none 0 0) (.slice none 0 0))).toArray.toList=(freL (q:Int) newDk (.slice none 0 0) (.slice none 0 0) (.slice none 0 0)) from rfl,←hw9]
     rw [←hw9] at R1 hgrn
     clear hw9
     obtain ⟨H9,k9⟩:=H8.upd (n':=freshN (q:Int) newDk [] 0) (x':=nilA) hlt R1 hgrn
      {lg:=⟨none,0,0,rfl,⟨0,Own.nil⟩⟩,se:=⟨none,0,0,rfl,St.nil _⟩,sc:=⟨none,0,0,rfl,Ci.nil _⟩,me:=⟨none,0,0,rfl,St.nil _⟩,mc:=⟨none,0,0,rfl,Ci.nil _⟩,ta:=⟨none,0,0,rfl,TpSl.nil_ _⟩,wa:=OwnR.nil,ou:=OwnR.nil } (.inr rfl) (.inr rfl)
     have q9:Below w0.heap.size w0 w9:=q8.grown hgrn q8.size (fun k hk=>by injection hk with hk;have:=HS0.out;omega)
     have HSL9:=hide (slot_set (v:=v1) (x':=nilA) (a:=a1) hlt (.inr rfl) (.inr rfl))
     have HQ9:=hide q9
     have f1:=H9.raw.froz (q*33+1)
     have r1:=H9.raw.nd hlt 1 (by omega)
     rw [Cw.get_put hlt,T3.get_set _ hlt] at r1
     simp only [nodeC,List.getElem?_cons_zero,List.getElem?_cons_succ] at r1
     have R2:=H9.raw
     rw [←T3.set_get (rowsOf _ _) hlt,rows_get hlt] at R2
     rw [Cw.get_put hlt,T3.get_set _ hlt] at R2
     have R3:=R2.put hlt 1 (by omega) (.bool true)
     have hrep:=H9.rep q hlt
     rw [Cw.get_put hlt,T3.get_set _ hlt] at hrep
     obtain ⟨Ha,ka⟩:=H9.upd (n':=newN (q:Int)) (x':=nilA) hlt R3 (grown_setRow_cell w9 Kb _ _) { hrep with } (.inl (by rw [T3.get_set _ hlt])) (.inl (by rw [T3.get_set _ hlt]))
     rw [Cw.put_put hlt] at Ha
     have HA:=hide (show Crw _ (w.heap.size+1) Kb _ v1 (madeC (q+1)) from by
      have e:(madeC q).put q (newN (q:Int))=madeC (q+1):=by match q,hlt with|0,_|1,_|2,_=>rfl
      rw [←e];exact Ha)
     have HSLA:=hide (slot_set (v:=v1) (x':=nilA) (a:=a1.set q nilA) hlt (.inr rfl) (.inr rfl))
     clear R1 R2 R3 hrep Ha ka k9 H9 hgrn H8 HTH q8 q9
     go_wp2_with fail
     go_roundw
     case rel=>
      refine ⟨q+1,by omega,by go_num,⟨_,_,HA.out,fun j hj=>?_⟩,?_⟩
      ·cases hb:(slotV ((a1.set q nilA).set q nilA) v1 j).ownBlock with
       | none=>rfl
       | some b=>
        have h1:=HSL9.out j hj b (HSLA.out j hj b hb)
        rw [HSL.out j hj] at h1;cases h1
      ·exact HQ9.out.grown (grown_setRow_cell w9 Kb _ _) HQ9.out.size (fun k hk=>by injection hk with hk;have:=HS0.out;omega)
     case measure=>simp [intOf];omega
    ·obtain rfl:q=3:=by omega
     have iq:¬ ((3:Int)<3):=by omega
     have HC3:=hide (show ∃ M,Cr wr (w.heap.size+1) Kb M (runC (l.take 0)) from ⟨_,_,_,by rw [List.take_zero];exact H1,rfl⟩)
     clear H1 HSL HC0 HQ2
     go_wp2_with fail
     -- the acts are done
     go_loopw [56] (fun s56 wr=>∃ k:Nat,k≤l.length∧s56 = .int .i64 (k:Int)∧(∃ M,Cr wr (w.heap.size+1) Kb M (runC (l.take k)))∧Below w0.heap.size w0 wr) (fun s56 _=>l.length - (intOf s56).toNat)
     case atStart=>exact ⟨0,by omega,rfl,HC3.out,HB1.out⟩
     case round=>
      obtain ⟨k,hk,rfl,⟨M1,hcr⟩,hb2⟩:=hrel
      have HCR:=hide hcr
      have HB2:=hide hb2
      clear hcr hb2 HC3 HB1
      by_cases hlt:k<l.length
      ·have ik:(k:Int)<(l.length:Int):=by omega
       have qr:=bstep HQ0.out HB2.out
       obtain ⟨bb,off,rfl,hbb,⟨i0,i1,i2,i3,i4,i5,i6,i7,i8,i9⟩⟩:=(hS.below qr).act hlt
       have HD:=hide (fun w' M' hc hb=>HDO.out k hlt w' Kb M' hc hb)
       clear qr
       generalize l[k]=x at i0 i1 i2 i3 i4 i5 i6 i7 i8 i9 HD
       obtain ⟨xk,xn,xp,xc,xs,⟨ck,cy,cf,ct,cn⟩⟩:=x
       go_upto_region 20 with fail
       obtain ⟨w4,hw4⟩:∃ w4,w4=wr.alloc (.cells #[.int .i64 xk,.int .i64 xn,.int .i64 xp,.int .i64 xc,.int .i64 xs,.int .i64 ck,.string cy,.string cf,.string ct,.int .i64 cn] 40):=⟨_,rfl⟩
       have b4:Below wr.heap.size wr w4:=by rw [hw4];exact below_by
       have Z4:Blk w4 wr.heap.size 40 #[.int .i64 xk,.int .i64 xn,.int .i64 xp,.int .i64 xc,.int .i64 xs,.int .i64 ck,.string cy,.string cf,.string ct,.int .i64 cn]:=by rw [hw4];exact Blk.new _ _ _
       rw [←hw4] at ⊢
       have q4:=bstep HB2.out b4
       have C4:=HCR.out.bl b4
       have HP:=hide (HD.out w4 _ C4 (bstep HQ0.out q4))
       have HP:=hide (show Calls Tryz.prog 49 #[.pointer (some ⟨Kb,0,none⟩),.agg #[.int .i64 xk,.int .i64 xn,.int .i64 xp,.int .i64 xc,.int .i64 xs,.int .i64 ck,.string cy,.string cf,.string ct,.int .i64 cn]] w4 (Does _ Kb _ _ w4) from HP.out)
       have HM4:=hide (fun b (hb:M1 b)=>(C4.lt hb).2)
       have HQ4:=hide q4
       clear hw4 b4 q4 C4 HD i0 i1 i2 i3 i4 i5 i6 i7 i8 i9 HCR HB2
       (try clear cZ4 fZ4);have cZ4:=Z4.cell;have fZ4:=Z4.frozen
       go_wp2_with fail
       refine HP.out.mono ?_
       rintro e w5 ⟨rfl,M5,hc5,k5⟩
       have HQ5:=hide (HQ4.out.trans (k5.below (B:=w0.heap.size) HQ4.out.size (fun b hb=>by have:=HM4.out b hb;have:=HS0.out;omega)))
       have HC5:=hide hc5
       clear k5 hc5 cZ4 fZ4 Z4 HP
       go_wp2_with fail
       go_roundw
       case rel=>exact ⟨k+1,by omega,by go_num,⟨M5,HC5.out⟩,HQ5.out⟩
       case measure=>simp [intOf];omega
      ·obtain rfl:k=l.length:=by omega
       have ik:¬ (l.length:Int)<(l.length:Int):=by omega
       have hcr:=HCR.out
       rw [List.take_length] at hcr
       have HCR:=hide hcr
       clear hcr
       generalize runC l=s at *
       go_upto_region 22 with fail
       obtain ⟨a6,v6,H,rfl⟩:=HCR.out
       obtain ⟨w6,hw6⟩:∃ w6,w6=wr.drew:=⟨_,rfl⟩
       have b6:Below wr.heap.size wr w6:=by rw [hw6];exact (Below.refl _ _).drew
       have H6:=H.bl b6
       have q6:=bstep HB2.out b6
       obtain ⟨A3,c3,rows3,haw,-,-,-⟩:=H6.aw.form
       obtain ⟨A5,c5,rows5,hld,hO5,hR5,hS5⟩:=H6.le.form
       have g99:=H6.raw.top.1
       have g101:=H6.raw.top.2.2
       rw [haw] at g99
       rw [hld] at g101
       refine wp_region_x (l:=[11]) (S:=fun w'=>w'.cell? ⟨Kb,99,none⟩=some (.slice A3 s.away.length c3)∧w'.cell? ⟨Kb,101,none⟩=some (.slice A5 s.led.length c5)) (by kernel_rfl) (by rw [←hw6];exact ⟨g99,g101⟩) (fun hS=>?_)
       rw [←hw6] at hS ⊢
       clear hw6 b6 H HCR HB2
       refine wpAnyX_tq 0 ?_
       refine wpAnyX_tq 1 ?_
       refine wpAnyX_tq 2 ?_
       refine wpAnyX_tq 3 ?_
       refine wpAnyX_tq 4 ?_
       refine wpAnyX_tq 5 ?_
       refine wpAnyX_tq 6 ?_
       refine wpAnyX_tq 7 ?_
       refine wpAnyX_tq 8 ?_
       refine wpAnyX_tq 9 ?_
       clear hS
       have hK6:=H6.raw.blk.lt
       refine wpAnyX_oq 10 fun K hK=>?_
       go_wp2_with fail
       refine hK.out _ _ (Or.inr ⟨(World.cell?_alloc_lt w6 _ _ hK6).trans g99,(World.cell?_alloc_lt w6 _ _ hK6).trans g101⟩) (fun hS=>?_)
       clear hK K hS
       refine wpAnyX_oq 11 fun K hK=>?_
       refine wpList_sto rfl 32 _ _ rfl (cells:=#[.slice none 0 0,.slice none 0 0,.slice A5 s.led.length c5,.int .i64 s.away.length]) rfl rfl (Blk.new w6 _ _) rfl out_size_ (all_one rfl) ?_
       intro w7 O7 gr7 sz7
       refine hK.out _ _ (Or.inl (by decide)) (fun _=>?_)
       clear hK K
       refine wpAnyX_done (by kernel_rfl) ?_ _
       have ba:Below w6.heap.size w6 (w6.alloc (.cells #[.slice none 0 0,.slice none 0 0,.slice none 0 0,.int .i64 0] 32)):=below_by
       have b7:=below_sto ba gr7 ba.size (Nat.le_refl _)
       have H7:=H6.bl b7
       have HMG:=hide (fun b (hb:Mut Kb a6 v6 b)=>(H6.mut_lt hb).1)
       obtain ⟨g,hg⟩:∃ g,g=w6.heap.size:=⟨_,rfl⟩
       rw [←hg] at O7 HMG ⊢
       have HG7:=hide (show g<w7.heap.size from O7.lt)
       have HGB:=hide (show w0.heap.size≤g by rw [hg];exact q6.size)
       have q7:=bstep q6 b7
       have HQ7:=hide q7
       have HLD:=hide hld
       obtain ⟨A8,c8,rows8,htd,hO8,hR8,hS8⟩:=H7.tl.form
       have HO8:=hide hO8
       have HR8:=hide hR8
       have HTD:=hide htd
       have n100:=H7.raw.top.2.1
       rw [htd] at n100
       have hcm8:=hS8.cm
       have hnc8:=hS8.nc
       unfold maxLen at hcm8
       have HH7:=hide H7
       have HO7:=hide O7
       clear hg ba b7 q6 q7 gr7 sz7 H6 g99 g101 haw hld hO5 hR5 hS5 htd hO8 hR8 hS8 H7 O7 hK6
       go_wp2_with fail
       clear n100
       go_loopw [79] (fun s79 wr=>∃ q:Nat,q≤s.told.length∧s79 = .int .i64 (q:Int)∧(∃ A' c' rows',Blk wr g 32 #[.slice none 0 0,.slice A' q c',.slice A5 s.led.length c5,.int .i64 s.away.length]∧Own wr (g+1) 78 12 (.slice A' q c') rows'∧Rws (TlAt wr) (s.told.take q) rows')∧Below g w7 wr∧FrI w7 wr) (fun s79 _=>s.told.length - (intOf s79).toNat)
       case atStart=>exact ⟨0,by omega,rfl,⟨none,0,[],HO7.out,Own.nil,trivial⟩,Below.refl _ _,FrI.refl _⟩
       case round=>
        obtain ⟨q,hq,rfl,⟨A',c',rows',O,W,RW⟩,bg,fi⟩:=hrel
        have HBG:=hide bg
        have HFI:=hide fi
        have HRW:=hide RW
        clear bg fi RW
        by_cases hlt:q<s.told.length
        ·have iq:(q:Int)<(s.told.length:Int):=by omega
         have hown:Own wr (w.heap.size+1) 78 12 (.slice A8 s.told.length c8) rows8:=own_same HO8.out fun b hb=>HBG.out.block b (HMG.out b (.inr ⟨7,by omega,by show v6.y.ownBlock=_;rw [HTD.out];exact hb⟩))
         obtain ⟨bq,off,row,rfl,hbb,hrg,htq⟩:=tl_range hown.sl' (HR8.out.mono fun _ _ h=>h.fri HFI.out) hlt
         have HNX:=hide (show s.told.take (q+1)=s.told.take q ++ [s.told[q]] from List.take_succ_eq_append_getElem hlt)
         have htt:=HTT.out _ (List.getElem_mem hlt)
         generalize s.told[q]=x at *
         obtain ⟨xn,⟨xc,xs,⟨ck,cy,cf,ct,cn⟩⟩,⟨rc,rt,rn,rl⟩⟩:=x
         obtain ⟨Y,m1,d1,hrw,hT⟩:=htq
         simp only at hT htt
         replace hrw:row=[.int .i64 xn,.int .i64 xc,.int .i64 xs,.int .i64 ck,.string cy,.string cf,.string ct,.int .i64 cn,.int .i64 rc,.string rt,.int .i64 rn,.slice Y m1 d1]:=hrw
         subst hrw
         have hm1:m1≤1048576:=by have:=hT.len;omega
         have HRG:=hide hrg
         have HT:=hide hT
         have hol:=O.lt
         clear hrg hown hT htt
         go_upto_region 26 with (first|(refine wpList_load_mid rfl 78 _ rfl _ _ rfl [.int .i64 xn,.int .i64 xc,.int .i64 xs,.int .i64 ck,.string cy,.string cf,.string ct,.int .i64 cn,.int .i64 rc,.string rt,.int .i64 rn,.slice Y m1 d1] _ HRG.out Tryz.underlying78 rfl told_size ?_)|(refine wpList_sto rfl 78 _ _ rfl (cells:=#[.int .i64 xn,.int .i64 xc,.int .i64 xs,.int .i64 ck,.string cy,.string cf,.string ct,.int .i64 cn,.int .i64 rc,.string rt,.int .i64 rn,.slice Y m1 d1]) rfl rfl (Blk.new wr _ _) rfl told_size (all_one rfl) ?_;intro w9 Z9 gr9 sz9))
         have q39:Below wr.heap.size wr (wr.alloc (.cells #[.int .i64 0,.int .i64 0,.int .i64 0,.int .i64 0,.string { data:=#[] },.string { data:=#[] },.string { data:=#[] },.int .i64 0,.int .i64 0,.string { data:=#[] },.int .i64 0,.slice none 0 0] 78)):=below_by
         have b9:Below wr.heap.size wr w9:=below_sto q39 gr9 (by simp) (Nat.le_refl _)
         have T9:=HT.out.bl b9
         have HCL:=hide (Clone_text Y m1 d1 _ w9 T9.sl (str_one _) (by omega))
         obtain ⟨z,hz⟩:∃ z,z=wr.heap.size:=⟨_,rfl⟩
         have HZ:=hide (show g<z by rw [hz];exact hol)
         have hb9s:=b9.size
         have HB9:=hide (show Below z wr w9 by rw [hz];exact b9)
         have HZW:=hide (show z≤wr.heap.size by omega)
         have HZE:=hide hz
         rw [←hz] at Z9 ⊢
         clear hz gr9 sz9 q39 b9 HRG HT T9 hb9s hol
         (try clear cZ9 fZ9);have cZ9:=Z9.cell;have fZ9:=Z9.frozen
         go_wp2_with fail
         refine HCL.out.mono ?_
         rintro e w10 ⟨sv,rfl,o10,b10⟩
         obtain ⟨Y2,m2,d2,rfl⟩:=own_slice o10
         have Z10:=Z9.below' b10
         have q10:=HB9.out.trans (b10.mono (by have:=Z9.lt;omega))
         have T10:TxSl w10 Y2 m2 d2 rl:=⟨o10.sl',own_tp o10⟩
         have hz10:=Z10.lt
         have Z11:=Z10.set' (i:=11) (u:=.slice Y2 m2 d2) rfl
         have gr11:=grown_setRow_cell w10 z 11 (.slice Y2 m2 d2)
         have T11:=T10.grown Z10 gr11
         have q11:Below z wr (w10.setCell ⟨z,11,none⟩ (.slice Y2 m2 d2)):=q10.grown gr11 (by have:=HZW.out;have:=q10.size;omega) (fun k hk=>by injection hk with hk;omega)
         have HT11:=hide T11
         have HQ11:=hide q11
         have HZ11:=hide Z11
         clear cZ9 fZ9 Z9 o10 b10 T10 gr11 T11 q11 q10 Z11 HCL HB9
         (try clear cZ10 fZ10);have cZ10:=Z10.cell;have fZ10:=Z10.frozen
         go_upto_region 27 with fail
         obtain ⟨w11,hw11⟩:∃ w11,w11=w10.setCell ⟨z,11,none⟩ (.slice Y2 m2 d2):=⟨_,rfl⟩
         rw [←hw11] at HT11 HQ11 HZ11 ⊢
         clear hw11 cZ10 fZ10 Z10 hz10
         have Z11:=HZ11.out
         have O11:=O.below' (show Below wr.heap.size wr w11 by rw [←HZE.out];exact HQ11.out)
         have W11:Own w11 (g+1) 78 12 (.slice A' q c') rows':=W.below (by rw [←HZE.out];exact HQ11.out)
         have hne:(Value.slice A' q c').ownBlock≠some g:=fun e=>by
          rcases W11.form with ⟨hv,_⟩|⟨g',cap,hv,hg',_⟩
          ·rw [hv] at e;simp [Value.ownBlock] at e
          ·rw [hv] at e;simp [Value.ownBlock] at e;omega
         have HLT:=hide (fun k (hk:k<g) (e:(Value.slice A' q c').ownBlock=some k)=>(show False from by
          rcases W11.form with ⟨hv,_⟩|⟨g',cap,hv,hg',_⟩
          ·rw [hv] at e;simp [Value.ownBlock] at e
          ·rw [hv] at e;simp [Value.ownBlock] at e;omega))
         have hgw:g+1≤w11.heap.size:=by have:=Z11.lt;have:=HZ.out;omega
         have hqn:q≤900000000:=by have:=HTL.out;omega
         (try clear cO11 fO11);have cO11:=O11.cell;have fO11:=O11.frozen
         go_wp2_with (first|(refine wpList_lod rfl 78 _ rfl rfl Z11 Tryz.underlying78 rfl told_size ?_)|(at_builtin;refine wpList_push_k rfl _ _ _ rfl Tryz.underlying29 told_info rfl (by decide) (by rfl) W11 rfl (by rfl) (row:=#[.int .i64 xn,.int .i64 xc,.int .i64 xs,.int .i64 ck,.string cy,.string cf,.string ct,.int .i64 cn,.int .i64 rc,.string rt,.int .i64 rn,.slice Y2 m2 d2]) rfl (all_one rfl) ?p1 ?p2 ?p3 ?p4))
         case p1=>unfold maxLen;omega
         case p2=>omega
         case p3=>exact hgw
         case p4=>
          intro A6 c6' w12 W12 g12 hn12
          have P12:=Pushed.of W11 g12 hn12
          have O12:Blk w12 g 32 _:=(P12.blk g (by omega) hne).trans O11
          have bg12:Below g w11 w12:=⟨P12.b0.os,P12.b0.tape,P12.b0.output,P12.b0.size,fun k hk=>P12.blk k (by omega) (fun e=>HLT.out k hk e)⟩
          have hn12':(Value.slice A6 (q+1) c6').ownBlock≠some g:=fun e=>by
           rcases hn12 with h|h
           ·rw [h] at e;exact hne e
           ·have:=h g e;omega
          have gr:=grown_setRow_cell w12 g 1 (.slice A6 (q+1) c6')
          have f13:=FrI.grown O12 gr (by decide)
          have F13:=hide ((FrI.of (show Below wr.heap.size wr w11 by rw [←HZE.out];exact HQ11.out)).trans (P12.fr.trans f13))
          have W13:=hide (show Own (w12.setCell ⟨g,1,none⟩ (.slice A6 (q+1) c6')) (g+1) 78 12 (.slice A6 (q+1) c6') _ from own_same W12 fun b hb=>Below.heap_setCell w12 ⟨g,1,none⟩ _ b (fun e=>hn12' (by rw [hb,e])))
          have O13:=hide (O12.set' (i:=1) (u:=.slice A6 (q+1) c6') rfl)
          have B13:=hide (HBG.out.trans (show Below g wr _ from ((HQ11.out.mono (Nat.le_of_lt HZ.out)).trans bg12).grown gr (by have:=O12.lt;omega) (fun k hk=>by injection hk with hk;omega)))
          have T13:=hide (HT11.out.fri (P12.fr.trans f13))
          have hl12:=O12.lt
          clear cO11 fO11 O11 W11 W12 g12 hn12 P12 bg12 gr f13 Z11 HZ11 HQ11 HT11
          (try clear cO12 fO12);have cO12:=O12.cell;have fO12:=O12.frozen
          go_wp2_with fail
          go_roundw
          case rel=>exact ⟨q+1,by omega,by go_num,⟨A6,c6',_,O13.out,W13.out,by rw [HNX.out];exact (HRW.out.mono fun _ _ h=>h.fri F13.out).app (Rws.one _ _ ⟨Y2,m2,d2,rfl,T13.out⟩)⟩,B13.out,HFI.out.trans F13.out⟩
          case measure=>simp [intOf];omega
        ·obtain rfl:q=s.told.length:=by omega
         have iq:¬ (s.told.length:Int)<(s.told.length:Int):=by omega
         have RW0:=hide (show Rws (TlAt wr) s.told rows' by have:=HRW.out;rwa [List.take_length] at this)
         -- the leads are sorted
         have H9:=HH7.out.frame HFI.out (fun b hb=>HBG.out.block b (HMG.out b hb))
         have L9:=H9.le
         rw [HLD.out] at L9
         obtain ⟨rows9,L9,RL9⟩:=L9
         obtain rfl:=rws_led (l:=[]) RL9
         have HS:=hide (HST.out wr A5 s.led.length c5 L9)
         have HL9:=hide L9
         have hol:=O.lt
         have HH9:=hide H9
         clear RL9 L9 H9
         (try clear cO fO);have cO:=O.cell;have fO:=O.frozen
         go_wp2_with fail
         refine HS.out.mono ?_
         rintro e w14 ⟨rfl,rows',o14,hp14,g14⟩
         obtain ⟨ld,rfl,hperm⟩:=perm_map ldC hp14
         have f14:=FrI.own HL9.out g14
         have hnb:∀ b,(Value.slice A5 s.led.length c5).ownBlock=some b→b<g:=fun b hb=>HMG.out b (.inr ⟨8,by omega,by show v6.z.ownBlock=_;rw [HLD.out];exact hb⟩)
         have H14:=HH9.out.relead (l:=ld) f14 (by rw [HLD.out];exact g14) (by rw [HLD.out];exact ⟨_,o14,led_rws ld⟩)
         have O14:Blk w14 g 32 _:=(g14.block g hol (fun e=>by have:=hnb g e.symm;omega)).trans O
         have W14:=own_same W (w':=w14) fun b hb=>by
          have hb2:g<b:=by
           rcases W.form with ⟨hv,_⟩|⟨g',cap,hv,hg',_⟩
           ·rw [hv] at hb;simp [Value.ownBlock] at hb
           ·rw [hv] at hb;simp [Value.ownBlock] at hb;omega
          obtain ⟨cur,hcc⟩:=own_typed W hb
          exact g14.block b (Blk.lt hcc) (fun e=>by have:=hnb b e.symm;omega)
         have RW14:=(RW0.out.mono fun _ _ h=>h.fri f14)
         have HPM:=hide hp14
         have B14:Below w0.heap.size w0 w14:=(HQ7.out.trans (HBG.out.mono HGB.out)).grown g14 (by have:=HQ7.out.size;have:=HBG.out.size;omega) (fun k hk=>by have:=(HH9.out.slot (j:=8) (by omega) (show v6.z.ownBlock=some k by rw [HLD.out];exact hk)).2.1;have:=HS0.out;omega)
         -- the views
         have R14:=H14.raw
         have HRG:=hide (R14.range99)
         have HCT:=hide (fun q (hq:q<3)=>(rows_cut R14.lx R14.ly R14.lz hq).trans (by rw [rows_get hq]))
         have HL99:=hide (show ((rowsOf s.nd a6).x ++ ((rowsOf s.nd a6).y ++ (rowsOf s.nd a6).z)).length=99 by simp [R14.lx,R14.ly,R14.lz])
         obtain ⟨R99,hR99⟩:∃ R99,R99=(rowsOf s.nd a6).x ++ ((rowsOf s.nd a6).y ++ (rowsOf s.nd a6).z):=⟨_,rfl⟩
         have hnd:({ s with led:=ld }:Cw).nd=s.nd:=rfl
         rw [hnd,←hR99] at HRG
         rw [hnd,←hR99] at HCT
         rw [←hR99] at HL99
         have HREP:=hide (fun q (hq:q<3)=>H14.rep q hq)
         have HO14:=hide O14
         have HW14:=hide W14
         have HRW14:=hide RW14
         have HB14:=hide B14
         have HO5:=hide o14
         have HG14:=hide (show g<w14.heap.size from O14.lt)
         clear hR99 hnd R14 H14 O14 W14 RW14 B14 f14 hnb g14 o14 hp14 hperm O W HRW HBG HFI RW0 hol cO fO HH9 HL9 HS HH7 HO7
         go_wp2_with (refine wpList_load_mid rfl 119 _ rfl Kb 0 rfl R99 _ HRG.out Tryz.underlying119 rfl (by rw [HL99.out];exact nodes_info) ?_)
         clear HRG
         go_loopw [103] (fun s103 wr=>∃ q:Nat,q≤3∧s103 = .int .i64 (q:Int)∧(∃ A2 c2 rows2,Blk wr g 32 #[.slice A2 q c2,.slice A' s.told.length c',.slice A5 s.led.length c5,.int .i64 s.away.length]∧Own wr w14.heap.size 51 11 (.slice A2 q c2) rows2∧Rws (VwAt wr) ([s.nd.x,s.nd.y,s.nd.z].take q) rows2)∧Below g w14 wr∧(∀ b,b<w14.heap.size→b≠g→wr.heap[b]?=w14.heap[b]?)∧FrI w14 wr) (fun s103 _=>3 - (intOf s103).toNat)
         case atStart=>exact ⟨0,by omega,rfl,⟨none,0,[],HO14.out,Own.nil,trivial⟩,Below.refl _ _,fun _ _ _=>rfl,FrI.refl _⟩
         case round=>
          obtain ⟨q,hq,rfl,⟨A2,c2,rows2,O,V,RV⟩,bg,hst,fi⟩:=hrel
          have HBG:=hide bg
          have HFI:=hide fi
          have HSA:=hide hst
          have HRV:=hide RV
          clear bg fi hst RV
          by_cases hlt:q<3
          ·have iq:(q:Int)<3:=by omega
           have hcn:=HCT.out q hlt
           have HIX:=hide (fun (w':World)=>(show (Instr.index 119 (.agg R99.toArray) (.int .i64 (q:Int))).run Tryz.prog w' = .ok (.agg (nodeC (s.nd.get q) (a6.get q)).toArray) w' from by
            have:=run_index_row (P:=Tryz.prog) Tryz.underlying119 Tryz.underlying118 rfl node_size R99.toArray q hlt w'
            rwa [hcn] at this))
           have hrep:=HREP.out q hlt
           have hone:=nodeC_one _ _ hrep
           have hsz33:(nodeC (s.nd.get q) (a6.get q)).toArray.size=33:=rfl
           obtain ⟨I1,i1,i2,hlg,hI⟩:=hrep.lg
           obtain ⟨E1,e1,e2,hme,hE⟩:=hrep.me
           obtain ⟨C1,k1,k2,hmc,hC⟩:=hrep.mc
           have HNX:=hide (show [s.nd.x,s.nd.y,s.nd.z].take (q+1)=[s.nd.x,s.nd.y,s.nd.z].take q ++ [s.nd.get q] by match q,hlt with|0,_|1,_|2,_=>rfl)
           have HLQ:=hide (HLL.out q hlt)
           have HCQ:=hide (fun w' A k c B j d=>HCP.out q hlt w' A k c B j d)
           have c1:(nodeC (s.nd.get q) (a6.get q)).toArray[1]?=some (.bool (s.nd.get q).up):=rfl
           have c3:(nodeC (s.nd.get q) (a6.get q)).toArray[3]?=some (.int .i64 (s.nd.get q).role):=rfl
           have c4:(nodeC (s.nd.get q) (a6.get q)).toArray[4]?=some (.int .i64 (s.nd.get q).term):=rfl
           have c6:(nodeC (s.nd.get q) (a6.get q)).toArray[6]?=some (.int .i64 (s.nd.get q).b):=rfl
           have c7:(nodeC (s.nd.get q) (a6.get q)).toArray[7]?=some (.int .i64 (s.nd.get q).bt):=rfl
           have c8:(nodeC (s.nd.get q) (a6.get q)).toArray[8]?=some (.slice I1 i1 i2):=by rw [←hlg];rfl
           have c15:(nodeC (s.nd.get q) (a6.get q)).toArray[15]?=some (.int .i64 (s.nd.get q).m.now):=rfl
           have c16:(nodeC (s.nd.get q) (a6.get q)).toArray[16]?=some (.slice E1 e1 e2):=by rw [←hme];rfl
           have c17:(nodeC (s.nd.get q) (a6.get q)).toArray[17]?=some (.int .i64 (s.nd.get q).m.next):=rfl
           have c18:(nodeC (s.nd.get q) (a6.get q)).toArray[18]?=some (.slice C1 k1 k2):=by rw [←hmc];rfl
           have c19:(nodeC (s.nd.get q) (a6.get q)).toArray[19]?=some (.int .i64 (s.nd.get q).commit):=rfl
           have HI:=hide (hI.fri HFI.out)
           have HE:=hide (hE.fri HFI.out)
           have HC:=hide (hC.fri HFI.out)
           generalize nodeC (s.nd.get q) (a6.get q)=CN at *
           generalize s.nd.get q=nd at *
           have hsz33':CN.toArray.size=33:=hsz33
           clear hrep hlg hme hmc hI hE hC hcn
           go_upto_region 33 with (first|(refine wpList_idx rfl _ _ _ rfl rfl rfl (HIX.out _) ?_)|(refine wpList_sto rfl 118 _ _ rfl (cells:=CN.toArray) rfl rfl (Blk.new wr _ _) (by rw [hsz33'];rfl) (by rw [hsz33'];exact node_size) (by simpa using hone) ?_;intro w15 N15 gr15 sz15))
           have b15:Below wr.heap.size wr w15:=below_sto ((Below.refl _ wr).alloc (Nat.le_refl _) _) gr15 (by simp) (Nat.le_refl _)
           obtain ⟨nv,hnv⟩:∃ nv,nv=wr.heap.size:=⟨_,rfl⟩
           have HNV:=hide hnv
           rw [←hnv] at N15 ⊢
           have hol:=O.lt
           have HGN:=hide (show g<nv by omega)
           obtain ⟨wd,hwd⟩:∃ wd,wd=w15.drew:=⟨_,rfl⟩
           have bd:Below wr.heap.size wr wd:=by rw [hwd];exact b15.drew
           have NB:Blk wd nv 118 CN.toArray:=by rw [hwd];exact N15.drew
           have HBD:=hide bd
           have HNB:=hide NB
           have HS:=hide (fun w' (b:Below wd.heap.size wd w')=>And.intro (((NB.below' b).cell 6).trans c6) (And.intro (((NB.below' b).cell 7).trans c7) (((NB.below' b).cell 8).trans c8)))
           refine wp_region_x (l:=[12]) (S:=fun w'=>w'.cell? ⟨nv,6,none⟩=some (.int .i64 nd.b)∧w'.cell? ⟨nv,7,none⟩=some (.int .i64 nd.bt)∧w'.cell? ⟨nv,8,none⟩=some (.slice I1 i1 i2)) (by kernel_rfl) (by rw [←hwd];exact HS.out wd (Below.refl _ _)) (fun hS=>?_)
           rw [←hwd] at hS ⊢
           clear hwd b15 bd NB N15 gr15 sz15 hnv
           refine wpAnyX_tq 0 ?_
           refine wpAnyX_tq 1 ?_
           refine wpAnyX_tq 2 ?_
           refine wpAnyX_tq 3 ?_
           refine wpAnyX_tq 4 ?_
           refine wpAnyX_tq 5 ?_
           refine wpAnyX_tq 6 ?_
           refine wpAnyX_tq 7 ?_
           refine wpAnyX_tq 8 ?_
           clear hS
           refine wpG_start1 (j:=11) (d:=16) (t:=43) (z:=#[.int .i64 0,.int .i64 0,.slice none 0 0]) (val:=vptr) (C:=fun _=>True) ⟨⟨_,rfl,rfl,rfl,fun a w _=>?al1⟩,vptr_inj⟩ (fun al1=>?_)
           (case al1=>simp [go_sem,execOp,vptr])
           refine wpG_phase1 (base:=wd.heap.size) al1 9 (f:=2) (fun b_=>#[true,true,true,true,true,true,true,true,true,false,false,b_,false]) (fun w'=>Below wd.heap.size wd w') (x:=u16) (fun w' q=>HS.out w' q) (fun w' o q=>q.alloc q.size o) (fun w' q=>q.size) (fun _=>trivial) (Below.refl _ wd) PendG.no ?_
           intro b_ y_ w16 G16 hy K_ hK_
           (try simp only [vptr,vsl,Act.put,List.setIfInBounds_toArray,List.set_cons_zero,List.set_cons_succ,List.getElem_toArray,List.getElem_cons_zero,List.getElem_cons_succ])
           have hI16:=(HI.out.bl (bstep HBD.out G16)).sl
           have hil:i1≤200:=by have h1:=HI.out.len;have h2:=HLQ.out;omega
           have HCL:=hide (Clone_item I1 i1 i2 (itemRows nd.L) w16 hI16 (item_one _) (by omega))
           clear hI16
           go_wp2_with fail
           refine HCL.out.mono ?_
           rintro e w17 ⟨lv,rfl,ol,b17⟩
           obtain ⟨Il,l1,l2,rfl⟩:=own_slice ol
           go_wp2_with fail
           have G17:=bstep G16 b17
           replace hy:=hy.bl b17
           have HOI:=hide (show OI w17 Il l1 l2 nd.L from ⟨_,ol⟩)
           have hS17:=HS.out _ G17
           refine hK_.out _ _ (Or.inr hS17) ?_
           clear hK_ K_ HCL ol G16 b17
           refine wpG_take1 10 (f:=1) (fun b_=>#[true,true,true,true,true,true,true,true,true,true,false,b_,false]) ?_
           refine wpG_lay1 (base:=wd.heap.size) al1 (f:=1) (fun b_=>#[true,true,true,true,true,true,true,true,true,true,true,b_,false]) (fun w'=>Below w17.heap.size w17 w') (x:=y_) (fun w' q=>HS.out w' (bstep G17 q)) (fun w' o q=>q.alloc q.size o) (fun w' q=>Nat.le_trans G17.size q.size) (fun _=>trivial) (Below.refl _ w17) hy ?_
           clear hy hS17
           intro lg w18 b18 hlg B18
           (try simp only [vptr,vsl,Act.put,List.setIfInBounds_toArray,List.set_cons_zero,List.set_cons_succ,List.getElem_toArray,List.getElem_cons_zero,List.getElem_cons_succ])
           have G18:=bstep G17 b18
           have HOI8:=hide (HOI.out.bl b18)
           clear al1 b18 G17 HOI
           refine wpAnyX_oq 12 fun K hK=>?_
           refine wpList_sto rfl 43 _ _ rfl (cells:=#[.int .i64 nd.b,.int .i64 nd.bt,.slice Il l1 l2]) rfl rfl B18 rfl log_sizeC (all_one rfl) ?_
           intro w19 L19 gr19 sz19
           refine hK.out _ _ (Or.inl (by decide)) (fun _=>?_)
           clear hK K
           refine wpAnyX_done (by kernel_rfl) ?_ _
           have G19:Below wd.heap.size wd w19:=below_sto G18 gr19 G18.size hlg
           have HOI9:=hide (HOI8.out.fri (FrI.grown B18 gr19 (by decide)))
           clear B18 G18 HOI8 gr19 sz19 HS hlg
           have BW:=bstep HBD.out G19
           have N19:=HNB.out.below' G19
           have O19:=O.below' BW
           have HI:=HOI9
           obtain ⟨w20,hw20⟩:∃ w20,w20=w19.drew:=⟨_,rfl⟩
           have b20:Below w19.heap.size w19 w20:=by rw [hw20];exact (Below.refl _ _).drew
           have N20:=N19.below' b20
           have O20:=O19.below' b20
           have L20:=L19.below' b20
           have HB20:=hide (bstep BW b20)
           have HOI20:=hide (HOI9.out.bl b20)
           have HS:=hide (fun w' (b:Below w20.heap.size w20 w')=>And.intro ((O20.below' b).cell 0) (And.intro (((N20.below' b).cell 1).trans c1) (And.intro (((N20.below' b).cell 4).trans c4) (And.intro (((N20.below' b).cell 3).trans c3) (And.intro (((N20.below' b).cell 19).trans c19) (And.intro (((N20.below' b).cell 15).trans c15) (And.intro (((N20.below' b).cell 16).trans c16) (And.intro (((N20.below' b).cell 17).trans c17) (And.intro (((N20.below' b).cell 18).trans c18) (L20.below' b))))))))))
           go_upto_region 34 with fail
           refine wp_region_x (l:=[19]) (S:=fun w'=>w'.cell? ⟨g,0,none⟩=some (.slice A2 q c2)∧w'.cell? ⟨nv,1,none⟩=some (.bool nd.up)∧w'.cell? ⟨nv,4,none⟩=some (.int .i64 nd.term)∧w'.cell? ⟨nv,3,none⟩=some (.int .i64 nd.role)∧w'.cell? ⟨nv,19,none⟩=some (.int .i64 nd.commit)∧w'.cell? ⟨nv,15,none⟩=some (.int .i64 nd.m.now)∧w'.cell? ⟨nv,16,none⟩=some (.slice E1 e1 e2)∧w'.cell? ⟨nv,17,none⟩=some (.int .i64 nd.m.next)∧w'.cell? ⟨nv,18,none⟩=some (.slice C1 k1 k2)∧Blk w' lg 43 #[.int .i64 nd.b,.int .i64 nd.bt,.slice Il l1 l2]) (by kernel_rfl) (by rw [←hw20];exact HS.out w20 (Below.refl _ _)) (fun hS=>?_)
           rw [←hw20] at hS ⊢
           have HO20:=hide O20
           have HN20:=hide N20
           have HL20:=hide L20
           clear hw20 b20 N20 O20 L20 N19 O19 L19 BW G19 c1 c3 c4 c6 c7 c8 c15 c16 c17 c18 c19
           refine wpAnyX_tq 0 ?_
           refine wpAnyX_tq 1 ?_
           refine wpAnyX_tq 2 ?_
           refine wpAnyX_tq 3 ?_
           refine wpAnyX_tq 4 ?_
           refine wpAnyX_tq 5 ?_
           refine wpAnyX_tq 6 ?_
           refine wpAnyX_tq 7 ?_
           refine wpAnyX_tq 8 ?_
           refine wpAnyX_tq 9 ?_
           refine wpAnyX_tq 10 ?_
           refine wpAnyX_tq 11 ?_ (hy:=yieldsIf_lod (by rfl) 43 _ rfl rfl (fun w' h=>h.2.2.2.2.2.2.2.2.2) Tryz.underlying43 rfl log_sizeC)
           refine wpAnyX_tq 12 ?_
           refine wpAnyX_tq 13 ?_
           clear hS
           have HCC:=hide (HCQ.out w20 E1 e1 e2 C1 k1 k2 (HE.out.fri (FrI.of HB20.out)) (HC.out.fri (FrI.of HB20.out)))
           refine wpAnyX_oq 14 fun K hK=>?_
           go_wp2_with fail
           refine HCC.out.mono ?_
           rintro e w21 ⟨Ec,x1,x2,Cc,y1,y2,rfl,hE1,hC1,b21⟩
           go_wp2_with fail
           refine hK.out _ _ (Or.inr (HS.out _ b21)) (fun hS=>?_)
           clear hK K HCC
           replace hS:=hS.resolve_left (by decide)
           refine wpAnyX_tq 15 ?_
           clear hS
           have HB21:=hide (bstep HB20.out b21)
           have O21:=HO20.out.below' b21
           have N21:=HN20.out.below' b21
           have L21:=HL20.out.below' b21
           have HE1:=hide hE1
           have HC1:=hide hC1
           have HI1:=hide (HOI20.out.bl b21)
           have HS1:=hide (HS.out _ b21)
           have V21:Own w21 w14.heap.size 51 11 (.slice A2 q c2) rows2:=V.below HB21.out
           have hw21:w14.heap.size≤w21.heap.size:=by have:=HFI.out.size;have:=HB21.out.size;omega
           have HSA1:=hide (fun o=>HS.out (w21.alloc o) (b21.alloc b21.size o))
           clear hE1 hC1 b21 HS
           refine wpAnyX_oq 16 fun K hK=>?_
           go_wp2_with fail
           refine hK.out _ _ (Or.inr (HSA1.out _)) (fun hS=>?_)
           clear hK K hS
           refine wpAnyX_oq 17 fun K hK=>?_
           refine wpList_push_k rfl _ _ _ rfl Tryz.underlying28 vw_info rfl (by decide) (by rfl) V21 rfl (by rfl) (row:=#[.bool nd.up,.int .i64 nd.term,.bool (nd.role == 3),.int .i64 nd.commit,.int .i64 nd.b,.int .i64 nd.bt,.slice Il l1 l2,.int .i64 nd.m.now,.slice Ec x1 x2,.int .i64 nd.m.next,.slice Cc y1 y2]) rfl (all_one rfl) (by unfold maxLen;omega) (by omega) hw21 ?_
           intro A9 c9 w22 V22 g22 hn22
           have P22:=Pushed.of V21 g22 hn22
           have hgv:∀ b,(Value.slice A2 q c2).ownBlock=some b→w14.heap.size≤b:=fun b hb=>by
            rcases V21.form with ⟨hv,_⟩|⟨g',cap,hv,hg',_⟩
            ·rw [hv] at hb;simp [Value.ownBlock] at hb
            ·rw [hv] at hb;simp [Value.ownBlock] at hb;omega
           have hG:=HG14.out
           have hneg:(Value.slice A2 q c2).ownBlock≠some g:=fun e=>by have:=hgv g e;omega
           have eg:=P22.blk g O21.lt hneg
           have en:=P22.blk nv N21.lt (own_block_ne V21 N21 (by decide))
           have el:=P22.blk lg L21.lt (own_block_ne V21 L21 (by decide))
           have O22:Blk w22 g 32 _:=eg.trans O21
           have HS22:=hide (show w22.cell? ⟨g,0,none⟩=some (.slice A2 q c2)∧w22.cell? ⟨nv,1,none⟩=some (.bool nd.up)∧w22.cell? ⟨nv,4,none⟩=some (.int .i64 nd.term)∧w22.cell? ⟨nv,3,none⟩=some (.int .i64 nd.role)∧w22.cell? ⟨nv,19,none⟩=some (.int .i64 nd.commit)∧w22.cell? ⟨nv,15,none⟩=some (.int .i64 nd.m.now)∧w22.cell? ⟨nv,16,none⟩=some (.slice E1 e1 e2)∧w22.cell? ⟨nv,17,none⟩=some (.int .i64 nd.m.next)∧w22.cell? ⟨nv,18,none⟩=some (.slice C1 k1 k2)∧Blk w22 lg 43 #[.int .i64 nd.b,.int .i64 nd.bt,.slice Il l1 l2] from by
            obtain ⟨h1,h2,h3,h4,h5,h6,h7,h8,h9,h10⟩:=HS1.out
            exact ⟨(cell_same eg).trans h1,(cell_same en).trans h2,(cell_same en).trans h3,(cell_same en).trans h4,(cell_same en).trans h5,(cell_same en).trans h6,(cell_same en).trans h7,(cell_same en).trans h8,(cell_same en).trans h9,el.trans h10⟩)
           have hn22':(Value.slice A9 (q+1) c9).ownBlock≠some g:=fun e=>by
            rcases hn22 with h|h
            ·rw [h] at e;exact hneg e
            ·have:=h g e;omega
           refine hK.out _ _ (Or.inr HS22.out) (fun hS=>?_)
           clear hK K
           replace hS:=hS.resolve_left (by decide)
           refine wpAnyX_ps 18 ?_
           clear hS
           have gr:=grown_setRow_cell w22 g 0 (.slice A9 (q+1) c9)
           have f23:=FrI.grown O22 gr (by decide)
           have F21:=(FrI.of HB21.out).trans (P22.fr.trans f23)
           have F23:=hide (P22.fr.trans f23)
           have HF21:=hide F21
           have HV23:=hide (show Own (w22.setCell ⟨g,0,none⟩ (.slice A9 (q+1) c9)) w14.heap.size 51 11 (.slice A9 (q+1) c9) _ from own_same V22 fun b hb=>Below.heap_setCell w22 ⟨g,0,none⟩ _ b (fun e=>hn22' (by rw [hb,e])))
           have HO23:=hide (O22.set' (i:=0) (u:=.slice A9 (q+1) c9) rfl)
           have hwr:=HB21.out.size
           have hfs:=HFI.out.size
           have HX23:=hide (show Below g w14 (w22.setCell ⟨g,0,none⟩ (.slice A9 (q+1) c9)) from HBG.out.trans (((HB21.out.mono (by have:=HGN.out;have:=HNV.out;omega)).trans ⟨P22.b0.os,P22.b0.tape,P22.b0.output,P22.b0.size,fun k hk=>P22.blk k (by omega) (fun e=>by have:=hgv k e;omega)⟩).grown gr (by have:=O22.lt;omega) (fun k hk=>by injection hk with hk;omega)))
           have HY23:=hide (show ∀ b,b<w14.heap.size→b≠g→(w22.setCell ⟨g,0,none⟩ (.slice A9 (q+1) c9)).heap[b]?=w14.heap[b]? from fun b hb hne=>(Below.heap_setCell w22 ⟨g,0,none⟩ _ b hne).trans ((P22.blk b (by omega) (fun e=>by have:=hgv b e;omega)).trans ((HB21.out.block b (by omega)).trans (HSA.out b hb hne))))
           have hl22:=O22.lt
           clear eg en el g22 hn22 P22 V22 V21 O21 N21 L21 f23 F21 gr hneg hgv hn22'
           (try clear cO22 fO22);have cO22:=O22.cell;have fO22:=O22.frozen
           refine wpAnyX_oq 19 fun K hK=>?_
           go_wp2_with fail
           refine hK.out _ _ (Or.inl (by decide)) (fun _=>?_)
           clear hK K
           refine wpAnyX_done (by kernel_rfl) ?_ _
           go_wp2_with fail
           go_roundw
           case rel=>exact ⟨q+1,by omega,by go_num,⟨A9,c9,_,HO23.out,HV23.out,by rw [HNX.out];exact (HRV.out.mono fun _ _ h=>h.fri HF21.out).app (Rws.one _ _ ⟨Il,l1,l2,Ec,x1,x2,Cc,y1,y2,rfl,HI1.out.fri F23.out,HE1.out.fri F23.out,HC1.out.fri F23.out⟩)⟩,HX23.out,HY23.out,HFI.out.trans HF21.out⟩
           case measure=>simp [intOf];omega
          ·obtain rfl:q=3:=by omega
           have iq:¬ ((3:Int)<3):=by omega
           have hG:=HG14.out
           have q9:Below w0.heap.size w0 wr:=HB14.out.trans (HBG.out.mono HGB.out)
           have R2:=HO0.out.below' q9
           have hwz:=R2.lt
           have HRV3:=hide (show Rws (VwAt wr) [s.nd.x,s.nd.y,s.nd.z] rows2 from HRV.out)
           have HTD9:=hide (show Own wr (g+1) 78 12 (.slice A' s.told.length c') rows' from own_same HW14.out fun b hb=>by
            obtain ⟨cur,hcc⟩:=own_typed HW14.out hb
            refine HSA.out b (Blk.lt hcc) fun e=>?_
            rcases HW14.out.form with ⟨hv,_⟩|⟨g',cap,hv,hg',_⟩
            ·rw [hv] at hb;simp [Value.ownBlock] at hb
            ·rw [hv] at hb;simp [Value.ownBlock] at hb;omega)
           have HLD9:=hide (show Own wr (w.heap.size+1) 95 2 (.slice A5 s.led.length c5) (ld.map ldC) from own_same HO5.out fun b hb=>by
            obtain ⟨cur,hcc⟩:=own_typed HO5.out hb
            refine HSA.out b (Blk.lt hcc) fun e=>?_
            have:=HMG.out b (.inr ⟨8,by omega,by show v6.z.ownBlock=_;rw [HLD.out];exact hb⟩)
            omega)
           have hne:g≠w.heap.size:=by have:=HGB.out;have:=HS0.out;omega
           go_wp2_with (first|(refine wpList_lod rfl 32 _ rfl rfl O Tryz.underlying32 rfl out_size_ ?_)|(refine wpList_sto rfl 32 _ _ rfl (cells:=#[.slice A2 3 c2,.slice A' s.told.length c',.slice A5 s.led.length c5,.int .i64 s.away.length]) rfl rfl R2 rfl out_size_ (all_one rfl) ?_;intro wz Z grz szz))
           have cZ:=Z.cell
           have fz:=FrI.grown R2 grz (by decide)
           have hws:∀ {t:TypeId} {size:Nat} {u:Value} {rows:List (List Value)} {B:Nat},Own wr B t size u rows→32≠t→Own wz B t size u rows:=fun {t size u rows B} ho hn=>own_same ho fun b hb=>by
            obtain ⟨cur,hcc⟩:=own_typed ho hb
            exact grz.block b (Blk.lt hcc) (fun e=>own_block_ne ho R2 hn (by rw [hb,←e]))
           refine bodyPost_ret (v:=.tuple #[.agg #[.slice A2 3 c2,.slice A' s.told.length c',.slice A5 s.led.length c5,.int .i64 s.away.length],.int .i64 0]) ?_ rfl ⟨A2,A',A5,3,c2,s.told.length,c',s.led.length,c5,rfl,⟨⟨_,(hws V (by decide)).sl',HRV3.out.mono fun _ _ h=>h.fri fz⟩,⟨_,(hws HTD9.out (by decide)).sl',HRW14.out.mono fun _ _ h=>h.fri (HFI.out.trans fz)⟩,⟨_,(hws HLD9.out (by decide)).sl',HPM.out⟩,own_tp (hws V (by decide)),own_tp (hws HTD9.out (by decide)),own_tp (hws HLD9.out (by decide))⟩,(bstep HQ0.out (q9.mono (by have:=HS0.out;omega))).grown grz (by omega) (fun k hk=>by injection hk with hk;omega)⟩
           simp [results,Tryz.results33,go_sem,cZ]
end
theorem act_one_:∀ (l:List ActD),∀ r∈actRows l,∀ u∈r,u.oneCell'=true:=by
 intro l r hr u hu
 obtain ⟨x,_,rfl⟩:=List.mem_map.1 hr
 exact act_cells_one x u hu
theorem actRows_app_ (a b:List ActD):actRows (a ++ b)=actRows a ++ actRows b:=by simp [actRows]
set_option maxRecDepth 100000 in
theorem with_any (A:Option Addr) (n c:Nat) (l:List ActD) (B:Option Addr) (m d:Nat) (k:List ActD) (w:World) (h1:Sl w 10 A n c (actRows l)) (h2:Sl w 10 B m d (actRows k)) (hl:l.length≤1000000) (hk:k.length≤1000000) :
  Calls Tryz.prog 22 #[.slice A n c,.slice B m d] w fun e w'=>∃ v,e = .returned v∧Own w' w.heap.size 40 10 v (actRows (l ++ k))∧Below w.heap.size w w':=by
 have hn:=act_len h1
 have hm:=act_len h2
 subst hn;subst hm
 go_enter Tryz.func22,Tryz.ntmps22
 go_wp2_with (first
  | (at_builtin;refine wpList_pushes rfl _ _ _ rfl Tryz.underlying24 act_info rfl (by decide) (by rfl) (Own.nil (base:=w.heap.size)) (by rfl) h1 (act_one_ _) (by simp [maxLen];omega) (by simp;omega) (Nat.le_refl _) ?_;intro A6 n6 c6 w6 O6 b6;rw [List.nil_append] at O6;obtain rfl:n6=l.length:=(by have:=O6.sl'.len;rw [actRows_length] at this;exact this.symm);have h26:=h2.below b6;have hz6:=b6.size)
  | (at_builtin;refine wpList_pushes rfl _ _ _ rfl Tryz.underlying24 act_info rfl (by decide) (by rfl) O6 (by rfl) h26 (act_one_ _) (by rw [actRows_length];unfold maxLen;omega) (by rw [actRows_length];omega) hz6 ?_;intro A7 n7 c7 w7 O7 b7;rw [←actRows_app_] at O7))
 go_wp2_with fail
 go_ret
 exact ⟨_,rfl,O7,b6.trans b7⟩
def RanPost (s:Cw) (w:World) (e:Ending) (w':World):Prop:=
 ∃ (A B D:Option Addr) (c k d m q:Nat),e = .returned (.tuple #[.agg #[.slice A 3 c,.slice B k d,.slice D m q,.int .i64 s.away.length],.bool true])∧OutAt w' s A B D 3 c k d m q∧Below w.heap.size w w'
theorem OutAt.below {w w':World} {s:Cw} {A B D:Option Addr} {a c k d m e:Nat} (h:OutAt w s A B D a c k d m e) (hb:Below w.heap.size w w'):OutAt w' s A B D a c k d m e:=by
 obtain ⟨⟨r1,a1,a2⟩,⟨r2,b1,b2⟩,⟨r3,c1,c2⟩,t1,t2,t3⟩:=h
 exact ⟨⟨r1,a1.below hb,a2.mono fun _ _ h=>h.fri (FrI.of hb)⟩,⟨r2,b1.below hb,b2.mono fun _ _ h=>h.fri (FrI.of hb)⟩,⟨r3,c1.below hb,c2⟩,t1.bl hb,t2.bl hb,t3.bl hb⟩
theorem OutAt.write {w w':World} {s:Cw} {A B D:Option Addr} {a c k d m e g:Nat} {cs:Array Value} (h:OutAt w s A B D a c k d m e) (R:Blk w g 32 cs) (hg:w.grownBy w' (some g)):OutAt w' s A B D a c k d m e:=by
 obtain ⟨⟨r1,a1,a2⟩,⟨r2,b1,b2⟩,⟨r3,c1,c2⟩,t1,t2,t3⟩:=h
 have f:=FrI.grown R hg (by decide)
 exact ⟨⟨r1,a1.far hg (t1.ne R (by decide)),a2.mono fun _ _ h=>h.fri f⟩,⟨r2,b1.far hg (t2.ne R (by decide)),b2.mono fun _ _ h=>h.fri f⟩,⟨r3,c1.far hg (t3.ne R (by decide)),c2⟩,grown_tp t1 R hg (by decide),grown_tp t2 R hg (by decide),grown_tp t3 R hg (by decide)⟩
theorem OutAt.three {w:World} {s:Cw} {A B D:Option Addr} {a c k d m e:Nat} (h:OutAt w s A B D a c k d m e):a=3∧k=s.told.length∧m=s.led.length:=by
 obtain ⟨⟨r1,a1,a2⟩,⟨r2,b1,b2⟩,⟨r3,c1,c2⟩,-⟩:=h
 have:=a1.len;have:=a2.len;have:=b1.len;have:=b2.len;have:=c1.len;have h5:=c2.length_eq
 simp at *
 exact ⟨by omega,by omega,by omega⟩
set_option maxRecDepth 100000 in
theorem ran_of (s:Cw) (A:Option Addr) (n c:Nat) (w:World) (hR:∀ w',Below w.heap.size w w'→Calls Tryz.prog 33 #[.slice A n c] w' (RunPost s w')) :
  Calls Tryz.prog 25 #[.slice A n c] w (RanPost s w):=by
 have HR:=hide hR
 clear hR
 have q0:Below w.heap.size w (w.alloc (.cells #[.slice none 0 0,.slice none 0 0,.slice none 0 0,.int .i64 0] 32)):=below_by
 have R0:=Blk.new w 32 #[.slice none 0 0,.slice none 0 0,.slice none 0 0,.int .i64 0]
 go_enter Tryz.func25,Tryz.ntmps25
 go_wp2_with fail
 refine (HR.out _ q0).mono ?_
 rintro e w1 ⟨A1,B1,D1,a1,c1,k1,d1,m1,qq1,rfl,O1,b1⟩
 obtain ⟨rfl,rfl,rfl⟩:=O1.three
 have R1:=R0.below' b1
 have q1:=bstep q0 b1
 go_upto_region 2 with fail
 obtain ⟨w2,hw2⟩:∃ w2,w2=w1.alloc (.cells #[.slice A1 3 c1,.slice B1 s.told.length d1,.slice D1 s.led.length qq1,.int .i64 s.away.length] 32):=⟨_,rfl⟩
 have b2:Below w1.heap.size w1 w2:=by rw [hw2];exact below_by
 have Z2:Blk w2 w1.heap.size 32 #[.slice A1 3 c1,.slice B1 s.told.length d1,.slice D1 s.led.length qq1,.int .i64 s.away.length]:=by rw [hw2];exact Blk.new _ _ _
 rw [←hw2]
 have O2:=O1.below b2
 have R2:=R1.below' b2
 have qq:=bstep q1 b2
 have hr2:=R2.lt
 have hr1:=R1.lt
 clear q0 R0 R1 q1 b2 b1 HR O1 hw2
 obtain ⟨g,hg⟩:∃ g,g=w1.heap.size:=⟨_,rfl⟩
 have hgw:g≠w.heap.size:=by omega
 rw [←hg] at Z2 ⊢
 clear hg
 obtain ⟨wd,hwd⟩:∃ wd,wd=w2.drew:=⟨_,rfl⟩
 have bd:Below w2.heap.size w2 wd:=by rw [hwd];exact (Below.refl _ _).drew
 have Zd:=Z2.below' bd
 have Rd:=R2.below' bd
 have Od:=O2.below bd
 have qd:=bstep qq bd
 refine wp_region_x (l:=[]) (S:=fun w'=>Blk w' g 32 #[.slice A1 3 c1,.slice B1 s.told.length d1,.slice D1 s.led.length qq1,.int .i64 s.away.length]∧w'.cell? ⟨g,0,none⟩=some (.slice A1 3 c1)) (by kernel_rfl) (by rw [←hwd];exact ⟨Zd,Zd.cell 0⟩) (fun hS=>?_)
 rw [←hwd] at hS ⊢
 clear hwd bd Z2 R2 O2 qq
 refine wpAnyX_tq 0 ?_ (hy:=yieldsIf_lod (by rfl) 32 _ rfl rfl (fun w' h=>h.1) Tryz.underlying32 rfl out_size_)
 refine wpAnyX_tq 1 ?_
 refine wpAnyX_tq 2 ?_
 refine wpAnyX_tq 3 ?_
 refine wpAnyX_tq 4 ?_
 refine wpAnyX_tq 5 ?_
 refine wpAnyX_tq 6 ?_
 refine wpAnyX_tq 7 ?_
 refine wpAnyX_tq 8 ?_
 clear hS
 refine wpAnyX_oq 9 fun K hK=>?_
 refine wpList_sto rfl 32 _ _ rfl (cells:=#[.slice A1 3 c1,.slice B1 s.told.length d1,.slice D1 s.led.length qq1,.int .i64 s.away.length]) rfl rfl Rd rfl out_size_ (all_one rfl) ?_
 intro w3 Z3 gr3 sz3
 have Zg:=blk_sto Zd gr3 hgw
 have fr3:=FrI.grown Rd gr3 (by decide)
 have b3:=gr3
 refine hK.out _ _ (Or.inr ⟨Zg,Zg.cell 0⟩) (fun hS=>?_)
 clear hK K
 replace hS:=hS.resolve_left (by decide)
 refine wpAnyX_ps 10 ?_
 clear hS
 refine wpAnyX_done (by kernel_rfl) ?_ _
 have O3:=Od.write Rd gr3
 have cZ:=Z3.cell
 go_wp2_with fail
 refine bodyPost_ret (v:=.tuple #[.agg #[.slice A1 3 c1,.slice B1 s.told.length d1,.slice D1 s.led.length qq1,.int .i64 s.away.length],.bool true]) ?_ rfl ⟨A1,B1,D1,c1,_,d1,_,qq1,rfl,O3,qd.grown gr3 (by have:=qd.size;omega) (fun k hk=>by injection hk with hk;omega)⟩
 simp [results,Tryz.results25,go_sem,cZ]
section
variable {w w':World} {base Kb:Nat} {M:Nat→Prop} {s:Cw}
theorem Down.of {s':Cw} {m:Msg} (h:Down s m) (e:s'.nd=s.nd):Down s' m:=⟨h.1,h.2.1,by rw [e];exact h.2.2⟩
theorem go_fine (h:Cr w base Kb M s) (f:Fine s) (a:ActD) (hc:checkAct a=0) :
  Calls Tryz.prog 49 #[.pointer (some ⟨Kb,0,none⟩),.agg a.cells.toArray] w (Does base Kb M (s.go a) w):=by
 have A:=actOk_of hc
 have n0:=A.n0;have n3:=A.n3
 have hi:a.node.toNat<3:=by omega
 have B:=f.idle.nd _ hi
 refine go_of h a A hi (by omega) (by have:=f.away;omega) (fun _ w' q=>ask_no (h.bl q) hi _ (Bare.nl B) (by have:=f.told;omega)) (fun _ w' q=>act_no (h.bl q) hi a B A.p0 A.p1) ⟨B.clk0,B.clk1⟩ (fun s' m hg w' M' row hc' _ hm=>?_)
 have key:Down s' m:=by
  rcases hg with ⟨_,hm,rfl,_⟩|⟨_,k,hm,rfl⟩
  ·exact (f.idle.away m hm).of rfl
  ·rw [comes_down (s.away.take k) { s with away:=[] } fun x hx=>(f.idle.away x (List.mem_of_mem_take hx)).of rfl]
   exact (f.idle.away m (List.mem_of_getElem? hm)).of rfl
 rw [come_down key]
 obtain ⟨d0,d3,d⟩:=key
 exact come_no hc' (i:=m.dst.toNat) (by omega) m row hm (by omega) d
theorem runC_take {l:List ActD} {k:Nat} (hk:k<l.length):runC (l.take (k+1))=(runC (l.take k)).go l[k]:=by
 rw [List.take_succ_eq_append_getElem hk,runC_app];rfl
theorem run_fine (l:List ActD) (A:Option Addr) (n c:Nat) (w:World) (hS:Sl w 10 A n c (actRows l)) (h3:n≤3000) (hok:∀ x∈l,checkAct x=0) (hf:∀ k,Fine (runC (l.take k))) :
  Calls Tryz.prog 33 #[.slice A n c] w (RunPost (runC l) w):=by
 have f:=hf l.length
 rw [List.take_length] at f
 refine Run_of l A n c w hS h3 hok (fun k hk w' Kb M hcr _=>?_) (fun i hi w' A k c B j d hE hC=>?_) (fun w' A m c ho=>?_) (by have:=f.told;omega) (fun t ht=>by rw [f.lists t ht];simp) (fun i hi=>by rw [(f.idle.nd i hi).L];simp)
 ·rw [runC_take hk]
  exact go_fine hcr (hf k) _ (hok _ (List.getElem_mem hk))
 ·have hm:=(f.idle.nd i hi).m
  exact copy_nil _ (by rw [hm];rfl) (by rw [hm];rfl) A B k c j d w' hE hC
 ·rw [f.idle.led] at ho ⊢
  have hl:=ho.sl'.len
  simp only [List.map_nil,List.length_nil] at hl ho ⊢
  subst hl
  exact sort_nil A c _ w' ho
end
end Go.Proofs.YtgdcofbnbiclmaaGreatDoor

