import Derived.Test.YtgmojjclobkpjaaGreatDoorQTapN
import Derived.Test.YtgmojjclobkpjaaGreatDoorQDecM
import Derived.Lib.AppendZeros
import Derived.Test.YtgmojjclobkpjaaGreatDoorQTapP
namespace Go.Proofs.YtgmojjclobkpjaaGreatDoor
set_option linter.all false
set_option maxHeartbeats 32000000
open Go.RowKit
theorem wpList_load_blk {P:Program} {ops:Array Oper} {rest:List Oper} {op:Oper} {a:Act} {w:World} {Q:Exit→Act→World→Prop} (hgd:op.guard=none) (ty:TypeId) (x:Operand) (ho:op.op = .load ty x)
  {b:Nat} {cs:Array Value} (hx:a.eval x = .pointer (some ⟨b,0,none⟩)) (hB:Blk w b ty cs) {d:TypeDesc} (hu:P.underlying ty=some d) (hd:(match d with | .struct _ | .array _ _=>true|_=>false)=true) (hi:(P.info? ty).map (·.size)=some cs.size)
  (h:wpList P ops Q rest (a.put op.dst (.agg cs)) w):wpList P ops Q (op :: rest) a w:=by
 have hrun:=run_loadVar_row (P:=P) w b ty ty cs (0,0) d hB hu hd hi
 refine wpList_plain hgd fun _ hK=>?_
 unfold Oper.wp execOp
 simp only [ho,hx,Instr.loadAt,Instr.sureAddr,Sem.run_bind,Sem.run_pure,Result.andThen_ok,hrun]
 exact hK _ _ h
theorem Check_rec {r:RK} (hr:r.Ok) {row:List Value} (w:World) (h:RecAt w r row):Calls Tryz.prog 28 #[.agg row.toArray] w fun e w'=>e = .returned (.int .i64 0)∧Below w.heap.size w w':=by
 cases r with
 | mark t f=>rw [show row=markCells t f from h];exact CheckMark_ok t f hr.1 hr.2.1 hr.2.2 w
 | line i x=>rw [show row=lineCells i x from h];exact CheckLine_ok i x hr.1 hr.2 w
 | load i t m=>
  obtain ⟨A,n,c,B,k,d,rfl,hE,hC⟩:=h
  have hok:=hr.2.2
  have h0:csM i t m=0:=by unfold csM;rw [hr.1,hr.2.1,if_pos (by rfl),ok_mach hok]
  rw [←h0]
  exact CheckLoad_any i t m A B n c k d w hE.sl hC.sl (by have:=hE.sl.len;have:=hok.sto.few;omega) (by have:=hC.sl.len;have:=hok.few;omega) (fun x hx=>by obtain ⟨a,b,d⟩:=hok.sto.small x hx;exact ⟨by omega,by omega,by omega⟩) (fun x hx=>by have:=rep_to (hok.cli x hx).rep;exact ⟨by have:=this.text;omega,by have:=this.few;omega⟩)
theorem tape_size:(Tryz.prog.info? 27).map (·.size)=some 2:=by kernel_rfl
set_option maxRecDepth 100000 in
theorem topen_any (l:List Value) (hu:U8s l) (A:Option Addr) (n c:Nat) (s:Int) (w:World) (hS:Sl w 1 A n c (byteRows l)) (h0:0≤s) (h1:s≤l.length) (h2:l.length≤400000) :
  Calls Tryz.prog 37 #[.agg #[.slice A n c,.int .i64 s]] w fun e w'=>∃ Y m d,e = .returned (.tuple #[.agg #[.slice Y m d,.int .i64 s],.bool true])∧Own w' w.heap.size 5 1 (.slice Y m d) (byteRows l)∧Below w.heap.size w w':=by
 have hm:l.length=n:=by rw [←hS.len,byteRows_length]
 have HCL:=hide (fun w' (h:Below w.heap.size w w')=>Clone_u8 A n c (byteRows l) w' (hS.below h) (bytes_one_ hu) (by omega))
 have c1:¬ (s<0):=by omega
 have c2:¬ ((n:Int)<s):=by omega
 have c3:¬ ((400000:Int)<(n:Int)):=by omega
 clear hu hS
 have T0:=(Blk.new w 27 #[.slice A n c,.int .i64 s]).alloc (.cells #[.slice none 0 0,.int .i64 0] 27)
 have R0:Blk ((w.alloc (.cells #[.slice A n c,.int .i64 s] 27)).alloc (.cells #[.slice none 0 0,.int .i64 0] 27)) (w.heap.size+1) 27 #[.slice none 0 0,.int .i64 0]:=Blk.new' _ _ _ (by simp)
 have q0:Below w.heap.size w ((w.alloc (.cells #[.slice A n c,.int .i64 s] 27)).alloc (.cells #[.slice none 0 0,.int .i64 0] 27)):=below_by
 go_enter Tryz.func37,Tryz.ntmps37
 (try clear cT0 fT0);have cT0:=T0.cell;have fT0:=T0.frozen
 go_wp2_with fail
 obtain ⟨w0,hw0⟩:∃ w0,w0=(w.alloc (.cells #[.slice A n c,.int .i64 s] 27)).alloc (.cells #[.slice none 0 0,.int .i64 0] 27):=⟨_,rfl⟩
 rw [←hw0] at T0 R0 q0 ⊢
 clear hw0 cT0 fT0
 refine wp_region_x (l:=[]) (S:=fun w'=>w'.cell? ⟨w.heap.size,0,none⟩=some (.slice A n c)∧w'.cell? ⟨w.heap.size,1,none⟩=some (.int .i64 s)) (by kernel_rfl) ⟨T0.drew.cell 0,T0.drew.cell 1⟩ (fun hS=>?_)
 replace T0:=T0.drew;replace R0:=R0.drew;replace q0:=q0.drew
 obtain ⟨wd,hwd⟩:∃ wd,wd=w0.drew:=⟨_,rfl⟩
 rw [←hwd] at hS T0 R0 q0 ⊢
 clear hwd
 refine wpAnyX_tq 0 ?_
 refine wpAnyX_tq 1 ?_
 refine wpAnyX_tq 3 ?_
 refine wpAnyX_tq 4 ?_
 refine wpAnyX_oq 2 fun K hK=>?_
 go_wp2_with fail
 refine (HCL.out _ q0).mono ?_
 rintro e w1 ⟨v,rfl,o1,b1⟩
 obtain ⟨Y,m,d,rfl⟩:=own_slice o1
 go_wp2_with fail
 replace T0:=T0.below' b1;replace R0:=R0.below' b1
 have q1:=bstep q0 b1
 refine hK.out _ _ (Or.inr ⟨T0.cell 0,T0.cell 1⟩) (fun hS=>?_)
 replace hS:=hS.resolve_left (by decide)
 clear hK K
 refine wpAnyX_tq 5 ?_
 refine wpAnyX_oq 6 fun K hK=>?_
 refine wpList_store_blk rfl 27 _ _ rfl (cells:=#[.slice Y m d,.int .i64 s]) rfl rfl R0 rfl tape_size (all_one rfl) ?_
 intro w9 Z9 gr9 sz9
 have T9:=grown_blk T0 gr9 (by omega)
 have o9:=(own_grew o1 R0 gr9).mono (q0.size)
 have q9:=below_grow q1 gr9 q1.size (by omega)
 refine hK.out _ _ (Or.inr ⟨T9.cell 0,T9.cell 1⟩) (fun hS=>?_)
 replace hS:=hS.resolve_left (by decide)
 clear hK K
 refine wpAnyX_oq 7 fun K hK=>?_
 go_wp2_with fail
 refine hK.out _ _ (Or.inr ⟨T9.cell 0,T9.cell 1⟩) (fun _=>?_)
 clear hK K
 refine wpAnyX_done (by kernel_rfl) ?_ _
 clear gr9 sz9 R0 T0 o1 b1 q0 q1 hS T9
 (try clear cZ9 fZ9);have cZ9:=Z9.cell;have fZ9:=Z9.frozen
 go_wp2_with fail
 refine bodyPost_ret (v:=.tuple #[.agg #[.slice Y m d,.int .i64 s],.bool true]) ?_ rfl ⟨Y,m,d,rfl,o9,q9⟩
 simp [results,Tryz.results37,go_sem, *]
set_option maxRecDepth 100000 in
theorem Grow_u8 (n:Nat) (h0:0<n) (hn:n≤1000000) (w:World) :
  Calls Tryz.prog 86 #[.slice none 0 0,.int .i64 (n:Int)] w fun e w'=>∃ A c,e = .returned (.slice A 0 c)∧Own w' w.heap.size 5 1 (.slice A 0 c) []∧Below w.heap.size w w':=by
 obtain ⟨i,hi1,hi2,hi3,hi4⟩:=info_parts u8_info
 have hr:=fun w ty=>Lib.run_append_nil_zeros (P:=Tryz.prog) w 25 3 ty 5 i (.int .u8 0) .i64 .i64 Tryz.underlying25 Tryz.underlying3 hi1 hi2 n h0 (by omega) (by omega) (by rw [hi4];omega)
 have hge:=grownCap_ge w n 0 5
 have hle:=grownCap_le_maxLen w n 0 5 (by unfold maxLen;omega)
 have hn0:¬ ((n:Int)<0):=by omega
 have hn1:(0:Int)<(n:Int):=by omega
 have hn2:IntKind.i64.wrap ((n:Int) - 0)=n:=IntWalk.i64_in _ (by omega)
 have ho:Own (w.drew.alloc (.cells (Builtin.zeroCells (Value.int .u8 0).cells n ++ Builtin.zeroCells (Value.int .u8 0).cells (grownCap w n 0 5 - n)) 5)) w.heap.size 5 1 (.slice (some ⟨w.heap.size,0,none⟩) 0 (grownCap w n 0 5)) []:=by
  refine ⟨⟨by simp,.inr ⟨w.heap.size,_,_,rfl,Nat.le_refl _,heap_alloc_new w.drew _,by simp,hle,?_,by simp⟩⟩,by simp⟩
  simp only [Array.size_append,size_zeroCells,Value.cells,Array.size_singleton]
  simp [Value.cells]
  omega
 have hq:Below w.heap.size w (w.drew.alloc (.cells (Builtin.zeroCells (Value.int .u8 0).cells n ++ Builtin.zeroCells (Value.int .u8 0).cells (grownCap w n 0 5 - n)) 5)):=(Below.refl _ w).drew.alloc (Nat.le_refl _) _
 have hr0:=fun ty=>hr w ty
 obtain ⟨w1,hw1⟩:∃ w1,w1=(w.drew.alloc (.cells (Builtin.zeroCells (Value.int .u8 0).cells n ++ Builtin.zeroCells (Value.int .u8 0).cells (grownCap w n 0 5 - n)) 5)):=⟨_,rfl⟩
 rw [←hw1] at hr0 ho hq
 generalize grownCap w n 0 5=c at *
 have HR:=hide hr0
 have s1:=fun w=>run_take Tryz.underlying25 u8_size (some ⟨w1.heap.size - 1,0,none⟩) n c 0 (by omega) w
 have s2:=fun b w=>run_take Tryz.underlying25 u8_size (some ⟨b,0,none⟩) n c 0 (by omega) w
 clear hr hr0 hw1 s1
 have s3:=s2 w.heap.size
 clear s2
 go_enter Tryz.func86,Tryz.ntmps86
 go_wp2_with (at_builtin;refine Lib.wpList_append_run _ rfl _ _ _ _ rfl _ _ rfl rfl _ _ (HR.out _) ?_)
 go_ret
 exact ⟨_,_,rfl,ho,hq⟩
theorem three_any (n:Int) (h0:0≤n) (h1:n<16777216) (w:World):Calls Tryz.prog 54 #[.int .i64 n] w fun e w'=>∃ A m c,e = .returned (.slice A m c)∧Sl w' 1 A m c (byteRows (three n))∧Below w.heap.size w w':=by
 have e1:n / 65536 % 256=n / 65536:=by omega
 go_enter Tryz.func54,Tryz.ntmps54
 go_wp2_with fail
 go_ret
 refine ⟨some ⟨w.heap.size,0,none⟩,3,3,rfl,?_,below_by⟩
 have B:=Blk.new w 5 #[.int .u8 (n / 65536),.int .u8 (n / 256 % 256),.int .u8 (n % 256)]
 refine Sl.of_blk B ?_ ?_ rfl (by simp [maxLen])
 ·simp [byteRows,three,u8,e1]
 ·intro r hr
  obtain ⟨v,_,rfl⟩:=List.mem_map.1 hr
  rfl
structure Pt where
 A:Option Addr
 n:Nat
 c:Nat
 l:List Value
def Pt.v (p:Pt):Value:=.slice p.A p.n p.c
def catB (ps:List Pt):List Value:=(ps.map Pt.l).flatten
theorem cat_next {ps:List Pt} {k:Nat} (hk:k<ps.length):catB (ps.take (k+1))=catB (ps.take k) ++ ps[k].l:=by
 unfold catB
 rw [List.take_succ_eq_append_getElem hk,List.map_append,List.flatten_append];simp
theorem cat_le (ps:List Pt) (k:Nat):(catB (ps.take k)).length≤(catB ps).length:=by
 have:=congrArg List.length (show catB ps=catB (ps.take k) ++ catB (ps.drop k) by unfold catB;rw [←List.flatten_append,←List.map_append,List.take_append_drop])
 rw [List.length_append] at this
 omega
set_option maxRecDepth 100000 in
theorem Concat_u8 (ps:List Pt) (Z:Option Addr) (cz:Nat) (w:World) (hZ:Sl w 1 Z ps.length cz (ps.map fun p=>[p.v])) (hP:∀ p∈ps,Sl w 1 p.A p.n p.c (byteRows p.l)∧U8s p.l) (h0:0<(catB ps).length) (h1:(catB ps).length≤1000000) :
  Calls Tryz.prog 53 #[.slice Z ps.length cz] w fun e w'=>∃ A n c,e = .returned (.slice A n c)∧Own w' w.heap.size 5 1 (.slice A n c) (byteRows (catB ps))∧Below w.heap.size w w':=by
 have HP:=hide hP
 have HN:=hide (fun k (hk:k<ps.length)=>cat_next hk)
 have HL:=hide (cat_le ps)
 have hcz:=hZ.nc
 have hmz:=hZ.cm
 unfold maxLen at hmz
 have HZ:=hide (fun w' (q:Below w.heap.size w w') k (hk:k<ps.length)=>(hZ.below q).seg.at_ (i:=k) (by simpa using hk))
 obtain ⟨T,hT⟩:∃ T,Hid (T=catB ps):=⟨_,hide rfl⟩
 rw [←hT.out] at h0 h1
 clear hP hZ
 go_enter Tryz.func53,Tryz.ntmps53
 go_wp2_with fail
 go_loop [3,5,11] (fun s3 s5 s11=>∃ k:Nat,k≤ps.length∧s11 = .int .i64 (k:Int)∧s3 = .int .i64 ((catB (ps.take k)).length:Int)) (fun _ _ s11=>ps.length - (intOf s11).toNat)
 case atStart=>exact ⟨0,by omega,rfl,rfl⟩
 case round=>
  obtain ⟨k,hk,rfl,rfl⟩:=hrel
  by_cases hlt:k<ps.length
  ·obtain ⟨b,off,rfl,hb,hc⟩:=HZ.out w (Below.refl _ _) k hlt
   have hnx:=congrArg List.length (HN.out k hlt)
   have hl:=HL.out (k+1)
   rw [←hT.out] at hl
   obtain ⟨hs,_⟩:=HP.out _ (List.getElem_mem hlt)
   have hpl:=hs.len
   rw [byteRows_length] at hpl
   rw [List.length_append,hpl] at hnx
   have hck:w.cell? ⟨b,off+k,none⟩=some (.slice ps[k].A ps[k].n ps[k].c):=by simpa [Pt.v] using hc 0 ps[k].v (by simp)
   clear hs hpl hc
   have hz1:(k:Int)<(ps.length:Int):=by omega
   have HNX:=hide hnx
   rw [hnx] at hl
   clear hnx
   generalize ps[k].n=pn at *
   generalize ps[k].A=pa at *
   generalize ps[k].c=pc at *
   generalize (catB (ps.take k)).length=sz at *
   have hw:IntKind.i64.wrap ((sz:Int)+(pn:Int))=(sz:Int)+(pn:Int):=IntWalk.i64_in _ (by omega)
   have hng:¬ ((sz:Int)+(pn:Int)<0):=by omega
   go_wp2_with fail
   go_round
   case rel=>exact ⟨k+1,by omega,by go_num,by rw [HNX.out];simp⟩
   case measure=>simp [intOf];omega
  ·obtain rfl:k=ps.length:=by omega
   rw [List.take_of_length_le (Nat.le_refl _),←hT.out]
   go_wp2_with fail
   refine (Grow_u8 T.length h0 h1 _).mono ?_
   rintro e w1 ⟨A0,c0,rfl,o1,b1⟩
   go_wp2_with fail
   go_loopw [6,8,27] (fun s6 s8 s27 wr=>∃ k:Nat,k≤ps.length∧s27 = .int .i64 (k:Int)∧∃ A n c,s6 = .slice A n c∧Own wr w.heap.size 5 1 (.slice A n c) (byteRows (catB (ps.take k)))∧Below w.heap.size w wr) (fun _ _ s27 _=>ps.length - (intOf s27).toNat)
   case atStart=>exact ⟨0,by omega,rfl,A0,0,c0,rfl,o1,b1⟩
   case round=>
    clear o1 b1
    obtain ⟨k,hk,rfl,A1,n1,c1,rfl,O,q⟩:=hrel
    by_cases hlt:k<ps.length
    ·obtain ⟨b,off,rfl,hb,hc⟩:=HZ.out wr q k hlt
     have hl:=HL.out (k+1)
     rw [HN.out k hlt,List.length_append] at hl
     rw [←hT.out] at hl
     obtain ⟨hs,hu⟩:=HP.out _ (List.getElem_mem hlt)
     have hpl:=hs.len
     rw [byteRows_length] at hpl
     have hck:wr.cell? ⟨b,off+k,none⟩=some (.slice ps[k].A ps[k].n ps[k].c):=by simpa [Pt.v] using hc 0 ps[k].v (by simp)
     have hs2:=hs.below q
     have hone:=bytes_one_ hu
     have HNX:=hide (HN.out k hlt)
     clear hc hs hu
     have hz1:(k:Int)<(ps.length:Int):=by omega
     generalize ps[k]=p at *
     obtain ⟨pa,pn,pc,pl⟩:=p
     simp only at hl hpl hck hs2 hone HNX
     have HONE:=hide hone
     clear hone
     have hqs:=q.size
     go_wp2_with (at_builtin;refine wpList_pushes rfl _ _ _ rfl Tryz.underlying25 u8_info rfl (by decide) (by rfl) O (by rfl) hs2 HONE.out (by rw [byteRows_length];unfold maxLen;omega) (by rw [byteRows_length];omega) hqs ?_;intro A5 n5 c5 w5 O5 b5)
     have q5:=q.trans b5
     rw [show byteRows (catB (ps.take k)) ++ byteRows pl=byteRows (catB (ps.take (k+1))) by rw [HNX.out];simp [byteRows]] at O5
     go_roundw
     case rel=>exact ⟨k+1,by omega,by go_num,A5,n5,c5,rfl,O5,q5⟩
     case measure=>simp [intOf];omega
    ·obtain rfl:k=ps.length:=by omega
     rw [List.take_of_length_le (Nat.le_refl _)] at O
     go_wp2_with fail
     go_ret
     exact ⟨A1,n1,c1,rfl,O,q⟩
structure TpSl (w:World) (A:Option Addr) (n c:Nat) (l:List Value):Prop where
 sl:Sl w 1 A n c (byteRows l)
 u8:U8s l
 tp:Tp w A 5
theorem TpSl.bl {w w':World} {A:Option Addr} {n c:Nat} {l:List Value} (h:TpSl w A n c l) (hb:Below w.heap.size w w'):TpSl w' A n c l:=⟨h.sl.below hb,h.u8,h.tp.bl hb⟩
theorem TpSl.grown {w w':World} {A:Option Addr} {n c:Nat} {l:List Value} (h:TpSl w A n c l) {g:Nat} {t:TypeId} {cs:Array Value} (R:Blk w g t cs) (hg:w.grownBy w' (some g)) (hne:5≠t:=by decide):TpSl w' A n c l:=⟨h.sl.far hg (h.tp.ne R hne),h.u8,grown_tp h.tp R hg hne⟩
theorem TpSl.len {w:World} {A:Option Addr} {n c:Nat} {l:List Value} (h:TpSl w A n c l):l.length=n:=by rw [←h.sl.len,byteRows_length]
set_option maxRecDepth 100000 in
theorem Crash_any (l:List Value) (A:Option Addr) (n c:Nat) (s k:Int) (w:World) (h:TpSl w A n c l) (h0:0≤s) (h1:s≤l.length) (h2:l.length≤400000) (k0:0≤k) (k1:k≤1000000) :
  Calls Tryz.prog 17 #[.agg #[.slice A n c,.int .i64 s],.int .i64 k] w fun e w'=>∃ (m:Nat) (Y:Option Addr) (d:Nat),(m:Int)=min (s+k) l.length∧e = .returned (.tuple #[.agg #[.slice Y m d,.int .i64 (m:Int)],.int .i64 0])∧TpSl w' Y m d (l.take m)∧Below w.heap.size w w':=by
 have hm:=h.len
 obtain ⟨m,hmm⟩:=Int.eq_ofNat_of_zero_le (show 0≤min (s+k) (l.length:Int) by omega)
 have hml:m≤n:=by omega
 have HO:=hide (fun w' (q:Below w.heap.size w w')=>topen_any l h.u8 A n c s w' (h.sl.below q) h0 h1 h2)
 have HU:=hide h.u8
 clear h
 have kb:¬ (k<0):=by omega
 have w1_:IntKind.i64.wrap ((n:Int) - s)=n - s:=IntWalk.i64_in _ (by omega)
 have w2_:IntKind.i64.wrap (s+min k ((n:Int) - s))=m:=by rw [IntWalk.i64_in _ (by omega)];omega
 have w3_:IntKind.i64.wrap (s+(if (n:Int) - s<k then (n:Int) - s else k))=m:=by rw [IntWalk.i64_in _ (by split <;> omega)];split <;> omega
 have w4_:IntKind.i64.wrap (s+(if k<(n:Int) - s then k else (n:Int) - s))=m:=by rw [IntWalk.i64_in _ (by split <;> omega)];split <;> omega
 have T0:=(Blk.new w 27 #[.slice A n c,.int .i64 s]).alloc (.cells #[.slice none 0 0,.int .i64 0] 27)
 have Z0:Blk ((w.alloc (.cells #[.slice A n c,.int .i64 s] 27)).alloc (.cells #[.slice none 0 0,.int .i64 0] 27)) (w.heap.size+1) 27 #[.slice none 0 0,.int .i64 0]:=Blk.new' _ _ _ (by simp)
 have q0:Below w.heap.size w ((w.alloc (.cells #[.slice A n c,.int .i64 s] 27)).alloc (.cells #[.slice none 0 0,.int .i64 0] 27)):=below_by
 go_enter Tryz.func17,Tryz.ntmps17
 (try clear cT0 fT0);have cT0:=T0.cell;have fT0:=T0.frozen
 go_wp2_with fail
 refine (HO.out _ q0).mono ?_
 rintro e w1 ⟨Y,n1,d,rfl,o1,b1⟩
 have S1:=o1.sl'
 obtain rfl:n=n1:=by rw [←hm,←S1.len,byteRows_length]
 have hnc:=S1.nc
 clear cT0 fT0 T0
 replace Z0:=Z0.below' b1
 have q1:=bstep q0 b1
 clear b1 q0 HO
 have X1:=Blk.new w1 27 #[.slice Y n d,.int .i64 s]
 have q2:Below w.heap.size w (w1.alloc (.cells #[.slice Y n d,.int .i64 s] 27)):=below_by
 have bz:Below w1.heap.size w1 (w1.alloc (.cells #[.slice Y n d,.int .i64 s] 27)):=below_by
 have Z1:=Z0.below' bz
 have O2:=o1.below bz
 have s1:=fun w=>run_take3 Tryz.underlying25 u8_size Y n d m m (Nat.le_refl _) (by omega) w
 clear Z0 S1 bz q1 o1
 go_upto_region 6 with fail
 obtain ⟨w2,hw2⟩:∃ w2,w2=w1.alloc (.cells #[.slice Y n d,.int .i64 s] 27):=⟨_,rfl⟩
 rw [←hw2] at X1 q2 Z1 O2 ⊢
 clear hw2
 (try clear cX1 fX1);have cX1:=X1.cell;have fX1:=X1.frozen;(try clear cZ1 fZ1);have cZ1:=Z1.cell;have fZ1:=Z1.frozen
 have hzl:=Z1.lt
 have hxl:=X1.lt
 go_wp2_with (refine wpList_store_blk rfl 27 _ _ rfl (cells:=#[.slice Y m m,.int .i64 (m:Int)]) rfl rfl Z1 rfl tape_size (all_one rfl) ?_;intro w6 Z6 gr6 sz6)
 have S6:=(own_grew O2 Z1 gr6).sl'.take m (by omega) m (by omega) (by omega)
 rw [byteRows_take] at S6
 have Tp6:=hide (own_tp (own_grew O2 Z1 gr6))
 have q6:=below_grow q2 gr6 q2.size (by omega)
 clear gr6 sz6
 (try clear cZ6 fZ6);have cZ6:=Z6.cell;have fZ6:=Z6.frozen
 go_wp2_with fail
 refine bodyPost_ret (v:=.tuple #[.agg #[.slice Y m m,.int .i64 (m:Int)],.int .i64 0]) ?_ rfl ⟨m,Y,m,by omega,rfl,⟨S6,HU.out.take m,Tp6.out⟩,q6⟩
 simp [results,Tryz.results17,go_sem, *]
set_option maxRecDepth 100000 in
theorem Crash_neg (l:List Value) (A:Option Addr) (n c:Nat) (s k:Int) (w:World) (h:TpSl w A n c l) (h0:0≤s) (h1:s≤l.length) (h2:l.length≤400000) (k0:k<0) :
  Calls Tryz.prog 17 #[.agg #[.slice A n c,.int .i64 s],.int .i64 k] w fun e w'=>e = .returned (.tuple #[.agg #[.slice none 0 0,.int .i64 0],.int .i64 2])∧Below w.heap.size w w':=by
 have hm:=h.len
 have HO:=hide (fun w' (q:Below w.heap.size w w')=>topen_any l h.u8 A n c s w' (h.sl.below q) h0 h1 h2)
 clear h
 have T0:=(Blk.new w 27 #[.slice A n c,.int .i64 s]).alloc (.cells #[.slice none 0 0,.int .i64 0] 27)
 have Z0:Blk ((w.alloc (.cells #[.slice A n c,.int .i64 s] 27)).alloc (.cells #[.slice none 0 0,.int .i64 0] 27)) (w.heap.size+1) 27 #[.slice none 0 0,.int .i64 0]:=Blk.new' _ _ _ (by simp)
 have q0:Below w.heap.size w ((w.alloc (.cells #[.slice A n c,.int .i64 s] 27)).alloc (.cells #[.slice none 0 0,.int .i64 0] 27)):=below_by
 go_enter Tryz.func17,Tryz.ntmps17
 (try clear cT0 fT0);have cT0:=T0.cell;have fT0:=T0.frozen
 go_wp2_with fail
 refine (HO.out _ q0).mono ?_
 rintro e w1 ⟨Y,n1,d,rfl,o1,b1⟩
 clear cT0 fT0 T0 o1
 replace Z0:=Z0.below' b1
 have q1:=bstep q0 b1
 clear b1 q0 HO
 have Z1:=Z0.alloc (.cells #[.slice Y n1 d,.int .i64 s] 27)
 have q2:Below w.heap.size w (w1.alloc (.cells #[.slice Y n1 d,.int .i64 s] 27)):=below_by
 clear Z0 q1
 have hzl:=Z1.lt
 go_wp2_with (refine wpList_store_blk rfl 27 _ _ rfl (cells:=#[.slice none 0 0,.int .i64 0]) rfl rfl Z1 rfl tape_size (all_one rfl) ?_;intro w6 Z6 gr6 sz6)
 have q6:=below_grow q2 gr6 q2.size (by omega)
 clear gr6 sz6
 (try clear cZ6 fZ6);have cZ6:=Z6.cell;have fZ6:=Z6.frozen
 go_wp2_with fail
 refine bodyPost_ret (v:=.tuple #[.agg #[.slice none 0 0,.int .i64 0],.int .i64 2]) ?_ rfl ⟨rfl,q6⟩
 simp [results,Tryz.results17,go_sem, *]
set_option maxRecDepth 100000 in
theorem Sync_any (l:List Value) (A:Option Addr) (n c:Nat) (s:Int) (w:World) (h:TpSl w A n c l) (h0:0≤s) (h1:s≤l.length) (h2:l.length≤400000) :
  Calls Tryz.prog 15 #[.agg #[.slice A n c,.int .i64 s]] w fun e w'=>∃ (Y:Option Addr) (d:Nat),e = .returned (.tuple #[.agg #[.slice Y n d,.int .i64 (n:Int)],.int .i64 0])∧TpSl w' Y n d l∧Below w.heap.size w w':=by
 have hm:=h.len
 have HO:=hide (fun w' (q:Below w.heap.size w w')=>topen_any l h.u8 A n c s w' (h.sl.below q) h0 h1 h2)
 have HU:=hide h.u8
 clear h
 have T0:=(Blk.new w 27 #[.slice A n c,.int .i64 s]).alloc (.cells #[.slice none 0 0,.int .i64 0] 27)
 have Z0:Blk ((w.alloc (.cells #[.slice A n c,.int .i64 s] 27)).alloc (.cells #[.slice none 0 0,.int .i64 0] 27)) (w.heap.size+1) 27 #[.slice none 0 0,.int .i64 0]:=Blk.new' _ _ _ (by simp)
 have q0:Below w.heap.size w ((w.alloc (.cells #[.slice A n c,.int .i64 s] 27)).alloc (.cells #[.slice none 0 0,.int .i64 0] 27)):=below_by
 go_enter Tryz.func15,Tryz.ntmps15
 (try clear cT0 fT0);have cT0:=T0.cell;have fT0:=T0.frozen
 go_wp2_with fail
 refine (HO.out _ q0).mono ?_
 rintro e w1 ⟨Y,n1,d,rfl,o1,b1⟩
 have S1:=o1.sl'
 obtain rfl:n=n1:=by rw [←hm,←S1.len,byteRows_length]
 have hnc:=S1.nc
 clear cT0 fT0 T0
 replace Z0:=Z0.below' b1
 have q1:=bstep q0 b1
 have q0s:w.heap.size+1<w1.heap.size:=by have:=b1.size;simp at this;omega
 clear b1 q0 HO
 have X1:=Blk.new w1 27 #[.slice Y n d,.int .i64 s]
 have q2:Below w.heap.size w (w1.alloc (.cells #[.slice Y n d,.int .i64 s] 27)):=below_by
 have bz:Below w1.heap.size w1 (w1.alloc (.cells #[.slice Y n d,.int .i64 s] 27)):=below_by
 have Z1:=Z0.below' bz
 have O2:=o1.below bz
 clear Z0 S1 bz q1 o1
 go_upto_region 4 with fail
 obtain ⟨w2,hw2⟩:∃ w2,w2=w1.alloc (.cells #[.slice Y n d,.int .i64 s] 27):=⟨_,rfl⟩
 rw [←hw2] at X1 q2 Z1 O2 ⊢
 clear hw2
 (try clear cX1 fX1);have cX1:=X1.cell;have fX1:=X1.frozen;(try clear cZ1 fZ1);have cZ1:=Z1.cell;have fZ1:=Z1.frozen
 have hzl:=Z1.lt
 have hxl:=X1.lt
 have gr:=grown_setRow_cell w2 w1.heap.size 1 (.int .i64 (n:Int))
 have X2:=X1.set' (i:=1) (u:=.int .i64 (n:Int)) (cs':=#[.slice Y n d,.int .i64 (n:Int)]) rfl
 have hz1:=q0s
 have Z2:=grown_blk Z1 gr (by omega)
 have O3:=own_grew O2 X1 gr
 have q3:=below_grow q2 gr q2.size (by omega)
 go_upto_region 5 with fail
 obtain ⟨w3,hw3⟩:∃ w3,w3=w2.setCell ⟨w1.heap.size,1,none⟩ (.int .i64 (n:Int)):=⟨_,rfl⟩
 rw [←hw3] at X2 Z2 O3 q3 ⊢
 clear hw3 gr X1 Z1 O2 q2 cX1 fX1 cZ1 fZ1
 have hxl:=X2.lt
 have hzl:=Z2.lt
 (try clear cX2 fX2);have cX2:=X2.cell;have fX2:=X2.frozen
 go_wp2_with (refine wpList_store_blk rfl 27 _ _ rfl (cells:=#[.slice Y n d,.int .i64 (n:Int)]) rfl rfl Z2 rfl tape_size (all_one rfl) ?_;intro w6 Z6 gr6 sz6)
 have S6:=(own_grew O3 Z2 gr6).sl'
 have Tp6:=hide (own_tp (own_grew O3 Z2 gr6))
 have q6:=below_grow q3 gr6 q3.size (by omega)
 clear gr6 sz6
 (try clear cZ6 fZ6);have cZ6:=Z6.cell;have fZ6:=Z6.frozen
 go_wp2_with fail
 refine bodyPost_ret (v:=.tuple #[.agg #[.slice Y n d,.int .i64 (n:Int)],.int .i64 0]) ?_ rfl ⟨Y,d,rfl,⟨S6,HU.out,Tp6.out⟩,q6⟩
 simp [results,Tryz.results15,go_sem, *]
theorem bits_or_i64_nat (a b:Nat) (ha:a<4611686018427387904) (hb:b<4611686018427387904):bits .or .i64 (a:Int) (b:Int)=((a ||| b:Nat):Int):=by
 have hx:a ||| b<2 ^ 62:=Nat.or_lt_two_pow (by omega) (by omega)
 have h1:(BitVec.ofInt 64 (a:Int)).toNat=a:=by
  rw [BitVec.ofInt_natCast,BitVec.toNat_ofNat];exact Nat.mod_eq_of_lt (by omega)
 have h2:(BitVec.ofInt 64 (b:Int)).toNat=b:=by
  rw [BitVec.ofInt_natCast,BitVec.toNat_ofNat];exact Nat.mod_eq_of_lt (by omega)
 show IntKind.i64.wrap ((BitVec.ofInt 64 (a:Int) ||| BitVec.ofInt 64 (b:Int)).toNat:Int)=_
 rw [BitVec.toNat_or,h1,h2]
 exact IntWalk.i64_in _ (by omega)
theorem or3_a (a b:Int) (a0:0≤a) (a1:a<256) (b0:0≤b) (b1:b<256):bits .or .i64 (a*65536) (b*256)=a*65536+b*256:=by
 obtain ⟨x,rfl⟩:=Int.eq_ofNat_of_zero_le a0
 obtain ⟨y,rfl⟩:=Int.eq_ofNat_of_zero_le b0
 have h1:=bits_or_i64_nat (x*65536) (y*256) (by omega) (by omega)
 have h2:=Nat.shiftLeft_add_eq_or_of_lt (i:=16) (b:=y*256) (by omega) x
 rw [Nat.shiftLeft_eq] at h2
 rw [←h2] at h1
 simpa using h1
theorem or3_b (u c:Int) (u0:0≤u) (u1:u<65536) (c0:0≤c) (c1:c<256):bits .or .i64 (u*256) c=u*256+c:=by
 obtain ⟨x,rfl⟩:=Int.eq_ofNat_of_zero_le u0
 obtain ⟨y,rfl⟩:=Int.eq_ofNat_of_zero_le c0
 have h1:=bits_or_i64_nat (x*256) y (by omega) (by omega)
 have h2:=Nat.shiftLeft_add_eq_or_of_lt (i:=8) (b:=y) (by omega) x
 rw [Nat.shiftLeft_eq] at h2
 rw [←h2] at h1
 simpa using h1
theorem tvalue_any (l:List Value) (A:Option Addr) (n c:Nat) (w:World) (h:Sl w 1 A n c (byteRows l)) (hu:U8s l) (h3:3≤n) :
  Calls Tryz.prog 49 #[.slice A n c] w fun e w'=>e = .returned (.int .i64 (val3 l))∧Below w.heap.size w w':=by
 have hm:l.length=n:=by rw [←h.len,byteRows_length]
 match l,hu,hm,h with
 | [],_,hm,_=>simp at hm;omega
 | [_],_,hm,_=>simp at hm;omega
 | [_,_],_,hm,_=>simp at hm;omega
 | v0 :: v1 :: v2 :: l,hu,hm,h=>
  obtain ⟨x,rfl,x0,x1⟩:=hu v0 (by simp)
  obtain ⟨y,rfl,y0,y1⟩:=hu v1 (by simp)
  obtain ⟨z,rfl,z0,z1⟩:=hu v2 (by simp)
  obtain ⟨b,off,rfl,hb,hc⟩:=h.seg (by simp [byteRows])
  have k0:w.cell? ⟨b,off,none⟩=some (.int .u8 x):=by simpa using hc 0 [.int .u8 x] (by simp [byteRows]) 0 (.int .u8 x) rfl
  have k1:w.cell? ⟨b,off+1,none⟩=some (.int .u8 y):=by simpa using hc 1 [.int .u8 y] (by simp [byteRows]) 0 (.int .u8 y) rfl
  have k2:w.cell? ⟨b,off+2,none⟩=some (.int .u8 z):=by simpa using hc 2 [.int .u8 z] (by simp [byteRows]) 0 (.int .u8 z) rfl
  have hv:val3 (.int .u8 x :: .int .u8 y :: .int .u8 z :: l)=x*65536+y*256+z:=rfl
  rw [hv]
  have w1:IntKind.i64.wrap (x*65536)=x*65536:=IntWalk.i64_in _ (by omega)
  have w2:IntKind.i64.wrap (y*256)=y*256:=IntWalk.i64_in _ (by omega)
  have o1:=or3_a x y x0 x1 y0 y1
  have o2:bits .or .i64 (x*65536+y*256) z=x*65536+y*256+z:=by
   have:=or3_b (x*256+y) z (by omega) (by omega) z0 z1
   rw [show (x*256+y)*256=x*65536+y*256 by omega] at this
   exact this
  have n0:(0:Int)<(n:Int):=by omega
  have n1:(1:Int)<(n:Int):=by omega
  have n2:(2:Int)<(n:Int):=by omega
  clear hc hm h hv hu
  go_enter Tryz.func49,Tryz.ntmps49
  go_wp2_with fail
  go_quiet (fail)
  go_wp2_with fail
  go_ret
  exact ⟨rfl,below_by⟩
theorem recov_fuel:∀ (k k':Nat) (l:List Value),l.length<k→l.length<k'→recov k l=recov k' l
 | 0,_,_,h,_=>by omega
 | _+1,0,_,_,h=>by omega
 | k+1,k'+1,l,h1,h2=>by
  unfold recov
  split
  ·rfl
  ·rename_i hh
   have ih:=recov_fuel k k' (l.drop (3+(val3 l).toNat)) (by rw [List.length_drop];omega) (by rw [List.length_drop];omega)
   rw [ih]
def recA (l:List Value):List RK×Nat:=recov (l.length+1) l
theorem recA_of {k:Nat} {l:List Value} (h:l.length<k):recov k l=recA l:=recov_fuel _ _ _ h (by omega)
theorem recA_short {l:List Value} (h:l.length<3∨l.length<3+(val3 l).toNat):recA l=([],0):=by
 unfold recA recov;rw [if_pos h]
theorem recA_none {l:List Value} (h:¬ (l.length<3∨l.length<3+(val3 l).toNat)) (hd:decRec ((l.drop 3).take (val3 l).toNat)=none):recA l=([],0):=by
 unfold recA recov;rw [if_neg h,hd]
theorem recA_some {l:List Value} {r:RK} (h:¬ (l.length<3∨l.length<3+(val3 l).toNat)) (hd:decRec ((l.drop 3).take (val3 l).toNat)=some r) :
  recA l=(r :: (recA (l.drop (3+(val3 l).toNat))).1,3+(val3 l).toNat+(recA (l.drop (3+(val3 l).toNat))).2):=by
 rw [←recA_of (k:=l.length) (l:=l.drop (3+(val3 l).toNat)) (by rw [List.length_drop];omega)]
 conv=>lhs;unfold recA recov
 rw [if_neg h,hd]
theorem recA_take {l:List RK} {k:Nat} (h:∀ r∈l,r.Ok) (hk:k≤(tapeB l).length):recA ((tapeB l).take k)=(l.take (wholes l k),(tapeB (l.take (wholes l k))).length):=by
 have:=recov_take l k (((tapeB l).take k).length+l.length+1) h (by omega) hk
 rw [←this]
 exact (recA_of (by omega)).symm
theorem recA_all {l:List RK} (h:∀ r∈l,r.Ok):recA (tapeB l)=(l,(tapeB l).length):=by
 have:=recA_take h (Nat.le_refl _)
 rwa [List.take_of_length_le (Nat.le_refl _),wholes_all l (Nat.le_refl _),List.take_of_length_le (Nat.le_refl _)] at this
def Scan (l:List Value) (done:List RK) (at_:Nat):Prop:=recA l=(done ++ (recA (l.drop at_)).1,at_+(recA (l.drop at_)).2)
theorem scan_start (l:List Value):Scan l [] 0:=by unfold Scan;simp
theorem scan_step {l:List Value} {done:List RK} {a:Nat} {r:RK} (h:Scan l done a) (h1:¬ ((l.drop a).length<3∨(l.drop a).length<3+(val3 (l.drop a)).toNat))
  (hd:decRec (((l.drop a).drop 3).take (val3 (l.drop a)).toNat)=some r):Scan l (done ++ [r]) (a+(3+(val3 (l.drop a)).toNat)):=by
 unfold Scan at h ⊢
 rw [h,recA_some h1 hd,List.drop_drop]
 simp only [List.append_assoc,List.singleton_append,Nat.add_assoc]
theorem scan_short {l:List Value} {done:List RK} {a:Nat} (h:Scan l done a) (h1:(l.drop a).length<3∨(l.drop a).length<3+(val3 (l.drop a)).toNat):recA l=(done,a):=by
 unfold Scan at h;rw [h,recA_short h1];simp
theorem scan_none {l:List Value} {done:List RK} {a:Nat} (h:Scan l done a) (h1:¬ ((l.drop a).length<3∨(l.drop a).length<3+(val3 (l.drop a)).toNat))
  (hd:decRec (((l.drop a).drop 3).take (val3 (l.drop a)).toNat)=none):recA l=(done,a):=by
 unfold Scan at h;rw [h,recA_none h1 hd];simp
theorem val3_bd {l:List Value} (hu:U8s l):0≤val3 l∧val3 l<16777216:=by
 match l,hu with
 | [],_=>simp [val3]
 | [_],_=>simp [val3]
 | [_,_],_=>simp [val3]
 | a :: b :: c :: l,hu=>
  obtain ⟨x,rfl,x0,x1⟩:=hu a (by simp)
  obtain ⟨y,rfl,y0,y1⟩:=hu b (by simp)
  obtain ⟨z,rfl,z0,z1⟩:=hu c (by simp)
  simp only [val3,intv]
  omega
theorem decodeOf_long {l:List Value} (hu:U8s l) (h:20000<l.length):(decodeOf l).2≠0:=by
 intro h0
 obtain ⟨h1,h2⟩:=decode_fix hu h0
 have:=itemBytes_in h1
 rw [h2] at this
 omega
theorem whole_iff (l:List RK) {k:Nat}:wholes l k=l.length ↔ (tapeB l).length≤k:=by
 refine ⟨fun h=>?_,wholes_all l⟩
 have:=wholes_in l k
 rwa [h,List.take_of_length_le (Nat.le_refl _)] at this
theorem tapeB_len {l:List RK} (h:∀ r∈l,r.Ok):(tapeB l).length≤12810*l.length:=by
 induction l with
 | nil=>simp [tapeB]
 | cons r l ih=>
  have:=ih fun x hx=>h x (by simp [hx])
  have:=frame_in (h r (by simp))
  rw [tapeB_cons,List.length_append,List.length_cons]
  omega
theorem tapeB_take_le (l:List RK) (j:Nat):(tapeB (l.take j)).length≤(tapeB l).length:=by
 conv=>rhs;rw [←List.take_append_drop j l,tapeB_app,List.length_append]
 omega
theorem tapeB_pos {l:List RK} (h:∀ r∈l,r.Ok) (hl:0<l.length):0<(tapeB l).length:=by
 cases l with
 | nil=>simp at hl
 | cons r l=>
  have:=frame_in (h r (by simp))
  rw [tapeB_cons,List.length_append];omega
end Go.Proofs.YtgmojjclobkpjaaGreatDoor

