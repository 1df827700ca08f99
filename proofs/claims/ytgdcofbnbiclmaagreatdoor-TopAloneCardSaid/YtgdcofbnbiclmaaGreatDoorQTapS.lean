import Derived.Test.YtgdcofbnbiclmaaGreatDoorQDecM
import Derived.Lib.AppendZeros
namespace Go.Proofs.YtgdcofbnbiclmaaGreatDoor
set_option linter.all false
set_option maxHeartbeats 32000000
open Go.RowKit
structure TpSl (w:World) (A:Option Addr) (n c:Nat) (l:List Value):Prop where
 sl:Sl w 1 A n c (byteRows l)
 u8:U8s l
 tp:Tp w A 5
theorem TpSl.bl {w w':World} {A:Option Addr} {n c:Nat} {l:List Value} (h:TpSl w A n c l) (hb:Below w.heap.size w w'):TpSl w' A n c l:=⟨h.sl.below hb,h.u8,h.tp.bl hb⟩
theorem TpSl.grown {w w':World} {A:Option Addr} {n c:Nat} {l:List Value} (h:TpSl w A n c l) {g:Nat} {t:TypeId} {cs:Array Value} (R:Blk w g t cs) (hg:w.grownBy w' (some g)) (hne:5≠t:=by decide):TpSl w' A n c l:=⟨h.sl.far hg (h.tp.ne R hne),h.u8,grown_tp h.tp R hg hne⟩
theorem TpSl.len {w:World} {A:Option Addr} {n c:Nat} {l:List Value} (h:TpSl w A n c l):l.length=n:=by rw [←h.sl.len,byteRows_length]
set_option maxRecDepth 100000 in
theorem Crash_any (l:List Value) (A:Option Addr) (n c:Nat) (s k:Int) (w:World) (h:TpSl w A n c l) (h0:0≤s) (h1:s≤l.length) (h2:l.length≤400000) (k0:0≤k) (k1:k≤1000000) :
  Calls Tryz.prog 135 #[.agg #[.slice A n c,.int .i64 s],.int .i64 k] w fun e w'=>∃ (m:Nat) (Y:Option Addr) (d:Nat),(m:Int)=min (s+k) l.length∧e = .returned (.tuple #[.agg #[.slice Y m d,.int .i64 (m:Int)],.int .i64 0])∧TpSl w' Y m d (l.take m)∧Below w.heap.size w w':=by
 have hm:=h.len
 obtain ⟨m,hmm⟩:=Int.eq_ofNat_of_zero_le (show 0≤min (s+k) (l.length:Int) by omega)
 have hml:m≤n:=by omega
 have HO:=hide (fun w' (q:Below w.heap.size w w')=>topen_any l h.u8 A n c s w' (h.sl.below q) h0 h1 h2)
 have HU:=hide h.u8
 clear h
 have kb:¬ (k<0):=by omega
 have w1_:IntKind.i64.wrap ((n:Int) - s)=n - s:=IntWalk.i64_in _ (by omega)
 have w2_:IntKind.i64.wrap (s+min k ((n:Int) - s))=m:=by rw [IntWalk.i64_in _ (by omega)];omega
 have w3_:IntKind.i64.wrap (s+(if (n:Int) - s<k then (n:Int) - s else k))=m:=by rw [IntWalk.i64_in _ (by split <;> omega)];split <;> omega
 have w4_:IntKind.i64.wrap (s+(if k<(n:Int) - s then k else (n:Int) - s))=m:=by rw [IntWalk.i64_in _ (by split <;> omega)];split <;> omega
 have T0:=(Blk.new w 115 #[.slice A n c,.int .i64 s]).alloc (.cells #[.slice none 0 0,.int .i64 0] 115)
 have Z0:Blk ((w.alloc (.cells #[.slice A n c,.int .i64 s] 115)).alloc (.cells #[.slice none 0 0,.int .i64 0] 115)) (w.heap.size+1) 115 #[.slice none 0 0,.int .i64 0]:=Blk.new' _ _ _ (by simp)
 have q0:Below w.heap.size w ((w.alloc (.cells #[.slice A n c,.int .i64 s] 115)).alloc (.cells #[.slice none 0 0,.int .i64 0] 115)):=below_by
 go_enter Tryz.func135,Tryz.ntmps135
 (try clear cT0 fT0);have cT0:=T0.cell;have fT0:=T0.frozen
 go_wp2_with fail
 refine (HO.out _ q0).mono ?_
 rintro e w1 ⟨Y,n1,d,rfl,o1,b1⟩
 have S1:=o1.sl'
 obtain rfl:n=n1:=by rw [←hm,←S1.len,byteRows_length]
 have hnc:=S1.nc
 clear cT0 fT0 T0
 replace Z0:=Z0.below' b1
 have q1:=bstep q0 b1
 clear b1 q0 HO
 have X1:=Blk.new w1 115 #[.slice Y n d,.int .i64 s]
 have q2:Below w.heap.size w (w1.alloc (.cells #[.slice Y n d,.int .i64 s] 115)):=below_by
 have bz:Below w1.heap.size w1 (w1.alloc (.cells #[.slice Y n d,.int .i64 s] 115)):=below_by
 have Z1:=Z0.below' bz
 have O2:=o1.below bz
 have s1:=fun w=>run_take3 Tryz.underlying113 u8_size Y n d m m (Nat.le_refl _) (by omega) w
 clear Z0 S1 bz q1 o1
 go_upto_region 6 with fail
 obtain ⟨w2,hw2⟩:∃ w2,w2=w1.alloc (.cells #[.slice Y n d,.int .i64 s] 115):=⟨_,rfl⟩
 rw [←hw2] at X1 q2 Z1 O2 ⊢
 clear hw2
 (try clear cX1 fX1);have cX1:=X1.cell;have fX1:=X1.frozen;(try clear cZ1 fZ1);have cZ1:=Z1.cell;have fZ1:=Z1.frozen
 have hzl:=Z1.lt
 have hxl:=X1.lt
 go_wp2_with (refine wpList_store_blk rfl 115 _ _ rfl (cells:=#[.slice Y m m,.int .i64 (m:Int)]) rfl rfl Z1 rfl tape_size (all_one rfl) ?_;intro w6 Z6 gr6 sz6)
 have S6:=(own_grew O2 Z1 gr6).sl'.take m (by omega) m (by omega) (by omega)
 rw [byteRows_take] at S6
 have Tp6:=hide (own_tp (own_grew O2 Z1 gr6))
 have q6:=below_grow q2 gr6 q2.size (by omega)
 clear gr6 sz6
 (try clear cZ6 fZ6);have cZ6:=Z6.cell;have fZ6:=Z6.frozen
 go_wp2_with fail
 refine bodyPost_ret (v:=.tuple #[.agg #[.slice Y m m,.int .i64 (m:Int)],.int .i64 0]) ?_ rfl ⟨m,Y,m,by omega,rfl,⟨S6,HU.out.take m,Tp6.out⟩,q6⟩
 simp [results,Tryz.results135,go_sem, *]
set_option maxRecDepth 100000 in
theorem Sync_any (l:List Value) (A:Option Addr) (n c:Nat) (s:Int) (w:World) (h:TpSl w A n c l) (h0:0≤s) (h1:s≤l.length) (h2:l.length≤400000) :
  Calls Tryz.prog 134 #[.agg #[.slice A n c,.int .i64 s]] w fun e w'=>∃ (Y:Option Addr) (d:Nat),e = .returned (.tuple #[.agg #[.slice Y n d,.int .i64 (n:Int)],.int .i64 0])∧TpSl w' Y n d l∧Below w.heap.size w w':=by
 have hm:=h.len
 have HO:=hide (fun w' (q:Below w.heap.size w w')=>topen_any l h.u8 A n c s w' (h.sl.below q) h0 h1 h2)
 have HU:=hide h.u8
 clear h
 have T0:=(Blk.new w 115 #[.slice A n c,.int .i64 s]).alloc (.cells #[.slice none 0 0,.int .i64 0] 115)
 have Z0:Blk ((w.alloc (.cells #[.slice A n c,.int .i64 s] 115)).alloc (.cells #[.slice none 0 0,.int .i64 0] 115)) (w.heap.size+1) 115 #[.slice none 0 0,.int .i64 0]:=Blk.new' _ _ _ (by simp)
 have q0:Below w.heap.size w ((w.alloc (.cells #[.slice A n c,.int .i64 s] 115)).alloc (.cells #[.slice none 0 0,.int .i64 0] 115)):=below_by
 go_enter Tryz.func134,Tryz.ntmps134
 (try clear cT0 fT0);have cT0:=T0.cell;have fT0:=T0.frozen
 go_wp2_with fail
 refine (HO.out _ q0).mono ?_
 rintro e w1 ⟨Y,n1,d,rfl,o1,b1⟩
 have S1:=o1.sl'
 obtain rfl:n=n1:=by rw [←hm,←S1.len,byteRows_length]
 have hnc:=S1.nc
 clear cT0 fT0 T0
 replace Z0:=Z0.below' b1
 have q1:=bstep q0 b1
 have q0s:w.heap.size+1<w1.heap.size:=by have:=b1.size;simp at this;omega
 clear b1 q0 HO
 have X1:=Blk.new w1 115 #[.slice Y n d,.int .i64 s]
 have q2:Below w.heap.size w (w1.alloc (.cells #[.slice Y n d,.int .i64 s] 115)):=below_by
 have bz:Below w1.heap.size w1 (w1.alloc (.cells #[.slice Y n d,.int .i64 s] 115)):=below_by
 have Z1:=Z0.below' bz
 have O2:=o1.below bz
 clear Z0 S1 bz q1 o1
 go_upto_region 4 with fail
 obtain ⟨w2,hw2⟩:∃ w2,w2=w1.alloc (.cells #[.slice Y n d,.int .i64 s] 115):=⟨_,rfl⟩
 rw [←hw2] at X1 q2 Z1 O2 ⊢
 clear hw2
 (try clear cX1 fX1);have cX1:=X1.cell;have fX1:=X1.frozen;(try clear cZ1 fZ1);have cZ1:=Z1.cell;have fZ1:=Z1.frozen
 have hzl:=Z1.lt
 have hxl:=X1.lt
 have gr:=grown_setRow_cell w2 w1.heap.size 1 (.int .i64 (n:Int))
 have X2:=X1.set' (i:=1) (u:=.int .i64 (n:Int)) (cs':=#[.slice Y n d,.int .i64 (n:Int)]) rfl
 have hz1:=q0s
 have Z2:=grown_blk Z1 gr (by omega)
 have O3:=own_grew O2 X1 gr
 have q3:=below_grow q2 gr q2.size (by omega)
 go_upto_region 5 with fail
 obtain ⟨w3,hw3⟩:∃ w3,w3=w2.setCell ⟨w1.heap.size,1,none⟩ (.int .i64 (n:Int)):=⟨_,rfl⟩
 rw [←hw3] at X2 Z2 O3 q3 ⊢
 clear hw3 gr X1 Z1 O2 q2 cX1 fX1 cZ1 fZ1
 have hxl:=X2.lt
 have hzl:=Z2.lt
 (try clear cX2 fX2);have cX2:=X2.cell;have fX2:=X2.frozen
 go_wp2_with (refine wpList_store_blk rfl 115 _ _ rfl (cells:=#[.slice Y n d,.int .i64 (n:Int)]) rfl rfl Z2 rfl tape_size (all_one rfl) ?_;intro w6 Z6 gr6 sz6)
 have S6:=(own_grew O3 Z2 gr6).sl'
 have Tp6:=hide (own_tp (own_grew O3 Z2 gr6))
 have q6:=below_grow q3 gr6 q3.size (by omega)
 clear gr6 sz6
 (try clear cZ6 fZ6);have cZ6:=Z6.cell;have fZ6:=Z6.frozen
 go_wp2_with fail
 refine bodyPost_ret (v:=.tuple #[.agg #[.slice Y n d,.int .i64 (n:Int)],.int .i64 0]) ?_ rfl ⟨Y,d,rfl,⟨S6,HU.out,Tp6.out⟩,q6⟩
 simp [results,Tryz.results134,go_sem, *]
end Go.Proofs.YtgdcofbnbiclmaaGreatDoor

