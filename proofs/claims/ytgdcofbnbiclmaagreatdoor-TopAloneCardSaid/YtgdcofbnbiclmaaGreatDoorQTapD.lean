import Derived.Test.YtgdcofbnbiclmaaGreatDoorQTapS
import Derived.Test.YtgdcofbnbiclmaaGreatDoorQTapP
namespace Go.Proofs.YtgdcofbnbiclmaaGreatDoor
set_option linter.all false
set_option maxHeartbeats 32000000
open Go.RowKit
theorem bits_or_i64_nat (a b:Nat) (ha:a<4611686018427387904) (hb:b<4611686018427387904):bits .or .i64 (a:Int) (b:Int)=((a ||| b:Nat):Int):=by
 have hx:a ||| b<2 ^ 62:=Nat.or_lt_two_pow (by omega) (by omega)
 have h1:(BitVec.ofInt 64 (a:Int)).toNat=a:=by
  rw [BitVec.ofInt_natCast,BitVec.toNat_ofNat];exact Nat.mod_eq_of_lt (by omega)
 have h2:(BitVec.ofInt 64 (b:Int)).toNat=b:=by
  rw [BitVec.ofInt_natCast,BitVec.toNat_ofNat];exact Nat.mod_eq_of_lt (by omega)
 show IntKind.i64.wrap ((BitVec.ofInt 64 (a:Int) ||| BitVec.ofInt 64 (b:Int)).toNat:Int)=_
 rw [BitVec.toNat_or,h1,h2]
 exact IntWalk.i64_in _ (by omega)
theorem or3_a (a b:Int) (a0:0≤a) (a1:a<256) (b0:0≤b) (b1:b<256):bits .or .i64 (a*65536) (b*256)=a*65536+b*256:=by
 obtain ⟨x,rfl⟩:=Int.eq_ofNat_of_zero_le a0
 obtain ⟨y,rfl⟩:=Int.eq_ofNat_of_zero_le b0
 have h1:=bits_or_i64_nat (x*65536) (y*256) (by omega) (by omega)
 have h2:=Nat.shiftLeft_add_eq_or_of_lt (i:=16) (b:=y*256) (by omega) x
 rw [Nat.shiftLeft_eq] at h2
 rw [←h2] at h1
 simpa using h1
theorem or3_b (u c:Int) (u0:0≤u) (u1:u<65536) (c0:0≤c) (c1:c<256):bits .or .i64 (u*256) c=u*256+c:=by
 obtain ⟨x,rfl⟩:=Int.eq_ofNat_of_zero_le u0
 obtain ⟨y,rfl⟩:=Int.eq_ofNat_of_zero_le c0
 have h1:=bits_or_i64_nat (x*256) y (by omega) (by omega)
 have h2:=Nat.shiftLeft_add_eq_or_of_lt (i:=8) (b:=y) (by omega) x
 rw [Nat.shiftLeft_eq] at h2
 rw [←h2] at h1
 simpa using h1
theorem tvalue_any (l:List Value) (A:Option Addr) (n c:Nat) (w:World) (h:Sl w 1 A n c (byteRows l)) (hu:U8s l) (h3:3≤n) :
  Calls Tryz.prog 169 #[.slice A n c] w fun e w'=>e = .returned (.int .i64 (val3 l))∧Below w.heap.size w w':=by
 have hm:l.length=n:=by rw [←h.len,byteRows_length]
 match l,hu,hm,h with
 | [],_,hm,_=>simp at hm;omega
 | [_],_,hm,_=>simp at hm;omega
 | [_,_],_,hm,_=>simp at hm;omega
 | v0 :: v1 :: v2 :: l,hu,hm,h=>
  obtain ⟨x,rfl,x0,x1⟩:=hu v0 (by simp)
  obtain ⟨y,rfl,y0,y1⟩:=hu v1 (by simp)
  obtain ⟨z,rfl,z0,z1⟩:=hu v2 (by simp)
  obtain ⟨b,off,rfl,hb,hc⟩:=h.seg (by simp [byteRows])
  have k0:w.cell? ⟨b,off,none⟩=some (.int .u8 x):=by simpa using hc 0 [.int .u8 x] (by simp [byteRows]) 0 (.int .u8 x) rfl
  have k1:w.cell? ⟨b,off+1,none⟩=some (.int .u8 y):=by simpa using hc 1 [.int .u8 y] (by simp [byteRows]) 0 (.int .u8 y) rfl
  have k2:w.cell? ⟨b,off+2,none⟩=some (.int .u8 z):=by simpa using hc 2 [.int .u8 z] (by simp [byteRows]) 0 (.int .u8 z) rfl
  have hv:val3 (.int .u8 x :: .int .u8 y :: .int .u8 z :: l)=x*65536+y*256+z:=rfl
  rw [hv]
  have w1:IntKind.i64.wrap (x*65536)=x*65536:=IntWalk.i64_in _ (by omega)
  have w2:IntKind.i64.wrap (y*256)=y*256:=IntWalk.i64_in _ (by omega)
  have o1:=or3_a x y x0 x1 y0 y1
  have o2:bits .or .i64 (x*65536+y*256) z=x*65536+y*256+z:=by
   have:=or3_b (x*256+y) z (by omega) (by omega) z0 z1
   rw [show (x*256+y)*256=x*65536+y*256 by omega] at this
   exact this
  have n0:(0:Int)<(n:Int):=by omega
  have n1:(1:Int)<(n:Int):=by omega
  have n2:(2:Int)<(n:Int):=by omega
  clear hc hm h hv hu
  go_enter Tryz.func169,Tryz.ntmps169
  go_wp2_with fail
  go_quiet (fail)
  go_wp2_with fail
  go_ret
  exact ⟨rfl,below_by⟩
theorem wpAnyX_sq {P:Program} {ops:Array Oper} {Q:Exit→Act→World→Prop} {md:Region.Mode} {S:World→Prop} {l:List Nat} (i:Nat) {oi:Oper} {fuel:Nat} {listed L':Array Bool} {a a':Act} {w:World}
  (h:wpAnyX P md ops Q S (fun j=>l.contains j) fuel L' a' w) (hi:ops[i]?=some oi:=by rfl) (hy:YieldsIf P ops S oi undef a:=by exact Or.inr ⟨by rfl,rfl⟩)
  (hL:listed.setIfInBounds i true=L':=by (try simp only [List.setIfInBounds_toArray,List.set_cons_zero,List.set_cons_succ]);exact rfl)
  (ha:a.put oi.dst undef=a':=by (try simp only [Act.put,List.setIfInBounds_toArray,List.set_cons_zero,List.set_cons_succ,List.getElem_toArray,List.getElem_cons_zero,List.getElem_cons_succ]);exact rfl)
  (hs:Region.noSelect ops=true:=by kernel_rfl) (hf:Region.free md ops listed i=true:=by kernel_rfl) (hr:(Region.ready md ops listed).contains i=true:=by kernel_rfl) (hT:sparedOk md ops l i=true:=by kernel_rfl)
  (hQ:∀ c a w,Q (.panic c) (a.put oi.dst undef) w→Q (.panic c) a w:=by exact fun _ _ _ h=>h) (hS:S w:=by assumption):wpAnyX P md ops Q S (fun j=>l.contains j) (fuel+1) listed a w:=by
 subst hL;subst ha;exact wpAnyX_take hi hs hf hr hT hQ hy hS h
theorem yieldsIf_load_blk {P:Program} {ops:Array Oper} {S:World→Prop} {op:Oper} {a:Act} (hw:Region.wanted op (yielded ops a.tmps)=true) (ty:TypeId) (x:Operand) (ho:op.op = .load ty x)
  {b:Nat} {cs:Array Value} (hx:a.eval x = .pointer (some ⟨b,0,none⟩)) {d:TypeDesc} (hS:∀ w,S w→Blk w b ty cs) (hu:P.underlying ty=some d) (hd:(match d with | .struct _ | .array _ _=>true|_=>false)=true) (hi:(P.info? ty).map (·.size)=some cs.size):YieldsIf P ops S op (.agg cs) a:=
 .inl ⟨hw,fun w hw'=>by
  have hrun:=run_loadVar_row (P:=P) w b ty ty cs (0,0) d (hS w hw') hu hd hi
  unfold execOp
  simp only [ho,hx,Instr.loadAt,Instr.sureAddr,Sem.run_bind,Sem.run_pure,Result.andThen_ok,hrun]⟩
set_option maxRecDepth 100000 in
theorem CheckMark_far (t f:Int) (ht:numberOk t=true) (h1:3≤f) (w:World) :
  Calls Tryz.prog 171 #[.agg #[.int .i64 1,.int .i64 t,.int .i64 f,.int .i64 0,.int .i64 0,.int .i64 0,.bool false,.int .i64 0,.int .i64 0,.int .i64 0,.string { data:=#[] },.string { data:=#[] },.string { data:=#[] },.int .i64 0,.int .i64 0,.int .i64 0,.int .i64 0,.slice none 0 0,.int .i64 0,.slice none 0 0]] w fun e w'=>e = .returned (.int .i64 2)∧Below w.heap.size w w':=by
 have T0:=(Blk.new w 205 #[.int .i64 1,.int .i64 t,.int .i64 f,.int .i64 0,.int .i64 0,.int .i64 0,.bool false,.int .i64 0,.int .i64 0,.int .i64 0,.string { data:=#[] },.string { data:=#[] },.string { data:=#[] },.int .i64 0,.int .i64 0,.int .i64 0,.int .i64 0,.slice none 0 0,.int .i64 0,.slice none 0 0]).alloc (.cells #[.int .i64 0,.int .i64 0,.bool false,.int .i64 0,.int .i64 0,.int .i64 0,.string { data:=#[] },.string { data:=#[] },.string { data:=#[] },.int .i64 0] 67)
 have I0:=Blk.new (w.alloc (.cells #[.int .i64 1,.int .i64 t,.int .i64 f,.int .i64 0,.int .i64 0,.int .i64 0,.bool false,.int .i64 0,.int .i64 0,.int .i64 0,.string { data:=#[] },.string { data:=#[] },.string { data:=#[] },.int .i64 0,.int .i64 0,.int .i64 0,.int .i64 0,.slice none 0 0,.int .i64 0,.slice none 0 0] 205)) 67 #[.int .i64 0,.int .i64 0,.bool false,.int .i64 0,.int .i64 0,.int .i64 0,.string { data:=#[] },.string { data:=#[] },.string { data:=#[] },.int .i64 0]
 have q0:Below w.heap.size w ((w.alloc (.cells #[.int .i64 1,.int .i64 t,.int .i64 f,.int .i64 0,.int .i64 0,.int .i64 0,.bool false,.int .i64 0,.int .i64 0,.int .i64 0,.string { data:=#[] },.string { data:=#[] },.string { data:=#[] },.int .i64 0,.int .i64 0,.int .i64 0,.int .i64 0,.slice none 0 0,.int .i64 0,.slice none 0 0] 205)).alloc (.cells #[.int .i64 0,.int .i64 0,.bool false,.int .i64 0,.int .i64 0,.int .i64 0,.string { data:=#[] },.string { data:=#[] },.string { data:=#[] },.int .i64 0] 67)):=below_by
 go_enter Tryz.func171,Tryz.ntmps171
 (try clear cT0 fT0);have cT0:=T0.cell;have fT0:=T0.frozen;(try clear cI0 fI0);have cI0:=I0.cell;have fI0:=I0.frozen
 go_wp2_with fail
 refine (noSnap_none _).mono ?_
 rintro e w1 ⟨rfl,hb1⟩
 replace T0:=T0.bl hb1;replace I0:=I0.bl hb1
 replace q0:=bstep q0 hb1
 clear hb1 cT0 fT0 cI0 fI0
 (try clear cT0 fT0);have cT0:=T0.cell;have fT0:=T0.frozen;(try clear cI0 fI0);have cI0:=I0.cell;have fI0:=I0.frozen
 go_wp2_with fail
 refine (tnumber_any t _).mono ?_
 rintro e w' ⟨rfl,rfl⟩
 rw [ht]
 go_wp2_with fail
 go_ret
 exact ⟨rfl,q0⟩
set_option maxRecDepth 100000 in
theorem CheckLine_bad (i:Int) (x:Itm) (ht:numberOk i=false) (w:World) :
  Calls Tryz.prog 171 #[.agg #[.int .i64 2,.int .i64 0,.int .i64 0,.int .i64 i,.int .i64 x.term,.int .i64 x.time,.bool x.nop,.int .i64 x.client,.int .i64 x.seq,.int .i64 x.cmd.kind,.string x.cmd.key,.string x.cmd.field,.string x.cmd.text,.int .i64 x.cmd.n,.int .i64 0,.int .i64 0,.int .i64 0,.slice none 0 0,.int .i64 0,.slice none 0 0]] w fun e w'=>e = .returned (.int .i64 2)∧Below w.heap.size w w':=by
 have T0:=(Blk.new w 205 #[.int .i64 2,.int .i64 0,.int .i64 0,.int .i64 i,.int .i64 x.term,.int .i64 x.time,.bool x.nop,.int .i64 x.client,.int .i64 x.seq,.int .i64 x.cmd.kind,.string x.cmd.key,.string x.cmd.field,.string x.cmd.text,.int .i64 x.cmd.n,.int .i64 0,.int .i64 0,.int .i64 0,.slice none 0 0,.int .i64 0,.slice none 0 0]).alloc (.cells #[.int .i64 0,.int .i64 0,.bool false,.int .i64 0,.int .i64 0,.int .i64 0,.string { data:=#[] },.string { data:=#[] },.string { data:=#[] },.int .i64 0] 67)
 have I0:=Blk.new (w.alloc (.cells #[.int .i64 2,.int .i64 0,.int .i64 0,.int .i64 i,.int .i64 x.term,.int .i64 x.time,.bool x.nop,.int .i64 x.client,.int .i64 x.seq,.int .i64 x.cmd.kind,.string x.cmd.key,.string x.cmd.field,.string x.cmd.text,.int .i64 x.cmd.n,.int .i64 0,.int .i64 0,.int .i64 0,.slice none 0 0,.int .i64 0,.slice none 0 0] 205)) 67 #[.int .i64 0,.int .i64 0,.bool false,.int .i64 0,.int .i64 0,.int .i64 0,.string { data:=#[] },.string { data:=#[] },.string { data:=#[] },.int .i64 0]
 have q0:Below w.heap.size w ((w.alloc (.cells #[.int .i64 2,.int .i64 0,.int .i64 0,.int .i64 i,.int .i64 x.term,.int .i64 x.time,.bool x.nop,.int .i64 x.client,.int .i64 x.seq,.int .i64 x.cmd.kind,.string x.cmd.key,.string x.cmd.field,.string x.cmd.text,.int .i64 x.cmd.n,.int .i64 0,.int .i64 0,.int .i64 0,.slice none 0 0,.int .i64 0,.slice none 0 0] 205)).alloc (.cells #[.int .i64 0,.int .i64 0,.bool false,.int .i64 0,.int .i64 0,.int .i64 0,.string { data:=#[] },.string { data:=#[] },.string { data:=#[] },.int .i64 0] 67)):=below_by
 go_enter Tryz.func171,Tryz.ntmps171
 (try clear cT0 fT0);have cT0:=T0.cell;have fT0:=T0.frozen;(try clear cI0 fI0);have cI0:=I0.cell;have fI0:=I0.frozen
 go_wp2_with fail
 refine (noSnap_none _).mono ?_
 rintro e w1 ⟨rfl,hb1⟩
 replace T0:=T0.bl hb1;replace I0:=I0.bl hb1
 replace q0:=bstep q0 hb1
 clear hb1 cT0 fT0 cI0 fI0
 (try clear cT0 fT0);have cT0:=T0.cell;have fT0:=T0.frozen;(try clear cI0 fI0);have cI0:=I0.cell;have fI0:=I0.frozen
 go_wp2_with fail
 refine (tnumber_any i _).mono ?_
 rintro e w' ⟨rfl,rfl⟩
 rw [ht]
 go_wp2_with fail
 go_ret
 exact ⟨rfl,q0⟩
theorem rec_item {w2:World} {g:Nat} {x0 x1 x2 x3 x4 x5 x6 x7 x8 x9 x10 x11 x12 x13 x14 x15 x16 x17 x18 x19:Value} (u0 u1 u2 u3 u4 u5 u6 u7 u8 u9:Value) (R:Blk w2 g 205 #[x0,x1,x2,x3,x4,x5,x6,x7,x8,x9,x10,x11,x12,x13,x14,x15,x16,x17,x18,x19]) :
  Blk ((((((((((w2.setCell ⟨g,4,none⟩ u0).setCell ⟨g,5,none⟩ u1).setCell ⟨g,6,none⟩ u2).setCell ⟨g,7,none⟩ u3).setCell ⟨g,8,none⟩ u4).setCell ⟨g,9,none⟩ u5).setCell ⟨g,10,none⟩ u6).setCell ⟨g,11,none⟩ u7).setCell ⟨g,12,none⟩ u8).setCell ⟨g,13,none⟩ u9) g 205 #[x0,x1,x2,x3,u0,u1,u2,u3,u4,u5,u6,u7,u8,u9,x14,x15,x16,x17,x18,x19]∧w2.grownBy ((((((((((w2.setCell ⟨g,4,none⟩ u0).setCell ⟨g,5,none⟩ u1).setCell ⟨g,6,none⟩ u2).setCell ⟨g,7,none⟩ u3).setCell ⟨g,8,none⟩ u4).setCell ⟨g,9,none⟩ u5).setCell ⟨g,10,none⟩ u6).setCell ⟨g,11,none⟩ u7).setCell ⟨g,12,none⟩ u8).setCell ⟨g,13,none⟩ u9) (some g)∧((((((((((w2.setCell ⟨g,4,none⟩ u0).setCell ⟨g,5,none⟩ u1).setCell ⟨g,6,none⟩ u2).setCell ⟨g,7,none⟩ u3).setCell ⟨g,8,none⟩ u4).setCell ⟨g,9,none⟩ u5).setCell ⟨g,10,none⟩ u6).setCell ⟨g,11,none⟩ u7).setCell ⟨g,12,none⟩ u8).setCell ⟨g,13,none⟩ u9).heap.size=w2.heap.size:=by
 have R0:=one_step (w:=w2) (cs':=#[x0,x1,x2,x3,u0,x5,x6,x7,x8,x9,x10,x11,x12,x13,x14,x15,x16,x17,x18,x19]) 4 u0 ⟨R,grown_refl _ _,rfl⟩ rfl
 have R1:=one_step (w:=w2) (cs':=#[x0,x1,x2,x3,u0,u1,x6,x7,x8,x9,x10,x11,x12,x13,x14,x15,x16,x17,x18,x19]) 5 u1 R0 rfl
 have R2:=one_step (w:=w2) (cs':=#[x0,x1,x2,x3,u0,u1,u2,x7,x8,x9,x10,x11,x12,x13,x14,x15,x16,x17,x18,x19]) 6 u2 R1 rfl
 have R3:=one_step (w:=w2) (cs':=#[x0,x1,x2,x3,u0,u1,u2,u3,x8,x9,x10,x11,x12,x13,x14,x15,x16,x17,x18,x19]) 7 u3 R2 rfl
 have R4:=one_step (w:=w2) (cs':=#[x0,x1,x2,x3,u0,u1,u2,u3,u4,x9,x10,x11,x12,x13,x14,x15,x16,x17,x18,x19]) 8 u4 R3 rfl
 have R5:=one_step (w:=w2) (cs':=#[x0,x1,x2,x3,u0,u1,u2,u3,u4,u5,x10,x11,x12,x13,x14,x15,x16,x17,x18,x19]) 9 u5 R4 rfl
 have R6:=one_step (w:=w2) (cs':=#[x0,x1,x2,x3,u0,u1,u2,u3,u4,u5,u6,x11,x12,x13,x14,x15,x16,x17,x18,x19]) 10 u6 R5 rfl
 have R7:=one_step (w:=w2) (cs':=#[x0,x1,x2,x3,u0,u1,u2,u3,u4,u5,u6,u7,x12,x13,x14,x15,x16,x17,x18,x19]) 11 u7 R6 rfl
 have R8:=one_step (w:=w2) (cs':=#[x0,x1,x2,x3,u0,u1,u2,u3,u4,u5,u6,u7,u8,x13,x14,x15,x16,x17,x18,x19]) 12 u8 R7 rfl
 have R9:=one_step (w:=w2) (cs':=#[x0,x1,x2,x3,u0,u1,u2,u3,u4,u5,u6,u7,u8,u9,x14,x15,x16,x17,x18,x19]) 13 u9 R8 rfl
 exact R9
theorem rec_mach {w2:World} {g:Nat} {x0 x1 x2 x3 x4 x5 x6 x7 x8 x9 x10 x11 x12 x13 x14 x15 x16 x17 x18 x19:Value} (u0 u1 u2 u3:Value) (R:Blk w2 g 205 #[x0,x1,x2,x3,x4,x5,x6,x7,x8,x9,x10,x11,x12,x13,x14,x15,x16,x17,x18,x19]) :
  Blk ((((w2.setCell ⟨g,16,none⟩ u0).setCell ⟨g,17,none⟩ u1).setCell ⟨g,18,none⟩ u2).setCell ⟨g,19,none⟩ u3) g 205 #[x0,x1,x2,x3,x4,x5,x6,x7,x8,x9,x10,x11,x12,x13,x14,x15,u0,u1,u2,u3]∧w2.grownBy ((((w2.setCell ⟨g,16,none⟩ u0).setCell ⟨g,17,none⟩ u1).setCell ⟨g,18,none⟩ u2).setCell ⟨g,19,none⟩ u3) (some g)∧((((w2.setCell ⟨g,16,none⟩ u0).setCell ⟨g,17,none⟩ u1).setCell ⟨g,18,none⟩ u2).setCell ⟨g,19,none⟩ u3).heap.size=w2.heap.size:=by
 have R0:=one_step (w:=w2) (cs':=#[x0,x1,x2,x3,x4,x5,x6,x7,x8,x9,x10,x11,x12,x13,x14,x15,u0,x17,x18,x19]) 16 u0 ⟨R,grown_refl _ _,rfl⟩ rfl
 have R1:=one_step (w:=w2) (cs':=#[x0,x1,x2,x3,x4,x5,x6,x7,x8,x9,x10,x11,x12,x13,x14,x15,u0,u1,x18,x19]) 17 u1 R0 rfl
 have R2:=one_step (w:=w2) (cs':=#[x0,x1,x2,x3,x4,x5,x6,x7,x8,x9,x10,x11,x12,x13,x14,x15,u0,u1,u2,x19]) 18 u2 R1 rfl
 have R3:=one_step (w:=w2) (cs':=#[x0,x1,x2,x3,x4,x5,x6,x7,x8,x9,x10,x11,x12,x13,x14,x15,u0,u1,u2,u3]) 19 u3 R2 rfl
 exact R3
def DecRPost (o:Option RK) (w:World) (e:Ending) (w':World):Prop:=
 ∃ (row:List Value) (ok:Bool),e = .returned (.tuple #[.agg row.toArray,.bool ok])∧row.length=20∧(∀ u∈row,u.oneCell'=true)∧(∀ r,o=some r→ok=true∧RecAt w' r row)∧(o=none→ok=false)∧Below w.heap.size w w'
set_option maxRecDepth 100000 in
theorem decode_any (l:List Value) (A:Option Addr) (n c:Nat) (w:World) (hS:Sl w 1 A n c (byteRows l)) (hu:U8s l) :
  Calls Tryz.prog 170 #[.slice A n c] w (DecRPost (decRec l) w):=by
 have hm:l.length=n:=by rw [←hS.len,byteRows_length]
 have hnc:=hS.nc
 have hcm:=hS.cm
 unfold maxLen at hcm
 have Z0:=(Blk.new w 205 #[.int .i64 0,.int .i64 0,.int .i64 0,.int .i64 0,.int .i64 0,.int .i64 0,.bool false,.int .i64 0,.int .i64 0,.int .i64 0,.string { data:=#[] },.string { data:=#[] },.string { data:=#[] },.int .i64 0,.int .i64 0,.int .i64 0,.int .i64 0,.slice none 0 0,.int .i64 0,.slice none 0 0]).alloc (.cells #[.int .i64 0,.int .i64 0,.int .i64 0,.int .i64 0,.int .i64 0,.int .i64 0,.bool false,.int .i64 0,.int .i64 0,.int .i64 0,.string { data:=#[] },.string { data:=#[] },.string { data:=#[] },.int .i64 0,.int .i64 0,.int .i64 0,.int .i64 0,.slice none 0 0,.int .i64 0,.slice none 0 0] 205)
 have R0:Blk ((w.alloc (.cells #[.int .i64 0,.int .i64 0,.int .i64 0,.int .i64 0,.int .i64 0,.int .i64 0,.bool false,.int .i64 0,.int .i64 0,.int .i64 0,.string { data:=#[] },.string { data:=#[] },.string { data:=#[] },.int .i64 0,.int .i64 0,.int .i64 0,.int .i64 0,.slice none 0 0,.int .i64 0,.slice none 0 0] 205)).alloc (.cells #[.int .i64 0,.int .i64 0,.int .i64 0,.int .i64 0,.int .i64 0,.int .i64 0,.bool false,.int .i64 0,.int .i64 0,.int .i64 0,.string { data:=#[] },.string { data:=#[] },.string { data:=#[] },.int .i64 0,.int .i64 0,.int .i64 0,.int .i64 0,.slice none 0 0,.int .i64 0,.slice none 0 0] 205)) (w.heap.size+1) 205 #[.int .i64 0,.int .i64 0,.int .i64 0,.int .i64 0,.int .i64 0,.int .i64 0,.bool false,.int .i64 0,.int .i64 0,.int .i64 0,.string { data:=#[] },.string { data:=#[] },.string { data:=#[] },.int .i64 0,.int .i64 0,.int .i64 0,.int .i64 0,.slice none 0 0,.int .i64 0,.slice none 0 0]:=Blk.new' _ _ _ (by simp)
 have q0:Below w.heap.size w ((w.alloc (.cells #[.int .i64 0,.int .i64 0,.int .i64 0,.int .i64 0,.int .i64 0,.int .i64 0,.bool false,.int .i64 0,.int .i64 0,.int .i64 0,.string { data:=#[] },.string { data:=#[] },.string { data:=#[] },.int .i64 0,.int .i64 0,.int .i64 0,.int .i64 0,.slice none 0 0,.int .i64 0,.slice none 0 0] 205)).alloc (.cells #[.int .i64 0,.int .i64 0,.int .i64 0,.int .i64 0,.int .i64 0,.int .i64 0,.bool false,.int .i64 0,.int .i64 0,.int .i64 0,.string { data:=#[] },.string { data:=#[] },.string { data:=#[] },.int .i64 0,.int .i64 0,.int .i64 0,.int .i64 0,.slice none 0 0,.int .i64 0,.slice none 0 0] 205)):=below_by
 have HD:=hide (show decRec l=if l.length=5∧headV l=1 then (if (numberOk (val3 (l.drop 1)) && decide (headV (l.drop 4) - 1<3))=true then some (.mark (val3 (l.drop 1)) (headV (l.drop 4) - 1)) else none)
  else if 4<l.length∧headV l=2 then (if (decodeOf (l.drop 4)).2=0∧numberOk (val3 (l.drop 1))=true then some (.line (val3 (l.drop 1)) (decodeOf (l.drop 4)).1) else none)
  else if 7<l.length∧headV l=3 then (if (decM (l.drop 7)).2=0∧numberOk (val3 (l.drop 1))=true∧numberOk (val3 (l.drop 4))=true then some (.load (val3 (l.drop 1)) (val3 (l.drop 4)) (decM (l.drop 7)).1) else none)
  else none from rfl)
 generalize decRec l=O at *
 rw [hm] at HD
 have s1:=fun w (h:1≤n)=>run_cut Tryz.underlying113 u8_size A n c 1 h w
 have s4:=fun w (h:4≤n)=>run_cut Tryz.underlying113 u8_size A n c 4 h w
 have s7:=fun w (h:7≤n)=>run_cut Tryz.underlying113 u8_size A n c 7 h w
 have HV1:=hide (fun w' (q:Below w.heap.size w w') (h:4≤n)=>tvalue_any (l.drop 1) _ _ _ w' (by have:=(hS.below q).drop 1 (by omega) c (Nat.le_refl _) hnc;rwa [byteRows_drop] at this) (hu.drop 1) (by omega))
 have HV4:=hide (fun w' (q:Below w.heap.size w w') (h:7≤n)=>tvalue_any (l.drop 4) _ _ _ w' (by have:=(hS.below q).drop 4 (by omega) c (Nat.le_refl _) hnc;rwa [byteRows_drop] at this) (hu.drop 4) (by omega))
 by_cases h4:n≤4
 ·have HN:=hide (show O=none by rw [HD.out,if_neg (by omega),if_neg (by omega),if_neg (by omega)])
  have e5:((n:Int) == 5)=false:=by simp;omega
  have g4:¬ ((4:Int)<(n:Int)):=by omega
  have g7:¬ ((7:Int)<(n:Int)):=by omega
  clear HD s1 s4 s7 HV1 HV4 hS hu
  go_enter Tryz.func170,Tryz.ntmps170
  have qz:=q0
  go_wp2_with (first|(refine wpList_load_blk rfl 205 _ rfl rfl R0 Tryz.underlying205 rfl rec_size ?_)|(refine wpList_store_blk rfl 205 _ _ rfl (cells:=#[.int .i64 0,.int .i64 0,.int .i64 0,.int .i64 0,.int .i64 0,.int .i64 0,.bool false,.int .i64 0,.int .i64 0,.int .i64 0,.string { data:=#[] },.string { data:=#[] },.string { data:=#[] },.int .i64 0,.int .i64 0,.int .i64 0,.int .i64 0,.slice none 0 0,.int .i64 0,.slice none 0 0]) rfl rfl Z0 rfl rec_size (all_one rfl) ?_;intro w9 Z9 gr9 sz9))
  have HP:=hide (show DecRPost O w (.returned (.tuple #[.agg #[.int .i64 0,.int .i64 0,.int .i64 0,.int .i64 0,.int .i64 0,.int .i64 0,.bool false,.int .i64 0,.int .i64 0,.int .i64 0,.string { data:=#[] },.string { data:=#[] },.string { data:=#[] },.int .i64 0,.int .i64 0,.int .i64 0,.int .i64 0,.slice none 0 0,.int .i64 0,.slice none 0 0],.bool false])) w9 from ⟨_,false,rfl,rfl,all_one rfl,fun r h=>(by rw [HN.out] at h;cases h),fun _=>rfl,below_grow qz gr9 (by simpa using qz.size) (Nat.le_refl _)⟩)
  clear gr9 sz9
  go_wp2_with fail
  have hlv:(loadVar 205 ⟨w.heap.size,0,none⟩).run Tryz.prog w9 = .ok (.agg #[.int .i64 0,.int .i64 0,.int .i64 0,.int .i64 0,.int .i64 0,.int .i64 0,.bool false,.int .i64 0,.int .i64 0,.int .i64 0,.string { data:=#[] },.string { data:=#[] },.string { data:=#[] },.int .i64 0,.int .i64 0,.int .i64 0,.int .i64 0,.slice none 0 0,.int .i64 0,.slice none 0 0]) w9:=run_loadVar_row w9 _ _ _ _ (0,0) _ Z9 Tryz.underlying205 rfl rec_size
  refine bodyPost_ret (v:=.tuple #[.agg #[.int .i64 0,.int .i64 0,.int .i64 0,.int .i64 0,.int .i64 0,.int .i64 0,.bool false,.int .i64 0,.int .i64 0,.int .i64 0,.string { data:=#[] },.string { data:=#[] },.string { data:=#[] },.int .i64 0,.int .i64 0,.int .i64 0,.int .i64 0,.slice none 0 0,.int .i64 0,.slice none 0 0],.bool false]) ?_ rfl HP.out
  simp only [results,Tryz.results170]
  simp [asAddr,Act.put,hlv]
 obtain ⟨x,hx0,hx1,l',rfl⟩:∃ x:Int,0≤x∧x<256∧∃ l',l = .int .u8 x :: l':=by
  cases l with
  | nil=>simp at hm;omega
  | cons v l'=>
   obtain ⟨x,rfl,x0,x1⟩:=hu v (by simp)
   exact ⟨x,x0,x1,l',rfl⟩
 have hhd:headV (.int .u8 x :: l')=x:=rfl
 rw [hhd] at HD
 obtain ⟨b,off,rfl,hbb,hc⟩:=hS.seg (by simp [byteRows])
 have k0:w.cell? ⟨b,off,none⟩=some (.int .u8 x):=by simpa using hc 0 [.int .u8 x] (by simp [byteRows]) 0 (.int .u8 x) rfl
 have n0:(0:Int)<(n:Int):=by omega
 have g4:(4:Int)<(n:Int):=by omega
 have k1:((w.alloc (.cells #[.int .i64 0,.int .i64 0,.int .i64 0,.int .i64 0,.int .i64 0,.int .i64 0,.bool false,.int .i64 0,.int .i64 0,.int .i64 0,.string { data:=#[] },.string { data:=#[] },.string { data:=#[] },.int .i64 0,.int .i64 0,.int .i64 0,.int .i64 0,.slice none 0 0,.int .i64 0,.slice none 0 0] 205)).alloc (.cells #[.int .i64 0,.int .i64 0,.int .i64 0,.int .i64 0,.int .i64 0,.int .i64 0,.bool false,.int .i64 0,.int .i64 0,.int .i64 0,.string { data:=#[] },.string { data:=#[] },.string { data:=#[] },.int .i64 0,.int .i64 0,.int .i64 0,.int .i64 0,.slice none 0 0,.int .i64 0,.slice none 0 0] 205)).cell? ⟨b,off,none⟩=some (.int .u8 x):=by rw [←k0];exact q0.cell (p:=⟨b,off,none⟩) hbb
 clear hhd
 have hl4:4<(.int .u8 x :: l').length:=by omega
 obtain ⟨tv,htv⟩:∃ tv,tv=val3 ((.int .u8 x :: l').drop 1):=⟨_,rfl⟩
 have htb:0≤tv∧tv<16777216:=by rw [htv];exact val3_bd (hu.drop 1)
 rw [←htv] at HD HV1
 clear htv
 by_cases hA:n=5∧x=1
 ·obtain ⟨hn5,rfl⟩:=hA
  obtain ⟨y,hy,y0,y1⟩:=hu ((.int .u8 1 :: l')[4]) (List.getElem_mem hl4)
  have hd4:headV ((.int .u8 1 :: l').drop 4)=y:=by rw [List.drop_eq_getElem_cons hl4,hy];rfl
  have k4:w.cell? ⟨b,off+4,none⟩=some (.int .u8 y):=by simpa using hc 4 [.int .u8 y] (by rw [byteRows,List.getElem?_map,List.getElem?_eq_getElem hl4,hy];rfl) 0 (.int .u8 y) rfl
  have HN0:=hide (show O=if (numberOk tv && decide (y - 1<3))=true then some (.mark tv (y - 1)) else none by rw [HD.out,if_pos ⟨hn5,rfl⟩,hd4])
  have e5:((n:Int) == 5)=true:=by simp;omega
  have wy0:IntKind.i64.wrap y=y:=IntWalk.i64_in _ (by omega)
  have wy1:IntKind.i64.wrap (y - 1)=y - 1:=IntWalk.i64_in _ (by omega)
  have s1':∀ w,(Instr.slice 113 (.slice (some ⟨b,off,none⟩) n c) (some (.int .i64 1)) none none).run Tryz.prog w = .ok (.slice (cutA (some ⟨b,off,none⟩) c 1 1) (n - 1) (c - 1)) w:=fun w=>s1 w (by omega)
  have HK4:=hide (fun w' (q:Below w.heap.size w w')=>(q.cell (p:=⟨b,off+4,none⟩) hbb).trans k4)
  clear HD s1 s4 s7 HV4 hu hd4 hy k4 hc hS hn5
  go_enter Tryz.func170,Tryz.ntmps170
  go_upto_region 5 with fail
  obtain ⟨w0,hw0⟩:∃ w0,w0=(w.alloc (.cells #[.int .i64 0,.int .i64 0,.int .i64 0,.int .i64 0,.int .i64 0,.int .i64 0,.bool false,.int .i64 0,.int .i64 0,.int .i64 0,.string { data:=#[] },.string { data:=#[] },.string { data:=#[] },.int .i64 0,.int .i64 0,.int .i64 0,.int .i64 0,.slice none 0 0,.int .i64 0,.slice none 0 0] 205)).alloc (.cells #[.int .i64 0,.int .i64 0,.int .i64 0,.int .i64 0,.int .i64 0,.int .i64 0,.bool false,.int .i64 0,.int .i64 0,.int .i64 0,.string { data:=#[] },.string { data:=#[] },.string { data:=#[] },.int .i64 0,.int .i64 0,.int .i64 0,.int .i64 0,.slice none 0 0,.int .i64 0,.slice none 0 0] 205):=⟨_,rfl⟩
  rw [←hw0] at Z0 R0 q0 ⊢
  clear hw0 k1 k0
  refine wp_region_x (l:=[]) (S:=fun w'=>w'.cell? ⟨b,off+4,none⟩=some (.int .u8 y)) (by kernel_rfl) (HK4.out _ q0.drew) (fun hS=>?_)
  replace R0:=R0.drew;replace Z0:=Z0.drew;replace q0:=q0.drew
  obtain ⟨wd,hwd⟩:∃ wd,wd=w0.drew:=⟨_,rfl⟩
  rw [←hwd] at hS R0 Z0 q0 ⊢
  clear hwd
  refine wpAnyX_tq 0 ?_
  refine wpAnyX_tq 1 ?_
  refine wpAnyX_tq 3 ?_
  refine wpAnyX_tq 4 ?_
  refine wpAnyX_tq 5 ?_
  refine wpAnyX_tq 6 ?_
  refine wpAnyX_tq 7 ?_
  refine wpAnyX_oq 2 fun K hK=>?_
  go_wp2_with fail
  refine (HV1.out _ q0 (by omega)).mono ?_
  rintro e_ w3 ⟨rfl,b3⟩
  go_wp2_with fail
  replace R0:=R0.below' b3
  replace Z0:=Z0.below' b3
  have q3:=bstep q0 b3
  refine hK.out _ _ (Or.inr (HK4.out _ q3)) (fun hS=>?_)
  replace hS:=hS.resolve_left (by decide)
  clear hK K b3 q0
  refine wpAnyX_tq 8 ?_
  refine wpAnyX_oq 9 fun K hK=>?_
  refine wpList_store_blk rfl 205 _ _ rfl (cells:=#[.int .i64 1,.int .i64 tv,.int .i64 (y - 1),.int .i64 0,.int .i64 0,.int .i64 0,.bool false,.int .i64 0,.int .i64 0,.int .i64 0,.string { data:=#[] },.string { data:=#[] },.string { data:=#[] },.int .i64 0,.int .i64 0,.int .i64 0,.int .i64 0,.slice none 0 0,.int .i64 0,.slice none 0 0]) rfl rfl R0 rfl rec_size (all_one rfl) ?_
  intro wk Rb grk szk
  have Zk:=grown_blk Z0 grk (by omega)
  have qk:=below_grow q3 grk q3.size (by omega)
  refine hK.out _ _ (Or.inr (HK4.out _ qk)) (fun _=>?_)
  clear hK K grk szk hS R0 Z0 HK4 HV1
  refine wpAnyX_done (by kernel_rfl) ?_ _
  by_cases hg1:numberOk tv=true
  ·by_cases hg2:y - 1<3
   ·have HN:=hide (show O=some (.mark tv (y - 1)) by rw [HN0.out,if_pos (by simp [hg1,hg2])])
    go_upto_region 12 with fail
    refine wp_region_x (l:=[]) (S:=fun w'=>Blk w' (w.heap.size+1) 205 #[.int .i64 1,.int .i64 tv,.int .i64 (y - 1),.int .i64 0,.int .i64 0,.int .i64 0,.bool false,.int .i64 0,.int .i64 0,.int .i64 0,.string { data:=#[] },.string { data:=#[] },.string { data:=#[] },.int .i64 0,.int .i64 0,.int .i64 0,.int .i64 0,.slice none 0 0,.int .i64 0,.slice none 0 0]) (by kernel_rfl) Rb.drew (fun hS=>?_)
    replace Zk:=Zk.drew
    replace qk:=qk.drew
    clear Rb
    obtain ⟨wd,hwd⟩:∃ wd,wd=wk.drew:=⟨_,rfl⟩
    have bd:Below wk.heap.size wk wd:=by rw [hwd];exact (Below.refl _ wk).drew
    rw [←hwd] at hS Zk qk ⊢
    clear hwd
    refine wpAnyX_tq 0 ?_ (hy:=yieldsIf_load_blk (by rfl) 205 _ rfl rfl (fun w' h=>h) Tryz.underlying205 rfl rec_size)
    refine wpAnyX_tq 1 ?_
    refine wpAnyX_tq 2 ?_
    refine wpAnyX_tq 3 ?_
    refine wpAnyX_tq 4 ?_ (hy:=yieldsIf_load_blk (by rfl) 205 _ rfl rfl (fun w' h=>h) Tryz.underlying205 rfl rec_size)
    refine wpAnyX_onew (i:=5) (by kernel_rfl) rfl (by rfl) (fun K hK=>?_);(try simp only [List.getElem_toArray,List.getElem_cons_zero,List.getElem_cons_succ])
    go_wp2_with fail
    refine (CheckMark_ok tv (y - 1) hg1 (by omega) hg2 _).mono ?_
    rintro e_ w8 ⟨rfl,b8⟩
    go_wp2_with fail
    replace Zk:=Zk.below' b8
    have hR8:=hS.below' b8
    have qz:=bstep qk b8
    refine hK.out _ _ (Or.inr hR8) (fun hS=>?_)
    replace hS:=hS.resolve_left (by decide)
    clear hK K hR8
    refine wpAnyX_tq 6 ?_
    refine wpAnyX_tq 7 ?_
    refine wpAnyX_oq 8 fun K hK=>?_
    refine wpList_store_blk rfl 205 _ _ rfl (cells:=#[.int .i64 1,.int .i64 tv,.int .i64 (y - 1),.int .i64 0,.int .i64 0,.int .i64 0,.bool false,.int .i64 0,.int .i64 0,.int .i64 0,.string { data:=#[] },.string { data:=#[] },.string { data:=#[] },.int .i64 0,.int .i64 0,.int .i64 0,.int .i64 0,.slice none 0 0,.int .i64 0,.slice none 0 0]) rfl rfl Zk rfl rec_size (all_one rfl) ?_
    intro w9 Z9 gr9 sz9
    have ZK8:=Zk
    refine hK.out _ _ (Or.inr (grown_blk hS gr9 (by omega))) (fun hS9=>?_)
    replace hS9:=hS9.resolve_left (by decide)
    clear hK K
    refine wpAnyX_oq 9 fun K hK=>?_
    go_wp2_with fail
    refine hK.out _ _ (Or.inr hS9) (fun _=>?_)
    clear hK K hS9 hS
    refine wpAnyX_done (by kernel_rfl) ?_ _
    have HP:=hide (show DecRPost O w (.returned (.tuple #[.agg #[.int .i64 1,.int .i64 tv,.int .i64 (y - 1),.int .i64 0,.int .i64 0,.int .i64 0,.bool false,.int .i64 0,.int .i64 0,.int .i64 0,.string { data:=#[] },.string { data:=#[] },.string { data:=#[] },.int .i64 0,.int .i64 0,.int .i64 0,.int .i64 0,.slice none 0 0,.int .i64 0,.slice none 0 0],.bool true])) w9 from ⟨_,true,rfl,rfl,all_one rfl,fun r h=>⟨rfl,(by rw [HN.out] at h;injection h with h;subst h;exact rfl)⟩,fun h=>(by rw [HN.out] at h;cases h),below_grow qz gr9 (by simpa using qz.size) (Nat.le_refl _)⟩)
    clear gr9 sz9
    go_wp2_with fail
    have hlv:(loadVar 205 ⟨w.heap.size,0,none⟩).run Tryz.prog w9 = .ok (.agg #[.int .i64 1,.int .i64 tv,.int .i64 (y - 1),.int .i64 0,.int .i64 0,.int .i64 0,.bool false,.int .i64 0,.int .i64 0,.int .i64 0,.string { data:=#[] },.string { data:=#[] },.string { data:=#[] },.int .i64 0,.int .i64 0,.int .i64 0,.int .i64 0,.slice none 0 0,.int .i64 0,.slice none 0 0]) w9:=run_loadVar_row w9 _ _ _ _ (0,0) _ Z9 Tryz.underlying205 rfl rec_size
    refine bodyPost_ret (v:=.tuple #[.agg #[.int .i64 1,.int .i64 tv,.int .i64 (y - 1),.int .i64 0,.int .i64 0,.int .i64 0,.bool false,.int .i64 0,.int .i64 0,.int .i64 0,.string { data:=#[] },.string { data:=#[] },.string { data:=#[] },.int .i64 0,.int .i64 0,.int .i64 0,.int .i64 0,.slice none 0 0,.int .i64 0,.slice none 0 0],.bool true]) ?_ rfl HP.out
    simp only [results,Tryz.results170]
    simp [asAddr,Act.put,hlv]
   ·have HN:=hide (show O=none by rw [HN0.out,if_neg (by simp [hg2])])
    go_upto_region 12 with fail
    refine wp_region_x (l:=[]) (S:=fun w'=>Blk w' (w.heap.size+1) 205 #[.int .i64 1,.int .i64 tv,.int .i64 (y - 1),.int .i64 0,.int .i64 0,.int .i64 0,.bool false,.int .i64 0,.int .i64 0,.int .i64 0,.string { data:=#[] },.string { data:=#[] },.string { data:=#[] },.int .i64 0,.int .i64 0,.int .i64 0,.int .i64 0,.slice none 0 0,.int .i64 0,.slice none 0 0]) (by kernel_rfl) Rb.drew (fun hS=>?_)
    replace Zk:=Zk.drew
    replace qk:=qk.drew
    clear Rb
    obtain ⟨wd,hwd⟩:∃ wd,wd=wk.drew:=⟨_,rfl⟩
    have bd:Below wk.heap.size wk wd:=by rw [hwd];exact (Below.refl _ wk).drew
    rw [←hwd] at hS Zk qk ⊢
    clear hwd
    refine wpAnyX_tq 0 ?_ (hy:=yieldsIf_load_blk (by rfl) 205 _ rfl rfl (fun w' h=>h) Tryz.underlying205 rfl rec_size)
    refine wpAnyX_tq 1 ?_
    refine wpAnyX_tq 2 ?_
    refine wpAnyX_tq 3 ?_
    refine wpAnyX_tq 4 ?_ (hy:=yieldsIf_load_blk (by rfl) 205 _ rfl rfl (fun w' h=>h) Tryz.underlying205 rfl rec_size)
    refine wpAnyX_onew (i:=5) (by kernel_rfl) rfl (by rfl) (fun K hK=>?_);(try simp only [List.getElem_toArray,List.getElem_cons_zero,List.getElem_cons_succ])
    go_wp2_with fail
    refine (CheckMark_far tv (y - 1) hg1 (by omega) _).mono ?_
    rintro e_ w8 ⟨rfl,b8⟩
    go_wp2_with fail
    replace Zk:=Zk.below' b8
    have hR8:=hS.below' b8
    have qz:=bstep qk b8
    refine hK.out _ _ (Or.inr hR8) (fun hS=>?_)
    replace hS:=hS.resolve_left (by decide)
    clear hK K hR8
    refine wpAnyX_tq 6 ?_
    refine wpAnyX_tq 7 ?_
    refine wpAnyX_oq 8 fun K hK=>?_
    refine wpList_store_blk rfl 205 _ _ rfl (cells:=#[.int .i64 1,.int .i64 tv,.int .i64 (y - 1),.int .i64 0,.int .i64 0,.int .i64 0,.bool false,.int .i64 0,.int .i64 0,.int .i64 0,.string { data:=#[] },.string { data:=#[] },.string { data:=#[] },.int .i64 0,.int .i64 0,.int .i64 0,.int .i64 0,.slice none 0 0,.int .i64 0,.slice none 0 0]) rfl rfl Zk rfl rec_size (all_one rfl) ?_
    intro w9 Z9 gr9 sz9
    have ZK8:=Zk
    refine hK.out _ _ (Or.inr (grown_blk hS gr9 (by omega))) (fun hS9=>?_)
    replace hS9:=hS9.resolve_left (by decide)
    clear hK K
    refine wpAnyX_oq 9 fun K hK=>?_
    go_wp2_with fail
    refine hK.out _ _ (Or.inr hS9) (fun _=>?_)
    clear hK K hS9 hS
    refine wpAnyX_done (by kernel_rfl) ?_ _
    have HP:=hide (show DecRPost O w (.returned (.tuple #[.agg #[.int .i64 1,.int .i64 tv,.int .i64 (y - 1),.int .i64 0,.int .i64 0,.int .i64 0,.bool false,.int .i64 0,.int .i64 0,.int .i64 0,.string { data:=#[] },.string { data:=#[] },.string { data:=#[] },.int .i64 0,.int .i64 0,.int .i64 0,.int .i64 0,.slice none 0 0,.int .i64 0,.slice none 0 0],.bool false])) w9 from ⟨_,false,rfl,rfl,all_one rfl,fun r h=>(by rw [HN.out] at h;cases h),fun _=>rfl,below_grow qz gr9 (by simpa using qz.size) (Nat.le_refl _)⟩)
    clear gr9 sz9
    go_wp2_with fail
    have hlv:(loadVar 205 ⟨w.heap.size,0,none⟩).run Tryz.prog w9 = .ok (.agg #[.int .i64 1,.int .i64 tv,.int .i64 (y - 1),.int .i64 0,.int .i64 0,.int .i64 0,.bool false,.int .i64 0,.int .i64 0,.int .i64 0,.string { data:=#[] },.string { data:=#[] },.string { data:=#[] },.int .i64 0,.int .i64 0,.int .i64 0,.int .i64 0,.slice none 0 0,.int .i64 0,.slice none 0 0]) w9:=run_loadVar_row w9 _ _ _ _ (0,0) _ Z9 Tryz.underlying205 rfl rec_size
    refine bodyPost_ret (v:=.tuple #[.agg #[.int .i64 1,.int .i64 tv,.int .i64 (y - 1),.int .i64 0,.int .i64 0,.int .i64 0,.bool false,.int .i64 0,.int .i64 0,.int .i64 0,.string { data:=#[] },.string { data:=#[] },.string { data:=#[] },.int .i64 0,.int .i64 0,.int .i64 0,.int .i64 0,.slice none 0 0,.int .i64 0,.slice none 0 0],.bool false]) ?_ rfl HP.out
    simp only [results,Tryz.results170]
    simp [asAddr,Act.put,hlv]
  ·have HN:=hide (show O=none by rw [HN0.out,if_neg (by simp [hg1])])
   go_upto_region 12 with fail
   refine wp_region_x (l:=[]) (S:=fun w'=>Blk w' (w.heap.size+1) 205 #[.int .i64 1,.int .i64 tv,.int .i64 (y - 1),.int .i64 0,.int .i64 0,.int .i64 0,.bool false,.int .i64 0,.int .i64 0,.int .i64 0,.string { data:=#[] },.string { data:=#[] },.string { data:=#[] },.int .i64 0,.int .i64 0,.int .i64 0,.int .i64 0,.slice none 0 0,.int .i64 0,.slice none 0 0]) (by kernel_rfl) Rb.drew (fun hS=>?_)
   replace Zk:=Zk.drew
   replace qk:=qk.drew
   clear Rb
   obtain ⟨wd,hwd⟩:∃ wd,wd=wk.drew:=⟨_,rfl⟩
   have bd:Below wk.heap.size wk wd:=by rw [hwd];exact (Below.refl _ wk).drew
   rw [←hwd] at hS Zk qk ⊢
   clear hwd
   refine wpAnyX_tq 0 ?_ (hy:=yieldsIf_load_blk (by rfl) 205 _ rfl rfl (fun w' h=>h) Tryz.underlying205 rfl rec_size)
   refine wpAnyX_tq 1 ?_
   refine wpAnyX_tq 2 ?_
   refine wpAnyX_tq 3 ?_
   refine wpAnyX_tq 4 ?_ (hy:=yieldsIf_load_blk (by rfl) 205 _ rfl rfl (fun w' h=>h) Tryz.underlying205 rfl rec_size)
   refine wpAnyX_onew (i:=5) (by kernel_rfl) rfl (by rfl) (fun K hK=>?_);(try simp only [List.getElem_toArray,List.getElem_cons_zero,List.getElem_cons_succ])
   go_wp2_with fail
   refine (CheckMark_bad tv (y - 1) (by simpa using hg1) _).mono ?_
   rintro e_ w8 ⟨rfl,b8⟩
   go_wp2_with fail
   replace Zk:=Zk.below' b8
   have hR8:=hS.below' b8
   have qz:=bstep qk b8
   refine hK.out _ _ (Or.inr hR8) (fun hS=>?_)
   replace hS:=hS.resolve_left (by decide)
   clear hK K hR8
   refine wpAnyX_tq 6 ?_
   refine wpAnyX_tq 7 ?_
   refine wpAnyX_oq 8 fun K hK=>?_
   refine wpList_store_blk rfl 205 _ _ rfl (cells:=#[.int .i64 1,.int .i64 tv,.int .i64 (y - 1),.int .i64 0,.int .i64 0,.int .i64 0,.bool false,.int .i64 0,.int .i64 0,.int .i64 0,.string { data:=#[] },.string { data:=#[] },.string { data:=#[] },.int .i64 0,.int .i64 0,.int .i64 0,.int .i64 0,.slice none 0 0,.int .i64 0,.slice none 0 0]) rfl rfl Zk rfl rec_size (all_one rfl) ?_
   intro w9 Z9 gr9 sz9
   have ZK8:=Zk
   refine hK.out _ _ (Or.inr (grown_blk hS gr9 (by omega))) (fun hS9=>?_)
   replace hS9:=hS9.resolve_left (by decide)
   clear hK K
   refine wpAnyX_oq 9 fun K hK=>?_
   go_wp2_with fail
   refine hK.out _ _ (Or.inr hS9) (fun _=>?_)
   clear hK K hS9 hS
   refine wpAnyX_done (by kernel_rfl) ?_ _
   have HP:=hide (show DecRPost O w (.returned (.tuple #[.agg #[.int .i64 1,.int .i64 tv,.int .i64 (y - 1),.int .i64 0,.int .i64 0,.int .i64 0,.bool false,.int .i64 0,.int .i64 0,.int .i64 0,.string { data:=#[] },.string { data:=#[] },.string { data:=#[] },.int .i64 0,.int .i64 0,.int .i64 0,.int .i64 0,.slice none 0 0,.int .i64 0,.slice none 0 0],.bool false])) w9 from ⟨_,false,rfl,rfl,all_one rfl,fun r h=>(by rw [HN.out] at h;cases h),fun _=>rfl,below_grow qz gr9 (by simpa using qz.size) (Nat.le_refl _)⟩)
   clear gr9 sz9
   go_wp2_with fail
   have hlv:(loadVar 205 ⟨w.heap.size,0,none⟩).run Tryz.prog w9 = .ok (.agg #[.int .i64 1,.int .i64 tv,.int .i64 (y - 1),.int .i64 0,.int .i64 0,.int .i64 0,.bool false,.int .i64 0,.int .i64 0,.int .i64 0,.string { data:=#[] },.string { data:=#[] },.string { data:=#[] },.int .i64 0,.int .i64 0,.int .i64 0,.int .i64 0,.slice none 0 0,.int .i64 0,.slice none 0 0]) w9:=run_loadVar_row w9 _ _ _ _ (0,0) _ Z9 Tryz.underlying205 rfl rec_size
   refine bodyPost_ret (v:=.tuple #[.agg #[.int .i64 1,.int .i64 tv,.int .i64 (y - 1),.int .i64 0,.int .i64 0,.int .i64 0,.bool false,.int .i64 0,.int .i64 0,.int .i64 0,.string { data:=#[] },.string { data:=#[] },.string { data:=#[] },.int .i64 0,.int .i64 0,.int .i64 0,.int .i64 0,.slice none 0 0,.int .i64 0,.slice none 0 0],.bool false]) ?_ rfl HP.out
   simp only [results,Tryz.results170]
   simp [asAddr,Act.put,hlv]
 by_cases hB:x=2
 ·subst hB
  have HS4:=hide (fun w' (q:Below w.heap.size w w')=>show Sl w' 1 _ _ _ (byteRows ((.int .u8 2 :: l').drop 4)) by have:=(hS.below q).drop 4 (by omega) c (Nat.le_refl _) hnc;rwa [byteRows_drop] at this)
  obtain ⟨r,hrd,hr0⟩:∃ r:Itm×Int,(∀ A n c w,Sl w 1 A n c (byteRows ((.int .u8 2 :: l').drop 4))→Calls Tryz.prog 195 #[.slice A n c] w (DecPost r w))∧(r=decodeOf ((.int .u8 2 :: l').drop 4)∨(r.2≠0∧(decodeOf ((.int .u8 2 :: l').drop 4)).2≠0)):=by
   by_cases hl:((.int .u8 2 :: l').drop 4).length≤20000
   ·exact ⟨_,fun A n c w h=>DecodeItem_any A n c _ w h (hu.drop 4) hl,.inl rfl⟩
   ·refine ⟨(zeroItm,1),fun A n c w h=>?_,.inr ⟨by simp,decodeOf_long (hu.drop 4) (by omega)⟩⟩
    have h2:=h.len
    rw [byteRows_length] at h2
    have h3:=h.nc
    have h5:=h.cm
    unfold maxLen at h5
    exact DecodeItem_long A n c w (by omega) (by omega)
  have hdf:r.2=0→checkItem r.1=0:=fun h=>by
   rcases hr0 with rfl|⟨h1,_⟩
   ·exact (decode_fix (hu.drop 4) h).1
   ·exact absurd h h1
  have HN0:=hide (show O=if r.2=0∧numberOk tv=true then some (.line tv r.1) else none by
   rw [HD.out,if_neg (by omega),if_pos ⟨by omega,rfl⟩]
   rcases hr0 with rfl|⟨h1,h2⟩
   ·rfl
   ·rw [if_neg (fun h=>h2 h.1),if_neg (fun h=>h1 h.1)])
  obtain ⟨x,en⟩:=r
  unfold DecPost DecV at hrd
  simp only at hdf HN0 hrd
  have HRD:=hide hrd
  have HDF:=hide hdf
  have s1':∀ w,(Instr.slice 113 (.slice (some ⟨b,off,none⟩) n c) (some (.int .i64 1)) none none).run Tryz.prog w = .ok (.slice (cutA (some ⟨b,off,none⟩) c 1 1) (n - 1) (c - 1)) w:=fun w=>s1 w (by omega)
  have s4':∀ w,(Instr.slice 113 (.slice (some ⟨b,off,none⟩) n c) (some (.int .i64 4)) none none).run Tryz.prog w = .ok (.slice (cutA (some ⟨b,off,none⟩) c 4 1) (n - 4) (c - 4)) w:=fun w=>s4 w (by omega)
  clear HD s1 s4 s7 HV4 hu hrd hdf hr0 hc hS hA k0
  have e5:((n:Int) == 5)=true∨((n:Int) == 5)=false:=by cases ((n:Int) == 5) <;> simp
  have main:∀ bb:Bool,((n:Int) == 5)=bb→Calls Tryz.prog 170 #[.slice (some ⟨b,off,none⟩) n c] w (DecRPost O w):=by
   intro bb e5
   cases bb
   all_goals
    go_enter Tryz.func170,Tryz.ntmps170
    go_upto_region 7 with fail
    obtain ⟨w0,hw0⟩:∃ w0,w0=(w.alloc (.cells #[.int .i64 0,.int .i64 0,.int .i64 0,.int .i64 0,.int .i64 0,.int .i64 0,.bool false,.int .i64 0,.int .i64 0,.int .i64 0,.string { data:=#[] },.string { data:=#[] },.string { data:=#[] },.int .i64 0,.int .i64 0,.int .i64 0,.int .i64 0,.slice none 0 0,.int .i64 0,.slice none 0 0] 205)).alloc (.cells #[.int .i64 0,.int .i64 0,.int .i64 0,.int .i64 0,.int .i64 0,.int .i64 0,.bool false,.int .i64 0,.int .i64 0,.int .i64 0,.string { data:=#[] },.string { data:=#[] },.string { data:=#[] },.int .i64 0,.int .i64 0,.int .i64 0,.int .i64 0,.slice none 0 0,.int .i64 0,.slice none 0 0] 205):=⟨_,rfl⟩
    rw [←hw0] at Z0 R0 q0 ⊢
    clear hw0 k1
    go_wp2_with fail
    refine (HV1.out _ q0 (by omega)).mono ?_
    rintro e_ w3 ⟨rfl,b3⟩
    replace R0:=R0.below' b3
    replace Z0:=Z0.below' b3
    have q3:=bstep q0 b3
    clear b3 q0 HV1
    go_upto_region 8 with (refine wpList_store_blk rfl 205 _ _ rfl (cells:=#[.int .i64 2,.int .i64 0,.int .i64 0,.int .i64 tv,.int .i64 0,.int .i64 0,.bool false,.int .i64 0,.int .i64 0,.int .i64 0,.string { data:=#[] },.string { data:=#[] },.string { data:=#[] },.int .i64 0,.int .i64 0,.int .i64 0,.int .i64 0,.slice none 0 0,.int .i64 0,.slice none 0 0]) rfl rfl R0 rfl rec_size (all_one rfl) ?_;intro w4 R4 gr4 sz4)
    have Z4:=grown_blk Z0 gr4 (by omega)
    have q4:=below_grow q3 gr4 q3.size (by omega)
    clear gr4 sz4 R0 Z0 q3
    go_wp2_with fail
    refine (HRD.out _ _ _ _ (HS4.out _ q4)).mono ?_
    rintro e_ w5 ⟨rfl,b5⟩
    have R5:=R4.below' b5
    have Z5:=Z4.below' b5
    have q5:=bstep q4 b5
    have hr5:=R5.lt
    clear b5 R4 Z4 q4 HRD HS4
    have HE:=hide (rec_item (.int .i64 x.term) (.int .i64 x.time) (.bool x.nop) (.int .i64 x.client) (.int .i64 x.seq) (.int .i64 x.cmd.kind) (.string x.cmd.key) (.string x.cmd.field) (.string x.cmd.text) (.int .i64 x.cmd.n) R5)
    (try clear cR5 fR5);have cR5:=R5.cell;have fR5:=R5.frozen
    go_upto_region 12 with fail
    clear cR5 fR5
    obtain ⟨wk,hwk⟩:∃ wk,wk=(((((((((w5.setCell ⟨w.heap.size+1,4,none⟩ (.int .i64 x.term)).setCell ⟨w.heap.size+1,5,none⟩ (.int .i64 x.time)).setCell ⟨w.heap.size+1,6,none⟩ (.bool x.nop)).setCell ⟨w.heap.size+1,7,none⟩ (.int .i64 x.client)).setCell ⟨w.heap.size+1,8,none⟩ (.int .i64 x.seq)).setCell ⟨w.heap.size+1,9,none⟩ (.int .i64 x.cmd.kind)).setCell ⟨w.heap.size+1,10,none⟩ (.string x.cmd.key)).setCell ⟨w.heap.size+1,11,none⟩ (.string x.cmd.field)).setCell ⟨w.heap.size+1,12,none⟩ (.string x.cmd.text)).setCell ⟨w.heap.size+1,13,none⟩ (.int .i64 x.cmd.n):=⟨_,rfl⟩
    rw [←hwk] at HE ⊢
    clear hwk
    have Rb:=HE.out.1
    have Zk:=grown_blk Z5 HE.out.2.1 (by omega)
    have qk:=below_grow q5 HE.out.2.1 q5.size (by omega)
    clear HE R5 Z5 q5
    by_cases he:en=0
    ·subst he
     have hci:=HDF.out rfl
     by_cases hg1:numberOk tv=true
     ·have HN:=hide (show O=some (.line tv x) by rw [HN0.out,if_pos ⟨rfl,hg1⟩])
      go_upto_region 12 with fail
      refine wp_region_x (l:=[]) (S:=fun w'=>Blk w' (w.heap.size+1) 205 #[.int .i64 2,.int .i64 0,.int .i64 0,.int .i64 tv,.int .i64 x.term,.int .i64 x.time,.bool x.nop,.int .i64 x.client,.int .i64 x.seq,.int .i64 x.cmd.kind,.string x.cmd.key,.string x.cmd.field,.string x.cmd.text,.int .i64 x.cmd.n,.int .i64 0,.int .i64 0,.int .i64 0,.slice none 0 0,.int .i64 0,.slice none 0 0]) (by kernel_rfl) Rb.drew (fun hS=>?_)
      replace Zk:=Zk.drew
      replace qk:=qk.drew
      clear Rb
      obtain ⟨wd,hwd⟩:∃ wd,wd=wk.drew:=⟨_,rfl⟩
      have bd:Below wk.heap.size wk wd:=by rw [hwd];exact (Below.refl _ wk).drew
      rw [←hwd] at hS Zk qk ⊢
      clear hwd
      refine wpAnyX_tq 0 ?_ (hy:=yieldsIf_load_blk (by rfl) 205 _ rfl rfl (fun w' h=>h) Tryz.underlying205 rfl rec_size)
      refine wpAnyX_tq 1 ?_
      refine wpAnyX_tq 2 ?_
      refine wpAnyX_tq 3 ?_
      refine wpAnyX_tq 4 ?_ (hy:=yieldsIf_load_blk (by rfl) 205 _ rfl rfl (fun w' h=>h) Tryz.underlying205 rfl rec_size)
      refine wpAnyX_onew (i:=5) (by kernel_rfl) rfl (by rfl) (fun K hK=>?_);(try simp only [List.getElem_toArray,List.getElem_cons_zero,List.getElem_cons_succ])
      go_wp2_with fail
      refine (CheckLine_ok tv x hg1 hci _).mono ?_
      rintro e_ w8 ⟨rfl,b8⟩
      go_wp2_with fail
      replace Zk:=Zk.below' b8
      have hR8:=hS.below' b8
      have qz:=bstep qk b8
      refine hK.out _ _ (Or.inr hR8) (fun hS=>?_)
      replace hS:=hS.resolve_left (by decide)
      clear hK K hR8
      refine wpAnyX_tq 6 ?_
      refine wpAnyX_tq 7 ?_
      refine wpAnyX_oq 8 fun K hK=>?_
      refine wpList_store_blk rfl 205 _ _ rfl (cells:=#[.int .i64 2,.int .i64 0,.int .i64 0,.int .i64 tv,.int .i64 x.term,.int .i64 x.time,.bool x.nop,.int .i64 x.client,.int .i64 x.seq,.int .i64 x.cmd.kind,.string x.cmd.key,.string x.cmd.field,.string x.cmd.text,.int .i64 x.cmd.n,.int .i64 0,.int .i64 0,.int .i64 0,.slice none 0 0,.int .i64 0,.slice none 0 0]) rfl rfl Zk rfl rec_size (all_one rfl) ?_
      intro w9 Z9 gr9 sz9
      have ZK8:=Zk
      refine hK.out _ _ (Or.inr (grown_blk hS gr9 (by omega))) (fun hS9=>?_)
      replace hS9:=hS9.resolve_left (by decide)
      clear hK K
      refine wpAnyX_oq 9 fun K hK=>?_
      go_wp2_with fail
      refine hK.out _ _ (Or.inr hS9) (fun _=>?_)
      clear hK K hS9 hS
      refine wpAnyX_done (by kernel_rfl) ?_ _
      have HP:=hide (show DecRPost O w (.returned (.tuple #[.agg #[.int .i64 2,.int .i64 0,.int .i64 0,.int .i64 tv,.int .i64 x.term,.int .i64 x.time,.bool x.nop,.int .i64 x.client,.int .i64 x.seq,.int .i64 x.cmd.kind,.string x.cmd.key,.string x.cmd.field,.string x.cmd.text,.int .i64 x.cmd.n,.int .i64 0,.int .i64 0,.int .i64 0,.slice none 0 0,.int .i64 0,.slice none 0 0],.bool true])) w9 from ⟨_,true,rfl,rfl,all_one rfl,fun r h=>⟨rfl,(by rw [HN.out] at h;injection h with h;subst h;exact rfl)⟩,fun h=>(by rw [HN.out] at h;cases h),below_grow qz gr9 (by simpa using qz.size) (Nat.le_refl _)⟩)
      clear gr9 sz9
      go_wp2_with fail
      have hlv:(loadVar 205 ⟨w.heap.size,0,none⟩).run Tryz.prog w9 = .ok (.agg #[.int .i64 2,.int .i64 0,.int .i64 0,.int .i64 tv,.int .i64 x.term,.int .i64 x.time,.bool x.nop,.int .i64 x.client,.int .i64 x.seq,.int .i64 x.cmd.kind,.string x.cmd.key,.string x.cmd.field,.string x.cmd.text,.int .i64 x.cmd.n,.int .i64 0,.int .i64 0,.int .i64 0,.slice none 0 0,.int .i64 0,.slice none 0 0]) w9:=run_loadVar_row w9 _ _ _ _ (0,0) _ Z9 Tryz.underlying205 rfl rec_size
      refine bodyPost_ret (v:=.tuple #[.agg #[.int .i64 2,.int .i64 0,.int .i64 0,.int .i64 tv,.int .i64 x.term,.int .i64 x.time,.bool x.nop,.int .i64 x.client,.int .i64 x.seq,.int .i64 x.cmd.kind,.string x.cmd.key,.string x.cmd.field,.string x.cmd.text,.int .i64 x.cmd.n,.int .i64 0,.int .i64 0,.int .i64 0,.slice none 0 0,.int .i64 0,.slice none 0 0],.bool true]) ?_ rfl HP.out
      simp only [results,Tryz.results170]
      simp [asAddr,Act.put,hlv]
     ·have HN:=hide (show O=none by rw [HN0.out,if_neg (fun h=>hg1 h.2)])
      go_upto_region 12 with fail
      refine wp_region_x (l:=[]) (S:=fun w'=>Blk w' (w.heap.size+1) 205 #[.int .i64 2,.int .i64 0,.int .i64 0,.int .i64 tv,.int .i64 x.term,.int .i64 x.time,.bool x.nop,.int .i64 x.client,.int .i64 x.seq,.int .i64 x.cmd.kind,.string x.cmd.key,.string x.cmd.field,.string x.cmd.text,.int .i64 x.cmd.n,.int .i64 0,.int .i64 0,.int .i64 0,.slice none 0 0,.int .i64 0,.slice none 0 0]) (by kernel_rfl) Rb.drew (fun hS=>?_)
      replace Zk:=Zk.drew
      replace qk:=qk.drew
      clear Rb
      obtain ⟨wd,hwd⟩:∃ wd,wd=wk.drew:=⟨_,rfl⟩
      have bd:Below wk.heap.size wk wd:=by rw [hwd];exact (Below.refl _ wk).drew
      rw [←hwd] at hS Zk qk ⊢
      clear hwd
      refine wpAnyX_tq 0 ?_ (hy:=yieldsIf_load_blk (by rfl) 205 _ rfl rfl (fun w' h=>h) Tryz.underlying205 rfl rec_size)
      refine wpAnyX_tq 1 ?_
      refine wpAnyX_tq 2 ?_
      refine wpAnyX_tq 3 ?_
      refine wpAnyX_tq 4 ?_ (hy:=yieldsIf_load_blk (by rfl) 205 _ rfl rfl (fun w' h=>h) Tryz.underlying205 rfl rec_size)
      refine wpAnyX_onew (i:=5) (by kernel_rfl) rfl (by rfl) (fun K hK=>?_);(try simp only [List.getElem_toArray,List.getElem_cons_zero,List.getElem_cons_succ])
      go_wp2_with fail
      refine (CheckLine_bad tv x (by simpa using hg1) _).mono ?_
      rintro e_ w8 ⟨rfl,b8⟩
      go_wp2_with fail
      replace Zk:=Zk.below' b8
      have hR8:=hS.below' b8
      have qz:=bstep qk b8
      refine hK.out _ _ (Or.inr hR8) (fun hS=>?_)
      replace hS:=hS.resolve_left (by decide)
      clear hK K hR8
      refine wpAnyX_tq 6 ?_
      refine wpAnyX_tq 7 ?_
      refine wpAnyX_oq 8 fun K hK=>?_
      refine wpList_store_blk rfl 205 _ _ rfl (cells:=#[.int .i64 2,.int .i64 0,.int .i64 0,.int .i64 tv,.int .i64 x.term,.int .i64 x.time,.bool x.nop,.int .i64 x.client,.int .i64 x.seq,.int .i64 x.cmd.kind,.string x.cmd.key,.string x.cmd.field,.string x.cmd.text,.int .i64 x.cmd.n,.int .i64 0,.int .i64 0,.int .i64 0,.slice none 0 0,.int .i64 0,.slice none 0 0]) rfl rfl Zk rfl rec_size (all_one rfl) ?_
      intro w9 Z9 gr9 sz9
      have ZK8:=Zk
      refine hK.out _ _ (Or.inr (grown_blk hS gr9 (by omega))) (fun hS9=>?_)
      replace hS9:=hS9.resolve_left (by decide)
      clear hK K
      refine wpAnyX_oq 9 fun K hK=>?_
      go_wp2_with fail
      refine hK.out _ _ (Or.inr hS9) (fun _=>?_)
      clear hK K hS9 hS
      refine wpAnyX_done (by kernel_rfl) ?_ _
      have HP:=hide (show DecRPost O w (.returned (.tuple #[.agg #[.int .i64 2,.int .i64 0,.int .i64 0,.int .i64 tv,.int .i64 x.term,.int .i64 x.time,.bool x.nop,.int .i64 x.client,.int .i64 x.seq,.int .i64 x.cmd.kind,.string x.cmd.key,.string x.cmd.field,.string x.cmd.text,.int .i64 x.cmd.n,.int .i64 0,.int .i64 0,.int .i64 0,.slice none 0 0,.int .i64 0,.slice none 0 0],.bool false])) w9 from ⟨_,false,rfl,rfl,all_one rfl,fun r h=>(by rw [HN.out] at h;cases h),fun _=>rfl,below_grow qz gr9 (by simpa using qz.size) (Nat.le_refl _)⟩)
      clear gr9 sz9
      go_wp2_with fail
      have hlv:(loadVar 205 ⟨w.heap.size,0,none⟩).run Tryz.prog w9 = .ok (.agg #[.int .i64 2,.int .i64 0,.int .i64 0,.int .i64 tv,.int .i64 x.term,.int .i64 x.time,.bool x.nop,.int .i64 x.client,.int .i64 x.seq,.int .i64 x.cmd.kind,.string x.cmd.key,.string x.cmd.field,.string x.cmd.text,.int .i64 x.cmd.n,.int .i64 0,.int .i64 0,.int .i64 0,.slice none 0 0,.int .i64 0,.slice none 0 0]) w9:=run_loadVar_row w9 _ _ _ _ (0,0) _ Z9 Tryz.underlying205 rfl rec_size
      refine bodyPost_ret (v:=.tuple #[.agg #[.int .i64 2,.int .i64 0,.int .i64 0,.int .i64 tv,.int .i64 x.term,.int .i64 x.time,.bool x.nop,.int .i64 x.client,.int .i64 x.seq,.int .i64 x.cmd.kind,.string x.cmd.key,.string x.cmd.field,.string x.cmd.text,.int .i64 x.cmd.n,.int .i64 0,.int .i64 0,.int .i64 0,.slice none 0 0,.int .i64 0,.slice none 0 0],.bool false]) ?_ rfl HP.out
      simp only [results,Tryz.results170]
      simp [asAddr,Act.put,hlv]
    ·have HN:=hide (show O=none by rw [HN0.out,if_neg (fun h=>he h.1)])
     have heb:(en == 0)=false:=by simpa using he
     clear he
     go_upto_region 12 with fail
     refine wp_region_x (l:=[]) (S:=fun w'=>Blk w' (w.heap.size+1) 205 #[.int .i64 2,.int .i64 0,.int .i64 0,.int .i64 tv,.int .i64 x.term,.int .i64 x.time,.bool x.nop,.int .i64 x.client,.int .i64 x.seq,.int .i64 x.cmd.kind,.string x.cmd.key,.string x.cmd.field,.string x.cmd.text,.int .i64 x.cmd.n,.int .i64 0,.int .i64 0,.int .i64 0,.slice none 0 0,.int .i64 0,.slice none 0 0]) (by kernel_rfl) Rb.drew (fun hS=>?_)
     replace Zk:=Zk.drew
     replace qk:=qk.drew
     clear Rb
     obtain ⟨wd,hwd⟩:∃ wd,wd=wk.drew:=⟨_,rfl⟩
     have bd:Below wk.heap.size wk wd:=by rw [hwd];exact (Below.refl _ wk).drew
     rw [←hwd] at hS Zk qk ⊢
     clear hwd
     refine wpAnyX_tq 0 ?_ (hy:=yieldsIf_load_blk (by rfl) 205 _ rfl rfl (fun w' h=>h) Tryz.underlying205 rfl rec_size)
     refine wpAnyX_tq 1 ?_
     refine wpAnyX_tq 2 ?_
     refine wpAnyX_tq 3 ?_
     have qz:=qk
     refine wpAnyX_sq 4 ?_
     refine wpAnyX_sq 5 ?_
     refine wpAnyX_sq 6 ?_
     refine wpAnyX_tq 7 ?_
     refine wpAnyX_oq 8 fun K hK=>?_
     refine wpList_store_blk rfl 205 _ _ rfl (cells:=#[.int .i64 2,.int .i64 0,.int .i64 0,.int .i64 tv,.int .i64 x.term,.int .i64 x.time,.bool x.nop,.int .i64 x.client,.int .i64 x.seq,.int .i64 x.cmd.kind,.string x.cmd.key,.string x.cmd.field,.string x.cmd.text,.int .i64 x.cmd.n,.int .i64 0,.int .i64 0,.int .i64 0,.slice none 0 0,.int .i64 0,.slice none 0 0]) rfl rfl Zk rfl rec_size (all_one rfl) ?_
     intro w9 Z9 gr9 sz9
     have ZK8:=Zk
     refine hK.out _ _ (Or.inr (grown_blk hS gr9 (by omega))) (fun hS9=>?_)
     replace hS9:=hS9.resolve_left (by decide)
     clear hK K
     refine wpAnyX_oq 9 fun K hK=>?_
     go_wp2_with fail
     refine hK.out _ _ (Or.inr hS9) (fun _=>?_)
     clear hK K hS9 hS
     refine wpAnyX_done (by kernel_rfl) ?_ _
     have HP:=hide (show DecRPost O w (.returned (.tuple #[.agg #[.int .i64 2,.int .i64 0,.int .i64 0,.int .i64 tv,.int .i64 x.term,.int .i64 x.time,.bool x.nop,.int .i64 x.client,.int .i64 x.seq,.int .i64 x.cmd.kind,.string x.cmd.key,.string x.cmd.field,.string x.cmd.text,.int .i64 x.cmd.n,.int .i64 0,.int .i64 0,.int .i64 0,.slice none 0 0,.int .i64 0,.slice none 0 0],.bool false])) w9 from ⟨_,false,rfl,rfl,all_one rfl,fun r h=>(by rw [HN.out] at h;cases h),fun _=>rfl,below_grow qz gr9 (by simpa using qz.size) (Nat.le_refl _)⟩)
     clear gr9 sz9
     go_wp2_with fail
     have hlv:(loadVar 205 ⟨w.heap.size,0,none⟩).run Tryz.prog w9 = .ok (.agg #[.int .i64 2,.int .i64 0,.int .i64 0,.int .i64 tv,.int .i64 x.term,.int .i64 x.time,.bool x.nop,.int .i64 x.client,.int .i64 x.seq,.int .i64 x.cmd.kind,.string x.cmd.key,.string x.cmd.field,.string x.cmd.text,.int .i64 x.cmd.n,.int .i64 0,.int .i64 0,.int .i64 0,.slice none 0 0,.int .i64 0,.slice none 0 0]) w9:=run_loadVar_row w9 _ _ _ _ (0,0) _ Z9 Tryz.underlying205 rfl rec_size
     refine bodyPost_ret (v:=.tuple #[.agg #[.int .i64 2,.int .i64 0,.int .i64 0,.int .i64 tv,.int .i64 x.term,.int .i64 x.time,.bool x.nop,.int .i64 x.client,.int .i64 x.seq,.int .i64 x.cmd.kind,.string x.cmd.key,.string x.cmd.field,.string x.cmd.text,.int .i64 x.cmd.n,.int .i64 0,.int .i64 0,.int .i64 0,.slice none 0 0,.int .i64 0,.slice none 0 0],.bool false]) ?_ rfl HP.out
     simp only [results,Tryz.results170]
     simp [asAddr,Act.put,hlv]
  exact main _ rfl
 by_cases hC:7<n∧x=3
 ·obtain ⟨hn7,rfl⟩:=hC
  obtain ⟨uv,huv⟩:∃ uv,uv=val3 ((.int .u8 3 :: l').drop 4):=⟨_,rfl⟩
  have hub:0≤uv∧uv<16777216:=by rw [huv];exact val3_bd (hu.drop 4)
  rw [←huv] at HD HV4
  clear huv
  have HS7:=hide (fun w' (q:Below w.heap.size w w')=>show Sl w' 1 _ _ _ (byteRows ((.int .u8 3 :: l').drop 7)) by have:=(hS.below q).drop 7 (by omega) c (Nat.le_refl _) hnc;rwa [byteRows_drop] at this)
  have hrd:=fun A n c w (h:Sl w 1 A n c (byteRows ((.int .u8 3 :: l').drop 7)))=>Decode_any A n c _ w h (hu.drop 7)
  have hdf:=fun h=>(decM_ok (l:=(.int .u8 3 :: l').drop 7) (hu.drop 7) h).1
  have HN0:=hide (show O=if (decM ((.int .u8 3 :: l').drop 7)).2=0∧numberOk tv=true∧numberOk uv=true then some (.load tv uv (decM ((.int .u8 3 :: l').drop 7)).1) else none by
   rw [HD.out,if_neg (by omega),if_neg (by omega),if_pos ⟨by omega,rfl⟩])
  generalize decM ((.int .u8 3 :: l').drop 7)=r at *
  obtain ⟨m,en⟩:=r
  unfold DecMPost at hrd
  simp only at hdf HN0 hrd
  have HRD:=hide hrd
  have HDF:=hide hdf
  have s1':∀ w,(Instr.slice 113 (.slice (some ⟨b,off,none⟩) n c) (some (.int .i64 1)) none none).run Tryz.prog w = .ok (.slice (cutA (some ⟨b,off,none⟩) c 1 1) (n - 1) (c - 1)) w:=fun w=>s1 w (by omega)
  have s4':∀ w,(Instr.slice 113 (.slice (some ⟨b,off,none⟩) n c) (some (.int .i64 4)) none none).run Tryz.prog w = .ok (.slice (cutA (some ⟨b,off,none⟩) c 4 1) (n - 4) (c - 4)) w:=fun w=>s4 w (by omega)
  have s7':∀ w,(Instr.slice 113 (.slice (some ⟨b,off,none⟩) n c) (some (.int .i64 7)) none none).run Tryz.prog w = .ok (.slice (cutA (some ⟨b,off,none⟩) c 7 1) (n - 7) (c - 7)) w:=fun w=>s7 w (by omega)
  have e5:((n:Int) == 5)=false:=by simp;omega
  have g7:(7:Int)<(n:Int):=by omega
  clear HD s1 s4 s7 hu hrd hdf hc hS hA k0
  go_enter Tryz.func170,Tryz.ntmps170
  go_upto_region 10 with fail
  obtain ⟨w0,hw0⟩:∃ w0,w0=(w.alloc (.cells #[.int .i64 0,.int .i64 0,.int .i64 0,.int .i64 0,.int .i64 0,.int .i64 0,.bool false,.int .i64 0,.int .i64 0,.int .i64 0,.string { data:=#[] },.string { data:=#[] },.string { data:=#[] },.int .i64 0,.int .i64 0,.int .i64 0,.int .i64 0,.slice none 0 0,.int .i64 0,.slice none 0 0] 205)).alloc (.cells #[.int .i64 0,.int .i64 0,.int .i64 0,.int .i64 0,.int .i64 0,.int .i64 0,.bool false,.int .i64 0,.int .i64 0,.int .i64 0,.string { data:=#[] },.string { data:=#[] },.string { data:=#[] },.int .i64 0,.int .i64 0,.int .i64 0,.int .i64 0,.slice none 0 0,.int .i64 0,.slice none 0 0] 205):=⟨_,rfl⟩
  rw [←hw0] at Z0 R0 q0 ⊢
  clear hw0 k1
  refine wp_region_x (l:=[]) (S:=fun _=>True) (by kernel_rfl) trivial (fun hS=>?_)
  replace R0:=R0.drew;replace Z0:=Z0.drew;replace q0:=q0.drew
  obtain ⟨wd,hwd⟩:∃ wd,wd=w0.drew:=⟨_,rfl⟩
  rw [←hwd] at R0 Z0 q0 ⊢
  clear hwd
  refine wpAnyX_tq 0 ?_
  refine wpAnyX_tq 1 ?_
  refine wpAnyX_tq 3 ?_
  refine wpAnyX_tq 4 ?_
  refine wpAnyX_oq 2 fun K hK=>?_
  go_wp2_with fail
  refine (HV1.out _ q0 (by omega)).mono ?_
  rintro e_ w3 ⟨rfl,b3⟩
  go_wp2_with fail
  replace R0:=R0.below' b3
  replace Z0:=Z0.below' b3
  have q3:=bstep q0 b3
  refine hK.out _ _ (Or.inr trivial) (fun _=>?_)
  clear hK K b3 q0 HV1
  refine wpAnyX_oq 5 fun K hK=>?_
  go_wp2_with fail
  refine (HV4.out _ q3 (by omega)).mono ?_
  rintro e_ w4 ⟨rfl,b4⟩
  go_wp2_with fail
  replace R0:=R0.below' b4
  replace Z0:=Z0.below' b4
  have q4:=bstep q3 b4
  refine hK.out _ _ (Or.inr trivial) (fun _=>?_)
  clear hK K b4 q3 HV4
  refine wpAnyX_tq 6 ?_
  refine wpAnyX_tq 7 ?_
  refine wpAnyX_oq 8 fun K hK=>?_
  refine wpList_store_blk rfl 205 _ _ rfl (cells:=#[.int .i64 3,.int .i64 0,.int .i64 0,.int .i64 0,.int .i64 0,.int .i64 0,.bool false,.int .i64 0,.int .i64 0,.int .i64 0,.string { data:=#[] },.string { data:=#[] },.string { data:=#[] },.int .i64 0,.int .i64 tv,.int .i64 uv,.int .i64 0,.slice none 0 0,.int .i64 0,.slice none 0 0]) rfl rfl R0 rfl rec_size (all_one rfl) ?_
  intro w5 R5 gr5 sz5
  have Z5:=grown_blk Z0 gr5 (by omega)
  have q5:=below_grow q4 gr5 q4.size (by omega)
  refine hK.out _ _ (Or.inr trivial) (fun _=>?_)
  clear hK K gr5 sz5 R0 Z0 q4 hS
  refine wpAnyX_done (by kernel_rfl) ?_ _
  go_wp2_with fail
  refine (HRD.out _ _ _ _ (HS7.out _ q5)).mono ?_
  rintro e_ w6 ⟨EA,en_,ec,CA,cn,cc,rfl,hE,hC,b6⟩
  have R6:=R5.below' b6
  have Z6:=Z5.below' b6
  have q6:=bstep q5 b6
  have hr6:=R6.lt
  clear b6 R5 Z5 q5 HRD HS7
  have HE:=hide (rec_mach (.int .i64 m.now) (.slice EA en_ ec) (.int .i64 m.next) (.slice CA cn cc) R6)
  (try clear cR6 fR6);have cR6:=R6.cell;have fR6:=R6.frozen
  go_upto_region 12 with fail
  clear cR6 fR6
  obtain ⟨wk,hwk⟩:∃ wk,wk=(((w6.setCell ⟨w.heap.size+1,16,none⟩ (.int .i64 m.now)).setCell ⟨w.heap.size+1,17,none⟩ (.slice EA en_ ec)).setCell ⟨w.heap.size+1,18,none⟩ (.int .i64 m.next)).setCell ⟨w.heap.size+1,19,none⟩ (.slice CA cn cc):=⟨_,rfl⟩
  rw [←hwk] at HE ⊢
  clear hwk
  have Rb:=HE.out.1
  have Zk:=grown_blk Z6 HE.out.2.1 (by omega)
  have qk:=below_grow q6 HE.out.2.1 q6.size (by omega)
  have hEk:=hE.grown R6 HE.out.2.1
  have hCk:=hC.grown R6 HE.out.2.1
  clear HE R6 Z6 q6 hE hC
  by_cases he:en=0
  ·subst he
   have hci:=HDF.out rfl
   have HCK:=hide (fun w' (q:Below wk.heap.size wk w')=>CheckLoad_any tv uv m EA CA en_ ec cn cc w' (hEk.bl q).sl (hCk.bl q).sl (by have:=hEk.sl.len;have:=hci.sto.few;omega) (by have:=hCk.sl.len;have:=hci.few;omega) (fun x hx=>by obtain ⟨a,b,d⟩:=hci.sto.small x hx;exact ⟨by omega,by omega,by omega⟩) (fun x hx=>by have:=rep_to (hci.cli x hx).rep;exact ⟨by have:=this.text;omega,by have:=this.few;omega⟩))
   by_cases hg:(numberOk tv && numberOk uv)=true
   ·have hcs:csM tv uv m=0:=by unfold csM;rw [if_pos hg,ok_mach hci]
    rw [hcs] at HCK
    have HN:=hide (show O=some (.load tv uv m) by rw [HN0.out,if_pos ⟨rfl,by simpa using hg⟩])
    have HRA:=hide (And.intro hEk hCk)
    clear hEk hCk hcs
    go_upto_region 12 with fail
    refine wp_region_x (l:=[]) (S:=fun w'=>Blk w' (w.heap.size+1) 205 #[.int .i64 3,.int .i64 0,.int .i64 0,.int .i64 0,.int .i64 0,.int .i64 0,.bool false,.int .i64 0,.int .i64 0,.int .i64 0,.string { data:=#[] },.string { data:=#[] },.string { data:=#[] },.int .i64 0,.int .i64 tv,.int .i64 uv,.int .i64 m.now,.slice EA en_ ec,.int .i64 m.next,.slice CA cn cc]) (by kernel_rfl) Rb.drew (fun hS=>?_)
    replace Zk:=Zk.drew
    replace qk:=qk.drew
    clear Rb
    obtain ⟨wd,hwd⟩:∃ wd,wd=wk.drew:=⟨_,rfl⟩
    have bd:Below wk.heap.size wk wd:=by rw [hwd];exact (Below.refl _ wk).drew
    rw [←hwd] at hS Zk qk ⊢
    clear hwd
    refine wpAnyX_tq 0 ?_ (hy:=yieldsIf_load_blk (by rfl) 205 _ rfl rfl (fun w' h=>h) Tryz.underlying205 rfl rec_size)
    refine wpAnyX_tq 1 ?_
    refine wpAnyX_tq 2 ?_
    refine wpAnyX_tq 3 ?_
    refine wpAnyX_tq 4 ?_ (hy:=yieldsIf_load_blk (by rfl) 205 _ rfl rfl (fun w' h=>h) Tryz.underlying205 rfl rec_size)
    refine wpAnyX_onew (i:=5) (by kernel_rfl) rfl (by rfl) (fun K hK=>?_);(try simp only [List.getElem_toArray,List.getElem_cons_zero,List.getElem_cons_succ])
    go_wp2_with fail
    refine (HCK.out _ bd).mono ?_
    rintro e_ w8 ⟨rfl,b8⟩
    go_wp2_with fail
    replace Zk:=Zk.below' b8
    have hR8:=hS.below' b8
    have qz:=bstep qk b8
    refine hK.out _ _ (Or.inr hR8) (fun hS=>?_)
    replace hS:=hS.resolve_left (by decide)
    clear hK K hR8
    refine wpAnyX_tq 6 ?_
    refine wpAnyX_tq 7 ?_
    refine wpAnyX_oq 8 fun K hK=>?_
    refine wpList_store_blk rfl 205 _ _ rfl (cells:=#[.int .i64 3,.int .i64 0,.int .i64 0,.int .i64 0,.int .i64 0,.int .i64 0,.bool false,.int .i64 0,.int .i64 0,.int .i64 0,.string { data:=#[] },.string { data:=#[] },.string { data:=#[] },.int .i64 0,.int .i64 tv,.int .i64 uv,.int .i64 m.now,.slice EA en_ ec,.int .i64 m.next,.slice CA cn cc]) rfl rfl Zk rfl rec_size (all_one rfl) ?_
    intro w9 Z9 gr9 sz9
    have ZK8:=Zk
    refine hK.out _ _ (Or.inr (grown_blk hS gr9 (by omega))) (fun hS9=>?_)
    replace hS9:=hS9.resolve_left (by decide)
    clear hK K
    refine wpAnyX_oq 9 fun K hK=>?_
    go_wp2_with fail
    refine hK.out _ _ (Or.inr hS9) (fun _=>?_)
    clear hK K hS9 hS
    refine wpAnyX_done (by kernel_rfl) ?_ _
    have HP:=hide (show DecRPost O w (.returned (.tuple #[.agg #[.int .i64 3,.int .i64 0,.int .i64 0,.int .i64 0,.int .i64 0,.int .i64 0,.bool false,.int .i64 0,.int .i64 0,.int .i64 0,.string { data:=#[] },.string { data:=#[] },.string { data:=#[] },.int .i64 0,.int .i64 tv,.int .i64 uv,.int .i64 m.now,.slice EA en_ ec,.int .i64 m.next,.slice CA cn cc],.bool true])) w9 from ⟨_,true,rfl,rfl,all_one rfl,fun r h=>⟨rfl,(by rw [HN.out] at h;injection h with h;subst h;exact (show RecAt w9 (.load tv uv m) _ from ⟨EA,en_,ec,CA,cn,cc,rfl,(HRA.out.1.bl (bstep bd b8)).grown ZK8 gr9,(HRA.out.2.bl (bstep bd b8)).grown ZK8 gr9⟩))⟩,fun h=>(by rw [HN.out] at h;cases h),below_grow qz gr9 (by simpa using qz.size) (Nat.le_refl _)⟩)
    clear gr9 sz9
    go_wp2_with fail
    have hlv:(loadVar 205 ⟨w.heap.size,0,none⟩).run Tryz.prog w9 = .ok (.agg #[.int .i64 3,.int .i64 0,.int .i64 0,.int .i64 0,.int .i64 0,.int .i64 0,.bool false,.int .i64 0,.int .i64 0,.int .i64 0,.string { data:=#[] },.string { data:=#[] },.string { data:=#[] },.int .i64 0,.int .i64 tv,.int .i64 uv,.int .i64 m.now,.slice EA en_ ec,.int .i64 m.next,.slice CA cn cc]) w9:=run_loadVar_row w9 _ _ _ _ (0,0) _ Z9 Tryz.underlying205 rfl rec_size
    refine bodyPost_ret (v:=.tuple #[.agg #[.int .i64 3,.int .i64 0,.int .i64 0,.int .i64 0,.int .i64 0,.int .i64 0,.bool false,.int .i64 0,.int .i64 0,.int .i64 0,.string { data:=#[] },.string { data:=#[] },.string { data:=#[] },.int .i64 0,.int .i64 tv,.int .i64 uv,.int .i64 m.now,.slice EA en_ ec,.int .i64 m.next,.slice CA cn cc],.bool true]) ?_ rfl HP.out
    simp only [results,Tryz.results170]
    simp [asAddr,Act.put,hlv]
   ·have hcs:csM tv uv m=2:=by unfold csM;rw [if_neg hg]
    rw [hcs] at HCK
    have HN:=hide (show O=none by rw [HN0.out,if_neg (fun h=>hg (by simp [h.2.1,h.2.2]))])
    clear hEk hCk hcs
    go_upto_region 12 with fail
    refine wp_region_x (l:=[]) (S:=fun w'=>Blk w' (w.heap.size+1) 205 #[.int .i64 3,.int .i64 0,.int .i64 0,.int .i64 0,.int .i64 0,.int .i64 0,.bool false,.int .i64 0,.int .i64 0,.int .i64 0,.string { data:=#[] },.string { data:=#[] },.string { data:=#[] },.int .i64 0,.int .i64 tv,.int .i64 uv,.int .i64 m.now,.slice EA en_ ec,.int .i64 m.next,.slice CA cn cc]) (by kernel_rfl) Rb.drew (fun hS=>?_)
    replace Zk:=Zk.drew
    replace qk:=qk.drew
    clear Rb
    obtain ⟨wd,hwd⟩:∃ wd,wd=wk.drew:=⟨_,rfl⟩
    have bd:Below wk.heap.size wk wd:=by rw [hwd];exact (Below.refl _ wk).drew
    rw [←hwd] at hS Zk qk ⊢
    clear hwd
    refine wpAnyX_tq 0 ?_ (hy:=yieldsIf_load_blk (by rfl) 205 _ rfl rfl (fun w' h=>h) Tryz.underlying205 rfl rec_size)
    refine wpAnyX_tq 1 ?_
    refine wpAnyX_tq 2 ?_
    refine wpAnyX_tq 3 ?_
    refine wpAnyX_tq 4 ?_ (hy:=yieldsIf_load_blk (by rfl) 205 _ rfl rfl (fun w' h=>h) Tryz.underlying205 rfl rec_size)
    refine wpAnyX_onew (i:=5) (by kernel_rfl) rfl (by rfl) (fun K hK=>?_);(try simp only [List.getElem_toArray,List.getElem_cons_zero,List.getElem_cons_succ])
    go_wp2_with fail
    refine (HCK.out _ bd).mono ?_
    rintro e_ w8 ⟨rfl,b8⟩
    go_wp2_with fail
    replace Zk:=Zk.below' b8
    have hR8:=hS.below' b8
    have qz:=bstep qk b8
    refine hK.out _ _ (Or.inr hR8) (fun hS=>?_)
    replace hS:=hS.resolve_left (by decide)
    clear hK K hR8
    refine wpAnyX_tq 6 ?_
    refine wpAnyX_tq 7 ?_
    refine wpAnyX_oq 8 fun K hK=>?_
    refine wpList_store_blk rfl 205 _ _ rfl (cells:=#[.int .i64 3,.int .i64 0,.int .i64 0,.int .i64 0,.int .i64 0,.int .i64 0,.bool false,.int .i64 0,.int .i64 0,.int .i64 0,.string { data:=#[] },.string { data:=#[] },.string { data:=#[] },.int .i64 0,.int .i64 tv,.int .i64 uv,.int .i64 m.now,.slice EA en_ ec,.int .i64 m.next,.slice CA cn cc]) rfl rfl Zk rfl rec_size (all_one rfl) ?_
    intro w9 Z9 gr9 sz9
    have ZK8:=Zk
    refine hK.out _ _ (Or.inr (grown_blk hS gr9 (by omega))) (fun hS9=>?_)
    replace hS9:=hS9.resolve_left (by decide)
    clear hK K
    refine wpAnyX_oq 9 fun K hK=>?_
    go_wp2_with fail
    refine hK.out _ _ (Or.inr hS9) (fun _=>?_)
    clear hK K hS9 hS
    refine wpAnyX_done (by kernel_rfl) ?_ _
    have HP:=hide (show DecRPost O w (.returned (.tuple #[.agg #[.int .i64 3,.int .i64 0,.int .i64 0,.int .i64 0,.int .i64 0,.int .i64 0,.bool false,.int .i64 0,.int .i64 0,.int .i64 0,.string { data:=#[] },.string { data:=#[] },.string { data:=#[] },.int .i64 0,.int .i64 tv,.int .i64 uv,.int .i64 m.now,.slice EA en_ ec,.int .i64 m.next,.slice CA cn cc],.bool false])) w9 from ⟨_,false,rfl,rfl,all_one rfl,fun r h=>(by rw [HN.out] at h;cases h),fun _=>rfl,below_grow qz gr9 (by simpa using qz.size) (Nat.le_refl _)⟩)
    clear gr9 sz9
    go_wp2_with fail
    have hlv:(loadVar 205 ⟨w.heap.size,0,none⟩).run Tryz.prog w9 = .ok (.agg #[.int .i64 3,.int .i64 0,.int .i64 0,.int .i64 0,.int .i64 0,.int .i64 0,.bool false,.int .i64 0,.int .i64 0,.int .i64 0,.string { data:=#[] },.string { data:=#[] },.string { data:=#[] },.int .i64 0,.int .i64 tv,.int .i64 uv,.int .i64 m.now,.slice EA en_ ec,.int .i64 m.next,.slice CA cn cc]) w9:=run_loadVar_row w9 _ _ _ _ (0,0) _ Z9 Tryz.underlying205 rfl rec_size
    refine bodyPost_ret (v:=.tuple #[.agg #[.int .i64 3,.int .i64 0,.int .i64 0,.int .i64 0,.int .i64 0,.int .i64 0,.bool false,.int .i64 0,.int .i64 0,.int .i64 0,.string { data:=#[] },.string { data:=#[] },.string { data:=#[] },.int .i64 0,.int .i64 tv,.int .i64 uv,.int .i64 m.now,.slice EA en_ ec,.int .i64 m.next,.slice CA cn cc],.bool false]) ?_ rfl HP.out
    simp only [results,Tryz.results170]
    simp [asAddr,Act.put,hlv]
  ·have HN:=hide (show O=none by rw [HN0.out,if_neg (fun h=>he h.1)])
   have heb:(en == 0)=false:=by simpa using he
   clear he hEk hCk
   go_upto_region 12 with fail
   refine wp_region_x (l:=[]) (S:=fun w'=>Blk w' (w.heap.size+1) 205 #[.int .i64 3,.int .i64 0,.int .i64 0,.int .i64 0,.int .i64 0,.int .i64 0,.bool false,.int .i64 0,.int .i64 0,.int .i64 0,.string { data:=#[] },.string { data:=#[] },.string { data:=#[] },.int .i64 0,.int .i64 tv,.int .i64 uv,.int .i64 m.now,.slice EA en_ ec,.int .i64 m.next,.slice CA cn cc]) (by kernel_rfl) Rb.drew (fun hS=>?_)
   replace Zk:=Zk.drew
   replace qk:=qk.drew
   clear Rb
   obtain ⟨wd,hwd⟩:∃ wd,wd=wk.drew:=⟨_,rfl⟩
   have bd:Below wk.heap.size wk wd:=by rw [hwd];exact (Below.refl _ wk).drew
   rw [←hwd] at hS Zk qk ⊢
   clear hwd
   refine wpAnyX_tq 0 ?_ (hy:=yieldsIf_load_blk (by rfl) 205 _ rfl rfl (fun w' h=>h) Tryz.underlying205 rfl rec_size)
   refine wpAnyX_tq 1 ?_
   refine wpAnyX_tq 2 ?_
   refine wpAnyX_tq 3 ?_
   have qz:=qk
   refine wpAnyX_sq 4 ?_
   refine wpAnyX_sq 5 ?_
   refine wpAnyX_sq 6 ?_
   refine wpAnyX_tq 7 ?_
   refine wpAnyX_oq 8 fun K hK=>?_
   refine wpList_store_blk rfl 205 _ _ rfl (cells:=#[.int .i64 3,.int .i64 0,.int .i64 0,.int .i64 0,.int .i64 0,.int .i64 0,.bool false,.int .i64 0,.int .i64 0,.int .i64 0,.string { data:=#[] },.string { data:=#[] },.string { data:=#[] },.int .i64 0,.int .i64 tv,.int .i64 uv,.int .i64 m.now,.slice EA en_ ec,.int .i64 m.next,.slice CA cn cc]) rfl rfl Zk rfl rec_size (all_one rfl) ?_
   intro w9 Z9 gr9 sz9
   have ZK8:=Zk
   refine hK.out _ _ (Or.inr (grown_blk hS gr9 (by omega))) (fun hS9=>?_)
   replace hS9:=hS9.resolve_left (by decide)
   clear hK K
   refine wpAnyX_oq 9 fun K hK=>?_
   go_wp2_with fail
   refine hK.out _ _ (Or.inr hS9) (fun _=>?_)
   clear hK K hS9 hS
   refine wpAnyX_done (by kernel_rfl) ?_ _
   have HP:=hide (show DecRPost O w (.returned (.tuple #[.agg #[.int .i64 3,.int .i64 0,.int .i64 0,.int .i64 0,.int .i64 0,.int .i64 0,.bool false,.int .i64 0,.int .i64 0,.int .i64 0,.string { data:=#[] },.string { data:=#[] },.string { data:=#[] },.int .i64 0,.int .i64 tv,.int .i64 uv,.int .i64 m.now,.slice EA en_ ec,.int .i64 m.next,.slice CA cn cc],.bool false])) w9 from ⟨_,false,rfl,rfl,all_one rfl,fun r h=>(by rw [HN.out] at h;cases h),fun _=>rfl,below_grow qz gr9 (by simpa using qz.size) (Nat.le_refl _)⟩)
   clear gr9 sz9
   go_wp2_with fail
   have hlv:(loadVar 205 ⟨w.heap.size,0,none⟩).run Tryz.prog w9 = .ok (.agg #[.int .i64 3,.int .i64 0,.int .i64 0,.int .i64 0,.int .i64 0,.int .i64 0,.bool false,.int .i64 0,.int .i64 0,.int .i64 0,.string { data:=#[] },.string { data:=#[] },.string { data:=#[] },.int .i64 0,.int .i64 tv,.int .i64 uv,.int .i64 m.now,.slice EA en_ ec,.int .i64 m.next,.slice CA cn cc]) w9:=run_loadVar_row w9 _ _ _ _ (0,0) _ Z9 Tryz.underlying205 rfl rec_size
   refine bodyPost_ret (v:=.tuple #[.agg #[.int .i64 3,.int .i64 0,.int .i64 0,.int .i64 0,.int .i64 0,.int .i64 0,.bool false,.int .i64 0,.int .i64 0,.int .i64 0,.string { data:=#[] },.string { data:=#[] },.string { data:=#[] },.int .i64 0,.int .i64 tv,.int .i64 uv,.int .i64 m.now,.slice EA en_ ec,.int .i64 m.next,.slice CA cn cc],.bool false]) ?_ rfl HP.out
   simp only [results,Tryz.results170]
   simp [asAddr,Act.put,hlv]
 have HN:=hide (show O=none by rw [HD.out,if_neg hA,if_neg (by omega),if_neg hC])
 have hx2:(x == 2)=false:=by simpa using hB
 clear HD s1 s4 s7 HV1 HV4 hu
 by_cases hn5:n=5
 ·subst hn5
  have hx1_:(x == 1)=false:=by simp;omega
  have g7:¬ ((7:Int)<((5:Nat):Int)):=by omega
  clear hA hC
  go_enter Tryz.func170,Tryz.ntmps170
  have qz:=q0
  go_wp2_with (first|(refine wpList_load_blk rfl 205 _ rfl rfl R0 Tryz.underlying205 rfl rec_size ?_)|(refine wpList_store_blk rfl 205 _ _ rfl (cells:=#[.int .i64 0,.int .i64 0,.int .i64 0,.int .i64 0,.int .i64 0,.int .i64 0,.bool false,.int .i64 0,.int .i64 0,.int .i64 0,.string { data:=#[] },.string { data:=#[] },.string { data:=#[] },.int .i64 0,.int .i64 0,.int .i64 0,.int .i64 0,.slice none 0 0,.int .i64 0,.slice none 0 0]) rfl rfl Z0 rfl rec_size (all_one rfl) ?_;intro w9 Z9 gr9 sz9))
  have HP:=hide (show DecRPost O w (.returned (.tuple #[.agg #[.int .i64 0,.int .i64 0,.int .i64 0,.int .i64 0,.int .i64 0,.int .i64 0,.bool false,.int .i64 0,.int .i64 0,.int .i64 0,.string { data:=#[] },.string { data:=#[] },.string { data:=#[] },.int .i64 0,.int .i64 0,.int .i64 0,.int .i64 0,.slice none 0 0,.int .i64 0,.slice none 0 0],.bool false])) w9 from ⟨_,false,rfl,rfl,all_one rfl,fun r h=>(by rw [HN.out] at h;cases h),fun _=>rfl,below_grow qz gr9 (by simpa using qz.size) (Nat.le_refl _)⟩)
  clear gr9 sz9
  go_wp2_with fail
  have hlv:(loadVar 205 ⟨w.heap.size,0,none⟩).run Tryz.prog w9 = .ok (.agg #[.int .i64 0,.int .i64 0,.int .i64 0,.int .i64 0,.int .i64 0,.int .i64 0,.bool false,.int .i64 0,.int .i64 0,.int .i64 0,.string { data:=#[] },.string { data:=#[] },.string { data:=#[] },.int .i64 0,.int .i64 0,.int .i64 0,.int .i64 0,.slice none 0 0,.int .i64 0,.slice none 0 0]) w9:=run_loadVar_row w9 _ _ _ _ (0,0) _ Z9 Tryz.underlying205 rfl rec_size
  refine bodyPost_ret (v:=.tuple #[.agg #[.int .i64 0,.int .i64 0,.int .i64 0,.int .i64 0,.int .i64 0,.int .i64 0,.bool false,.int .i64 0,.int .i64 0,.int .i64 0,.string { data:=#[] },.string { data:=#[] },.string { data:=#[] },.int .i64 0,.int .i64 0,.int .i64 0,.int .i64 0,.slice none 0 0,.int .i64 0,.slice none 0 0],.bool false]) ?_ rfl HP.out
  simp only [results,Tryz.results170]
  simp [asAddr,Act.put,hlv]
 have e5:((n:Int) == 5)=false:=by simp;omega
 by_cases hn7:7<n
 ·have hx3:(x == 3)=false:=by simp;omega
  have g7:(7:Int)<(n:Int):=by omega
  clear hA hC
  go_enter Tryz.func170,Tryz.ntmps170
  have qz:=q0
  go_wp2_with (first|(refine wpList_load_blk rfl 205 _ rfl rfl R0 Tryz.underlying205 rfl rec_size ?_)|(refine wpList_store_blk rfl 205 _ _ rfl (cells:=#[.int .i64 0,.int .i64 0,.int .i64 0,.int .i64 0,.int .i64 0,.int .i64 0,.bool false,.int .i64 0,.int .i64 0,.int .i64 0,.string { data:=#[] },.string { data:=#[] },.string { data:=#[] },.int .i64 0,.int .i64 0,.int .i64 0,.int .i64 0,.slice none 0 0,.int .i64 0,.slice none 0 0]) rfl rfl Z0 rfl rec_size (all_one rfl) ?_;intro w9 Z9 gr9 sz9))
  have HP:=hide (show DecRPost O w (.returned (.tuple #[.agg #[.int .i64 0,.int .i64 0,.int .i64 0,.int .i64 0,.int .i64 0,.int .i64 0,.bool false,.int .i64 0,.int .i64 0,.int .i64 0,.string { data:=#[] },.string { data:=#[] },.string { data:=#[] },.int .i64 0,.int .i64 0,.int .i64 0,.int .i64 0,.slice none 0 0,.int .i64 0,.slice none 0 0],.bool false])) w9 from ⟨_,false,rfl,rfl,all_one rfl,fun r h=>(by rw [HN.out] at h;cases h),fun _=>rfl,below_grow qz gr9 (by simpa using qz.size) (Nat.le_refl _)⟩)
  clear gr9 sz9
  go_wp2_with fail
  have hlv:(loadVar 205 ⟨w.heap.size,0,none⟩).run Tryz.prog w9 = .ok (.agg #[.int .i64 0,.int .i64 0,.int .i64 0,.int .i64 0,.int .i64 0,.int .i64 0,.bool false,.int .i64 0,.int .i64 0,.int .i64 0,.string { data:=#[] },.string { data:=#[] },.string { data:=#[] },.int .i64 0,.int .i64 0,.int .i64 0,.int .i64 0,.slice none 0 0,.int .i64 0,.slice none 0 0]) w9:=run_loadVar_row w9 _ _ _ _ (0,0) _ Z9 Tryz.underlying205 rfl rec_size
  refine bodyPost_ret (v:=.tuple #[.agg #[.int .i64 0,.int .i64 0,.int .i64 0,.int .i64 0,.int .i64 0,.int .i64 0,.bool false,.int .i64 0,.int .i64 0,.int .i64 0,.string { data:=#[] },.string { data:=#[] },.string { data:=#[] },.int .i64 0,.int .i64 0,.int .i64 0,.int .i64 0,.slice none 0 0,.int .i64 0,.slice none 0 0],.bool false]) ?_ rfl HP.out
  simp only [results,Tryz.results170]
  simp [asAddr,Act.put,hlv]
 have g7:¬ ((7:Int)<(n:Int)):=by omega
 clear hA hC
 go_enter Tryz.func170,Tryz.ntmps170
 have qz:=q0
 go_wp2_with (first|(refine wpList_load_blk rfl 205 _ rfl rfl R0 Tryz.underlying205 rfl rec_size ?_)|(refine wpList_store_blk rfl 205 _ _ rfl (cells:=#[.int .i64 0,.int .i64 0,.int .i64 0,.int .i64 0,.int .i64 0,.int .i64 0,.bool false,.int .i64 0,.int .i64 0,.int .i64 0,.string { data:=#[] },.string { data:=#[] },.string { data:=#[] },.int .i64 0,.int .i64 0,.int .i64 0,.int .i64 0,.slice none 0 0,.int .i64 0,.slice none 0 0]) rfl rfl Z0 rfl rec_size (all_one rfl) ?_;intro w9 Z9 gr9 sz9))
 have HP:=hide (show DecRPost O w (.returned (.tuple #[.agg #[.int .i64 0,.int .i64 0,.int .i64 0,.int .i64 0,.int .i64 0,.int .i64 0,.bool false,.int .i64 0,.int .i64 0,.int .i64 0,.string { data:=#[] },.string { data:=#[] },.string { data:=#[] },.int .i64 0,.int .i64 0,.int .i64 0,.int .i64 0,.slice none 0 0,.int .i64 0,.slice none 0 0],.bool false])) w9 from ⟨_,false,rfl,rfl,all_one rfl,fun r h=>(by rw [HN.out] at h;cases h),fun _=>rfl,below_grow qz gr9 (by simpa using qz.size) (Nat.le_refl _)⟩)
 clear gr9 sz9
 go_wp2_with fail
 have hlv:(loadVar 205 ⟨w.heap.size,0,none⟩).run Tryz.prog w9 = .ok (.agg #[.int .i64 0,.int .i64 0,.int .i64 0,.int .i64 0,.int .i64 0,.int .i64 0,.bool false,.int .i64 0,.int .i64 0,.int .i64 0,.string { data:=#[] },.string { data:=#[] },.string { data:=#[] },.int .i64 0,.int .i64 0,.int .i64 0,.int .i64 0,.slice none 0 0,.int .i64 0,.slice none 0 0]) w9:=run_loadVar_row w9 _ _ _ _ (0,0) _ Z9 Tryz.underlying205 rfl rec_size
 refine bodyPost_ret (v:=.tuple #[.agg #[.int .i64 0,.int .i64 0,.int .i64 0,.int .i64 0,.int .i64 0,.int .i64 0,.bool false,.int .i64 0,.int .i64 0,.int .i64 0,.string { data:=#[] },.string { data:=#[] },.string { data:=#[] },.int .i64 0,.int .i64 0,.int .i64 0,.int .i64 0,.slice none 0 0,.int .i64 0,.slice none 0 0],.bool false]) ?_ rfl HP.out
 simp only [results,Tryz.results170]
 simp [asAddr,Act.put,hlv]
end Go.Proofs.YtgdcofbnbiclmaaGreatDoor

